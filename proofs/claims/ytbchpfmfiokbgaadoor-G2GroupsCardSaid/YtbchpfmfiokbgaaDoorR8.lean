/-
  Part 8 of the joined texts of the curves' laws: The second group's laws: what they share: the walks. Conditions: of the generator, what HeadOk says.
  Conditions: those that each theorem states.
-/
import Derived.Test.YtbchpfmfiokbgaaDoorR7
import Derived.Test.YtbchpfmfiokbgaaDoorR6
import Derived.Test.YtbchpfmfiokbgaaDoorR3
/- The second group's laws: what they share: the walks. Conditions: of the generator, what HeadOk says. -/
namespace Go.Cw
open Go Go.Vm Go.RowKit Go.Proofs Go.Cu
attribute [local irreducible] W OpsW Det Fresh New Writes Vm.Pure Makes Changes ExternTo BuildTo ZeroTo FieldTo IndexTo BinTo SliceTo Vm.Enters
set_option linter.unusedVariables false
set_option linter.unusedSimpArgs false
variable {T : Nat → TypeId × Nat × Nat}

def lambdaB (p q r : Pt) : Bool := decide ((p.1 + q.1 + r.1) * ((q.1 - p.1) * (q.1 - p.1)) = (q.2 - p.2) * (q.2 - p.2))
def threeB (p : Pt) : Bool :=
  let s := p.1 * p.1 * (p.1 * p.1)
  let u := p.1 * (p.2 * p.2)
  let n := s + s + s
  let nine := n + n + n
  let v := u + u + u
  let w := v + v
  decide (nine = w + w)
/-- What the head asks of the generator. -/
structure HeadOk : Prop where
  h1 : onB gen = true
  h2 : onB (padd gen gen) = true
  h3 : (!decide (padd gen gen = gen)) = true
  h4 : (!decide (padd gen gen = (0, 0))) = true
  h5 : decide (times [2] gen = padd gen gen) = true
  h6 : decide (padd gen (pneg gen) = (0, 0)) = true
  h7 : (!odd2 gen.1) = true

theorem en36 : Vm.Enters Tryd.prog 36 := Vm.Enters.of fun _ _ => by kernel_rfl
theorem en39 : Vm.Enters Tryd.prog 39 := Vm.Enters.of fun _ _ => by kernel_rfl
theorem en42 : Vm.Enters Tryd.prog 42 := Vm.Enters.of fun _ _ => by kernel_rfl
theorem en74 : Vm.Enters Tryd.prog 74 := Vm.Enters.of fun _ _ => by kernel_rfl
theorem lambda_ok {p q r : Pt} {w : World} (hG : Blocks (GH T) w)  : Vm.Pure Tryd.prog 91 #[encP p, encP q, encP r] w (.bool (lambdaB p q r)) := by
  refine pure_of_W (n := 33) (args := [encP p, encP q, encP r]) Tryd.func91 rfl Tryd.ntmps91 (Nat.le_of_ble_eq_true rfl) hG ?_
  refine sStart ?_
  refine sSeq ?_
  refine W.region ?_
  refine OpsW.fresh (fr_boxW59 rfl) rfl fun b3 => ?_
  refine OpsW.fresh (fr_boxW59 rfl) rfl fun b4 => ?_
  refine OpsW.fresh (fr_boxW59 rfl) rfl fun b5 => ?_
  refine OpsW.det (det_assign rfl) rfl ?_
  refine sNext ?_
  refine W.keep (F' := [(5, _), (4, _), (3, _)]) ⟨rfl, rfl, rfl, trivial⟩ ?_
  refine sSeq ?_
  refine W.region ?_
  refine OpsW.det (det_fieldAddr fl59_0 rfl) rfl ?_
  refine OpsW.det (det_loadA ty57 rfl (List.Mem.tail _ (List.Mem.head _)) rfl) rfl ?_
  refine OpsW.det (det_fieldAddr fl59_0 rfl) rfl ?_
  refine OpsW.det (det_loadA ty57 rfl (List.Mem.tail _ (List.Mem.tail _ (List.Mem.head _))) rfl) rfl ?_
  refine OpsW.det (det_call en89 rfl (fun w hb ho => Sub_ok ho.blocks)) rfl ?_
  refine OpsW.fresh (fr_alloc z57r) rfl fun b7 => ?_
  refine OpsW.storeW57 rfl rfl (Upd.here) ?_
  refine sNext ?_
  refine W.keep (F' := [(7, _), (5, _), (4, _), (3, _)]) ⟨rfl, rfl, rfl, rfl, trivial⟩ ?_
  refine sSeq ?_
  refine W.region ?_
  refine OpsW.det (det_fieldAddr fl59_1 rfl) rfl ?_
  refine OpsW.det (det_loadA ty57 rfl (List.Mem.tail _ (List.Mem.tail _ (List.Mem.head _))) rfl) rfl ?_
  refine OpsW.det (det_fieldAddr fl59_1 rfl) rfl ?_
  refine OpsW.det (det_loadA ty57 rfl (List.Mem.tail _ (List.Mem.tail _ (List.Mem.tail _ (List.Mem.head _)))) rfl) rfl ?_
  refine OpsW.det (det_call en89 rfl (fun w hb ho => Sub_ok ho.blocks)) rfl ?_
  refine OpsW.fresh (fr_alloc z57r) rfl fun b8 => ?_
  refine OpsW.storeW57 rfl rfl (Upd.here) ?_
  refine sNext ?_
  refine W.keep (F' := [(8, _), (7, _), (5, _), (4, _), (3, _)]) ⟨rfl, rfl, rfl, rfl, rfl, trivial⟩ ?_
  refine sSeq ?_
  refine W.draw mixed 15 [[], [0], [], [2], [0, 1, 2, 3], [], [5], [0, 1, 2, 3, 4, 5, 6], [], [0, 1, 2, 3, 4, 5, 6, 7, 8], [0, 1, 2, 3, 4, 5, 6, 7, 8, 9], [], [0, 1, 2, 3, 4, 5, 6, 7, 8, 9, 10, 11], [0, 1, 2, 3, 4, 5, 6, 7, 8, 9, 10, 11, 12], [0, 1, 2, 3, 4, 5, 6, 7, 8, 9, 10, 11, 12, 13]] (cl_lt (by decide)) ?_
  refine HeadR.start (cl_lt (by decide)) ?_
  refine HeadR.det rfl (fun β hβ => (det_fieldAddr fl59_0 rfl)) ?_
  refine HeadR.det rfl (fun β hβ => (det_loadA ty57 rfl (List.Mem.tail _ (List.Mem.tail _ (List.Mem.tail _ (List.Mem.tail _ (List.Mem.head _))))) rfl)) ?_
  refine HeadR.det rfl (fun β hβ => (det_fieldAddr fl59_0 rfl)) ?_
  refine HeadR.det rfl (fun β hβ => (det_loadA ty57 rfl (List.Mem.tail _ (List.Mem.tail _ (List.Mem.tail _ (List.Mem.head _)))) rfl)) ?_
  refine HeadR.det rfl (fun β hβ => (det_call en47 rfl (fun w hb ho => Add_ok ho.blocks))) ?_
  refine HeadR.det rfl (fun β hβ => (det_fieldAddr fl59_0 rfl)) ?_
  refine HeadR.det rfl (fun β hβ => (det_loadA ty57 rfl (List.Mem.tail _ (List.Mem.tail _ (List.Mem.head _))) rfl)) ?_
  refine HeadR.det rfl (fun β hβ => (det_call en47 rfl (fun w hb ho => Add_ok ho.blocks))) ?_
  refine HeadR.det rfl (fun β hβ => (det_loadW57 rfl (List.Mem.tail _ (List.Mem.head _)))) ?_
  refine HeadR.det rfl (fun β hβ => (det_call en80 rfl (fun w hb ho => Square_ok ho.blocks))) ?_
  refine HeadR.det rfl (fun β hβ => (det_call en81 rfl (fun w hb ho => Mul_ok ho.blocks))) ?_
  refine HeadR.det rfl (fun β hβ => (det_loadW57 rfl (List.Mem.head _))) ?_
  refine HeadR.det rfl (fun β hβ => (det_call en80 rfl (fun w hb ho => Square_ok ho.blocks))) ?_
  refine HeadR.det rfl (fun β hβ => (det_eql57 rfl rfl)) ?_
  refine HeadR.det rfl (fun β hβ => (det_assign rfl)) ?_
  refine HeadR.done ⟨by kernel_rfl, fun β hβ => ?_⟩
  refine OpsW.norm (F' := [(19, _), (20, _), (21, _), (22, _), (23, _), (24, _), (25, _), (26, _), (27, _), (28, _), (29, _), (30, _), (31, _), (32, _), (6, _), (8, _), (7, _), (5, _), (4, _), (3, _)]) (H' := [(_, _), (_, _), (_, _), (_, _), (_, _)]) rfl rfl ?_
  refine sNext ?_
  refine W.keep (F' := [(6, _)]) ⟨rfl, trivial⟩ ?_
  refine sRet ?_
  exact done1 Tryd.results91 (rv_tmp rfl) rfl
theorem three_ok {p : Pt} {w : World} (hG : Blocks (GH T) w)  : Vm.Pure Tryd.prog 90 #[encP p] w (.bool (threeB p)) := by
  refine pure_of_W (n := 40) (args := [encP p]) Tryd.func90 rfl Tryd.ntmps90 (Nat.le_of_ble_eq_true rfl) hG ?_
  refine sStart ?_
  refine sSeq ?_
  refine W.region ?_
  refine OpsW.fresh (fr_boxW59 rfl) rfl fun b1 => ?_
  refine OpsW.det (det_assign rfl) rfl ?_
  refine sNext ?_
  refine W.keep (F' := [(1, _)]) ⟨rfl, trivial⟩ ?_
  refine sSeq ?_
  refine W.region ?_
  refine OpsW.det (det_fieldAddr fl59_0 rfl) rfl ?_
  refine OpsW.det (det_loadA ty57 rfl (List.Mem.head _) rfl) rfl ?_
  refine OpsW.det (det_call en80 rfl (fun w hb ho => Square_ok ho.blocks)) rfl ?_
  refine OpsW.det (det_call en80 rfl (fun w hb ho => Square_ok ho.blocks)) rfl ?_
  refine OpsW.fresh (fr_alloc z57r) rfl fun b3 => ?_
  refine OpsW.storeW57 rfl rfl (Upd.here) ?_
  refine sNext ?_
  refine W.keep (F' := [(3, _), (1, _)]) ⟨rfl, rfl, trivial⟩ ?_
  refine sSeq ?_
  refine W.draw mixed 7 [[], [0], [], [2], [2, 3], [0, 1, 2, 3, 4], [], [0, 1, 2, 3, 4, 5, 6]] (cl_lt (by decide)) ?_
  refine HeadR.start (cl_lt (by decide)) ?_
  refine HeadR.det rfl (fun β hβ => (det_fieldAddr fl59_0 rfl)) ?_
  refine HeadR.det rfl (fun β hβ => (det_loadA ty57 rfl (List.Mem.tail _ (List.Mem.head _)) rfl)) ?_
  refine HeadR.det rfl (fun β hβ => (det_fieldAddr fl59_1 rfl)) ?_
  refine HeadR.det rfl (fun β hβ => (det_loadA ty57 rfl (List.Mem.tail _ (List.Mem.head _)) rfl)) ?_
  refine HeadR.det rfl (fun β hβ => (det_call en80 rfl (fun w hb ho => Square_ok ho.blocks))) ?_
  refine HeadR.det rfl (fun β hβ => (det_call en81 rfl (fun w hb ho => Mul_ok ho.blocks))) ?_
  refine HeadR.fresh rfl (fun β hβ => (fr_alloc z57r).new) ?_
  refine HeadR.done ⟨by kernel_rfl, fun β hβ => ?_⟩
  refine OpsW.norm (F' := [(11, _), (12, _), (13, _), (14, _), (15, _), (16, _), (4, .pointer (some ⟨(β 4).1, 0, none⟩)), (3, _), (1, _)]) (H' := [(_, _), (_, _), (_, _)]) rfl rfl ?_
  generalize (β 4).1 = b4
  refine OpsW.storeW57 rfl rfl (Upd.here) ?_
  refine sNext ?_
  refine W.keep (F' := [(4, _), (3, _)]) ⟨rfl, rfl, trivial⟩ ?_
  refine sSeq ?_
  refine W.draw mixed 6 [[], [], [0, 1], [], [0, 1, 2, 3], [], [0, 1, 2, 3, 4, 5]] (cl_lt (by decide)) ?_
  refine HeadR.start (cl_lt (by decide)) ?_
  refine HeadR.det rfl (fun β hβ => (det_loadW57 rfl (List.Mem.tail _ (List.Mem.head _)))) ?_
  refine HeadR.det rfl (fun β hβ => (det_loadW57 rfl (List.Mem.tail _ (List.Mem.head _)))) ?_
  refine HeadR.det rfl (fun β hβ => (det_call en47 rfl (fun w hb ho => Add_ok ho.blocks))) ?_
  refine HeadR.det rfl (fun β hβ => (det_loadW57 rfl (List.Mem.tail _ (List.Mem.head _)))) ?_
  refine HeadR.det rfl (fun β hβ => (det_call en47 rfl (fun w hb ho => Add_ok ho.blocks))) ?_
  refine HeadR.fresh rfl (fun β hβ => (fr_alloc z57r).new) ?_
  refine HeadR.done ⟨by kernel_rfl, fun β hβ => ?_⟩
  refine OpsW.norm (F' := [(17, _), (18, _), (19, _), (20, _), (21, _), (5, .pointer (some ⟨(β 5).1, 0, none⟩)), (4, _), (3, _)]) (H' := [(_, _), (_, _), (_, _), (_, _)]) rfl rfl ?_
  generalize (β 5).1 = b5
  refine OpsW.storeW57 rfl rfl (Upd.here) ?_
  refine sNext ?_
  refine W.keep (F' := [(5, _), (4, _)]) ⟨rfl, rfl, trivial⟩ ?_
  refine sSeq ?_
  refine W.draw mixed 5 [[], [], [0, 1], [], [0, 1, 2, 3], [0, 1, 2, 3, 4]] (cl_lt (by decide)) ?_
  refine HeadR.start (cl_lt (by decide)) ?_
  refine HeadR.det rfl (fun β hβ => (det_loadW57 rfl (List.Mem.head _))) ?_
  refine HeadR.det rfl (fun β hβ => (det_loadW57 rfl (List.Mem.head _))) ?_
  refine HeadR.det rfl (fun β hβ => (det_call en47 rfl (fun w hb ho => Add_ok ho.blocks))) ?_
  refine HeadR.det rfl (fun β hβ => (det_loadW57 rfl (List.Mem.head _))) ?_
  refine HeadR.det rfl (fun β hβ => (det_call en47 rfl (fun w hb ho => Add_ok ho.blocks))) ?_
  refine HeadR.done ⟨by kernel_rfl, fun β hβ => ?_⟩
  refine OpsW.norm (F' := [(22, _), (23, _), (24, _), (25, _), (26, _), (5, _), (4, _)]) (H' := [(_, _), (_, _), (_, _), (_, _)]) rfl rfl ?_
  refine OpsW.storeW57 rfl rfl (Upd.here) ?_
  refine sNext ?_
  refine W.keep (F' := [(5, _), (4, _)]) ⟨rfl, rfl, trivial⟩ ?_
  refine sSeq ?_
  refine W.draw mixed 6 [[], [], [0, 1], [], [0, 1, 2, 3], [], [0, 1, 2, 3, 4, 5]] (cl_lt (by decide)) ?_
  refine HeadR.start (cl_lt (by decide)) ?_
  refine HeadR.det rfl (fun β hβ => (det_loadW57 rfl (List.Mem.tail _ (List.Mem.head _)))) ?_
  refine HeadR.det rfl (fun β hβ => (det_loadW57 rfl (List.Mem.tail _ (List.Mem.head _)))) ?_
  refine HeadR.det rfl (fun β hβ => (det_call en47 rfl (fun w hb ho => Add_ok ho.blocks))) ?_
  refine HeadR.det rfl (fun β hβ => (det_loadW57 rfl (List.Mem.tail _ (List.Mem.head _)))) ?_
  refine HeadR.det rfl (fun β hβ => (det_call en47 rfl (fun w hb ho => Add_ok ho.blocks))) ?_
  refine HeadR.fresh rfl (fun β hβ => (fr_alloc z57r).new) ?_
  refine HeadR.done ⟨by kernel_rfl, fun β hβ => ?_⟩
  refine OpsW.norm (F' := [(27, _), (28, _), (29, _), (30, _), (31, _), (6, .pointer (some ⟨(β 6).1, 0, none⟩)), (5, _), (4, _)]) (H' := [(_, _), (_, _), (_, _), (_, _), (_, _)]) rfl rfl ?_
  generalize (β 6).1 = b6
  refine OpsW.storeW57 rfl rfl (Upd.here) ?_
  refine sNext ?_
  refine W.keep (F' := [(6, _), (5, _)]) ⟨rfl, rfl, trivial⟩ ?_
  refine sSeq ?_
  refine W.region ?_
  refine OpsW.det (det_loadW57 rfl (List.Mem.head _)) rfl ?_
  refine OpsW.det (det_loadW57 rfl (List.Mem.head _)) rfl ?_
  refine OpsW.det (det_call en47 rfl (fun w hb ho => Add_ok ho.blocks)) rfl ?_
  refine OpsW.storeW57 rfl rfl (Upd.here) ?_
  refine sNext ?_
  refine W.keep (F' := [(6, _), (5, _)]) ⟨rfl, rfl, trivial⟩ ?_
  refine sSeq ?_
  refine W.draw mixed 6 [[], [], [], [1, 2], [0, 1, 2, 3], [0, 1, 2, 3, 4]] (cl_lt (by decide)) ?_
  refine HeadR.start (cl_lt (by decide)) ?_
  refine HeadR.det rfl (fun β hβ => (det_loadW57 rfl (List.Mem.tail _ (List.Mem.head _)))) ?_
  refine HeadR.det rfl (fun β hβ => (det_loadW57 rfl (List.Mem.head _))) ?_
  refine HeadR.det rfl (fun β hβ => (det_loadW57 rfl (List.Mem.head _))) ?_
  refine HeadR.det rfl (fun β hβ => (det_call en47 rfl (fun w hb ho => Add_ok ho.blocks))) ?_
  refine HeadR.det rfl (fun β hβ => (det_eql57 rfl rfl)) ?_
  refine HeadR.det rfl (fun β hβ => (det_assign rfl)) ?_
  refine HeadR.done ⟨by kernel_rfl, fun β hβ => ?_⟩
  refine OpsW.norm (F' := [(35, _), (36, _), (37, _), (38, _), (39, _), (2, _), (6, _), (5, _)]) (H' := [(_, _), (_, _), (_, _), (_, _), (_, _)]) rfl rfl ?_
  refine sNext ?_
  refine W.keep (F' := [(2, _)]) ⟨rfl, trivial⟩ ?_
  refine sRet ?_
  exact done1 Tryd.results90 (rv_tmp rfl) rfl
theorem head_ok (hh : HeadOk) {w : World} (hG : Blocks (GH T) w)  : Vm.Pure Tryd.prog 34 #[] w (.bool true) := by
  refine pure_of_W (n := 44) (args := []) Tryd.func34 rfl Tryd.ntmps34 (Nat.le_of_ble_eq_true rfl) hG ?_
  refine sStart ?_
  refine sSeq ?_
  refine W.region ?_
  refine OpsW.det (det_assign rfl) rfl ?_
  refine sNext ?_
  refine W.keep (F' := []) trivial ?_
  refine sSeq ?_
  refine W.region ?_
  refine OpsW.det (det_call en36 rfl (fun w hb ho => Gen_ok ho.blocks)) rfl ?_
  refine OpsW.fresh (fr_alloc z59r) rfl fun b1 => ?_
  refine OpsW.storeW59 rfl rfl (Upd.here) ?_
  refine sNext ?_
  refine W.keep (F' := [(1, _)]) ⟨rfl, trivial⟩ ?_
  refine sSeq ?_
  refine W.region ?_
  refine OpsW.det (det_loadW59 rfl (List.Mem.head _)) rfl ?_
  refine OpsW.det (det_loadW59 rfl (List.Mem.head _)) rfl ?_
  refine OpsW.det (det_call en39 rfl (fun w hb ho => PAdd_ok ho.blocks)) rfl ?_
  refine OpsW.fresh (fr_alloc z59r) rfl fun b2 => ?_
  refine OpsW.storeW59 rfl rfl (Upd.here) ?_
  refine sNext ?_
  refine W.keep (F' := [(2, _), (1, _)]) ⟨rfl, rfl, trivial⟩ ?_
  refine sSeq ?_
  refine W.draw mixed 38 [[], [0], [0, 1], [0, 1, 2], [0, 1, 2, 3], [0, 1, 2, 3, 4], [0, 1, 2, 3, 4, 5], [0, 1, 2, 3, 4, 5, 6], [0, 1, 2, 3, 4, 5, 6], [0, 1, 2, 3, 4, 5, 6, 7, 8], [0, 1, 2, 3, 4, 5, 6, 7, 8, 9], [0, 1, 2, 3, 4, 5, 6, 7, 8, 9, 10], [0, 1, 2, 3, 4, 5, 6, 7, 8, 9, 10, 11], [0, 1, 2, 3, 4, 5, 6, 7, 8, 9, 10, 11], [0, 1, 2, 3, 4, 5, 6, 7, 8, 9, 10, 11, 12, 13], [0, 1, 2, 3, 4, 5, 6, 7, 8, 9, 10, 11, 12, 13, 14], [0, 1, 2, 3, 4, 5, 6, 7, 8, 9, 10, 11, 12, 13, 14, 15], [0, 1, 2, 3, 4, 5, 6, 7, 8, 9, 10, 11, 12, 13, 14, 15, 16], [0, 1, 2, 3, 4, 5, 6, 7, 8, 9, 10, 11, 12, 13, 14, 15, 16], [0, 1, 2, 3, 4, 5, 6, 7, 8, 9, 10, 11, 12, 13, 14, 15, 16, 17, 18], [0, 1, 2, 3, 4, 5, 6, 7, 8, 9, 10, 11, 12, 13, 14, 15, 16], [0, 1, 2, 3, 4, 5, 6, 7, 8, 9, 10, 11, 12, 13, 14, 15, 16, 17, 18, 19, 20], [0, 1, 2, 3, 4, 5, 6, 7, 8, 9, 10, 11, 12, 13, 14, 15, 16, 17, 18, 19, 20, 21], [0, 1, 2, 3, 4, 5, 6, 7, 8, 9, 10, 11, 12, 13, 14, 15, 16, 17, 18, 19, 20, 21, 22], [0, 1, 2, 3, 4, 5, 6, 7, 8, 9, 10, 11, 12, 13, 14, 15, 16, 17, 18, 19, 20, 21, 22, 23], [0, 1, 2, 3, 4, 5, 6, 7, 8, 9, 10, 11, 12, 13, 14, 15, 16, 17, 18, 19, 20, 21, 22, 23], [0, 1, 2, 3, 4, 5, 6, 7, 8, 9, 10, 11, 12, 13, 14, 15, 16, 17, 18, 19, 20, 21, 22, 23, 25], [0, 1, 2, 3, 4, 5, 6, 7, 8, 9, 10, 11, 12, 13, 14, 15, 16, 17, 18, 19, 20, 21, 22, 23, 24, 25, 26], [0, 1, 2, 3, 4, 5, 6, 7, 8, 9, 10, 11, 12, 13, 14, 15, 16, 17, 18, 19, 20, 21, 22, 23], [0, 1, 2, 3, 4, 5, 6, 7, 8, 9, 10, 11, 12, 13, 14, 15, 16, 17, 18, 19, 20, 21, 22, 23, 24, 25, 26, 27, 28], [0, 1, 2, 3, 4, 5, 6, 7, 8, 9, 10, 11, 12, 13, 14, 15, 16, 17, 18, 19, 20, 21, 22, 23, 24, 25, 26, 27, 28, 29], [0, 1, 2, 3, 4, 5, 6, 7, 8, 9, 10, 11, 12, 13, 14, 15, 16, 17, 18, 19, 20, 21, 22, 23, 24, 25, 26, 27, 28, 29, 30], [0, 1, 2, 3, 4, 5, 6, 7, 8, 9, 10, 11, 12, 13, 14, 15, 16, 17, 18, 19, 20, 21, 22, 23, 24, 25, 26, 27, 28, 29, 30, 31], [0, 1, 2, 3, 4, 5, 6, 7, 8, 9, 10, 11, 12, 13, 14, 15, 16, 17, 18, 19, 20, 21, 22, 23, 24, 25, 26, 27, 28, 29, 30, 31, 32], [0, 1, 2, 3, 4, 5, 6, 7, 8, 9, 10, 11, 12, 13, 14, 15, 16, 17, 18, 19, 20, 21, 22, 23, 24, 25, 26, 27, 28, 29, 30, 31, 32, 33], [0, 1, 2, 3, 4, 5, 6, 7, 8, 9, 10, 11, 12, 13, 14, 15, 16, 17, 18, 19, 20, 21, 22, 23, 24, 25, 26, 27, 28, 29, 30, 31, 32, 33, 34], [0, 1, 2, 3, 4, 5, 6, 7, 8, 9, 10, 11, 12, 13, 14, 15, 16, 17, 18, 19, 20, 21, 22, 23, 24, 25, 26, 27, 28, 29, 30, 31, 32, 33, 34, 35], [0, 1, 2, 3, 4, 5, 6, 7, 8, 9, 10, 11, 12, 13, 14, 15, 16, 17, 18, 19, 20, 21, 22, 23, 24, 25, 26, 27, 28, 29, 30, 31, 32, 33, 34, 35, 36]] (cl_lt (by decide)) ?_
  refine HeadR.start (cl_lt (by decide)) ?_
  refine HeadR.det rfl (fun β hβ => (det_loadW59 rfl (List.Mem.tail _ (List.Mem.head _)))) ?_
  refine HeadR.det rfl (fun β hβ => ((det_call en42 rfl (fun w hb ho => POn_ok (p := gen) ho.blocks)).to (congrArg Value.bool hh.h1))) ?_
  refine HeadR.det rfl (fun β hβ => (det_move rfl)) ?_
  refine HeadR.yes rfl rfl (fun _ _ => rfl) (fun β hβ => (det_loadW59 rfl (List.Mem.head _))) ?_
  refine HeadR.yes rfl rfl (fun _ _ => rfl) (fun β hβ => ((det_call en42 rfl (fun w hb ho => POn_ok (p := padd gen gen) ho.blocks)).to (congrArg Value.bool hh.h2))) ?_
  refine HeadR.det rfl (fun β hβ => (det_pick rfl rfl)) ?_
  refine HeadR.det rfl (fun β hβ => (det_move rfl)) ?_
  refine HeadR.yes rfl rfl (fun _ _ => rfl) (fun β hβ => (det_loadW59 rfl (List.Mem.head _))) ?_
  refine HeadR.yes rfl rfl (fun _ _ => rfl) (fun β hβ => (det_loadW59 rfl (List.Mem.tail _ (List.Mem.head _)))) ?_
  refine HeadR.yes rfl rfl (fun _ _ => rfl) (fun β hβ => ((det_neq59 (a := padd gen gen) (b := gen) rfl rfl).to (congrArg Value.bool hh.h3))) ?_
  refine HeadR.det rfl (fun β hβ => (det_pick rfl rfl)) ?_
  refine HeadR.det rfl (fun β hβ => (det_move rfl)) ?_
  refine HeadR.yes rfl rfl (fun _ _ => rfl) (fun β hβ => (det_loadW59 rfl (List.Mem.head _))) ?_
  refine HeadR.yes rfl rfl (fun _ _ => rfl) (fun β hβ => (det_zero bz59)) ?_
  refine HeadR.yes rfl rfl (fun _ _ => rfl) (fun β hβ => ((det_neq59 (a := padd gen gen) (b := (0, 0)) rfl rfl).to (congrArg Value.bool hh.h4))) ?_
  refine HeadR.det rfl (fun β hβ => (det_pick rfl rfl)) ?_
  refine HeadR.det rfl (fun β hβ => (det_move rfl)) ?_
  refine HeadR.yes rfl rfl (fun _ _ => rfl) (fun β hβ => (det_loadW59 rfl (List.Mem.tail _ (List.Mem.head _)))) ?_
  refine HeadR.yesFresh rfl rfl (fun _ _ => rfl) (fun β hβ => (fr_buildSlice rfl two_sl).new) ?_
  refine HeadR.yes rfl rfl (fun _ _ => rfl) (fun β hβ => (det_call en45 rfl (fun w hb ho => Times_ok (G' := [((β 25).1, blk (bcells [2] ++ []) 5)]) (p := gen) (Bs.of two_small (Nat.le_refl _)) (by decide) (blocks_cons (hb _ (List.Mem.head _)) ho.blocks)))) ?_
  refine HeadR.yes rfl rfl (fun _ _ => rfl) (fun β hβ => (det_loadW59 rfl (List.Mem.head _))) ?_
  refine HeadR.yes rfl rfl (fun _ _ => rfl) (fun β hβ => ((det_eql59 (a := times [2] gen) (b := padd gen gen) rfl rfl).to (congrArg Value.bool hh.h5))) ?_
  refine HeadR.det rfl (fun β hβ => (det_pick rfl rfl)) ?_
  refine HeadR.det rfl (fun β hβ => (det_move rfl)) ?_
  refine HeadR.yes rfl rfl (fun _ _ => rfl) (fun β hβ => (det_loadW59 rfl (List.Mem.tail _ (List.Mem.tail _ (List.Mem.head _))))) ?_
  refine HeadR.yes rfl rfl (fun _ _ => rfl) (fun β hβ => (det_loadW59 rfl (List.Mem.tail _ (List.Mem.tail _ (List.Mem.head _))))) ?_
  refine HeadR.yes rfl rfl (fun _ _ => rfl) (fun β hβ => (det_call en41 rfl (fun w hb ho => PNeg_ok ho.blocks))) ?_
  refine HeadR.yes rfl rfl (fun _ _ => rfl) (fun β hβ => (det_call en39 rfl (fun w hb ho => PAdd_ok ho.blocks))) ?_
  refine HeadR.yes rfl rfl (fun _ _ => rfl) (fun β hβ => (det_zero bz59)) ?_
  refine HeadR.yes rfl rfl (fun _ _ => rfl) (fun β hβ => ((det_eql59 (a := padd gen (pneg gen)) (b := (0, 0)) rfl rfl).to (congrArg Value.bool hh.h6))) ?_
  refine HeadR.det rfl (fun β hβ => (det_pick rfl rfl)) ?_
  refine HeadR.det rfl (fun β hβ => (det_move rfl)) ?_
  refine HeadR.yes rfl rfl (fun _ _ => rfl) (fun β hβ => (det_fieldAddr fl59_0 rfl)) ?_
  refine HeadR.yes rfl rfl (fun _ _ => rfl) (fun β hβ => (det_loadA ty57 rfl (List.Mem.tail _ (List.Mem.tail _ (List.Mem.head _))) rfl)) ?_
  refine HeadR.yes rfl rfl (fun _ _ => rfl) (fun β hβ => (det_call en74 rfl (fun w hb ho => Odd_ok ho.blocks))) ?_
  refine HeadR.yes rfl rfl (fun _ _ => rfl) (fun β hβ => ((det_not rfl).to (congrArg Value.bool hh.h7))) ?_
  refine HeadR.det rfl (fun β hβ => (det_pick rfl rfl)) ?_
  refine HeadR.det rfl (fun β hβ => (det_assign rfl)) ?_
  refine HeadR.done ⟨by kernel_rfl, fun β hβ => ?_⟩
  refine OpsW.norm (F' := ((7, _) :: (8, _) :: (9, _) :: (10, _) :: (11, _) :: (12, _) :: (13, _) :: (14, _) :: (15, _) :: (16, _) :: (17, _) :: (18, _) :: (19, _) :: (20, _) :: (21, _) :: (22, _) :: (23, _) :: (24, _) :: (25, .slice (some ⟨(β 25).1, 0, none⟩) 1 1) :: (26, _) :: (27, _) :: (28, _) :: (29, _) :: (30, _) :: (31, _) :: (32, _) :: (33, _) :: (34, _) :: (35, _) :: (36, _) :: (37, _) :: (38, _) :: (39, _) :: (40, _) :: (41, _) :: (42, _) :: (43, _) :: (0, _) :: (2, _) :: (1, _) :: [])) (H' := [(_, _), (_, _), (_, _)]) rfl rfl ?_
  generalize (β 25).1 = b25
  refine sNext ?_
  refine W.keep (F' := [(0, _)]) ⟨rfl, trivial⟩ ?_
  refine sRet ?_
  exact done1 Tryd.results34 (rv_tmp rfl) rfl

end Go.Cw

/- The second group's laws: G2Rules: the walk. Conditions: the rules that the points obey. -/
namespace Go.Cw
open Go Go.Vm Go.RowKit Go.Proofs Go.Cu
attribute [local irreducible] W OpsW Det Fresh New Writes Vm.Pure Makes Changes ExternTo BuildTo ZeroTo FieldTo IndexTo BinTo SliceTo Vm.Enters
set_option linter.unusedVariables false
set_option linter.unusedSimpArgs false
variable {T : Nat → TypeId × Nat × Nat}

structure RulesOk (p q r : Pt) : Prop where
  r1 : padd (padd p q) r = padd p (padd q r)
  r2 : psum [p, q, r] = padd (padd p q) r
  r3 : padd p (0, 0) = p
  r4 : padd (0, 0) p = p
  r5 : padd p (pneg p) = (0, 0)
  r6 : pneg (pneg p) = p
  r7 : pneg (padd p q) = padd (pneg p) (pneg q)
  r8 : psum [] = (0, 0)
  r9 : pneg (0, 0) = (0, 0)
  r10 : onB (0, 0) = true
theorem slice64 {p q r : Pt} : SliceTo Tryd.prog 64 3 [(0, encP p), (1, encP q), (2, encP r)] (cellsP p ++ cellsP q ++ cellsP r) 59 := SliceTo.of fun _ => by kernel_rfl
theorem pts3 {p q r : Pt} {b : Nat} : Pts [(b, blk (cellsP p ++ cellsP q ++ cellsP r) 59)] (.slice (some ⟨b, 0, none⟩) 3 3) [p, q, r] :=
  ⟨⟨_, _, rfl⟩, fun i h => ⟨b, 0, 3, _, 59, (0, 0), rfl, List.mem_singleton.2 rfl, by
    have h : i < 3 := h
    have : i = 0 ∨ i = 1 ∨ i = 2 := by omega
    rcases this with rfl | rfl | rfl <;> rfl⟩⟩
theorem pts0 : Pts [] (.slice none 0 0) [] := ⟨⟨_, _, rfl⟩, fun i h => absurd h (Nat.not_lt_zero _)⟩
/-- The point that bytes make of the generator. -/
def gp (l : List Nat) : Pt := pmul gen (wide l)
attribute [local irreducible] pmul times padd pneg psum wide gen

theorem en34 : Vm.Enters Tryd.prog 34 := Vm.Enters.of fun _ _ => by kernel_rfl
theorem en35 : Vm.Enters Tryd.prog 35 := Vm.Enters.of fun _ _ => by kernel_rfl
theorem en37 : Vm.Enters Tryd.prog 37 := Vm.Enters.of fun _ _ => by kernel_rfl
theorem en38 : Vm.Enters Tryd.prog 38 := Vm.Enters.of fun _ _ => by kernel_rfl
theorem en40 : Vm.Enters Tryd.prog 40 := Vm.Enters.of fun _ _ => by kernel_rfl
set_option maxHeartbeats 2000000 in
set_option maxRecDepth 100000 in
theorem G2Rules_ok {G' : Hp} {va vb vc : Value} {la lb lc : List Nat} (ha : Bs G' va la) (hb' : Bs G' vb lb) (hc' : Bs G' vc lc) (hh : HeadOk) (hr : RulesOk (gp la) (gp lb) (gp lc)) {w : World} (hG : Blocks (G' ++ GH T) w)  : Vm.Pure Tryd.prog 9 #[va, vb, vc] w (.bool true) := by
  obtain ⟨aa, ca, hva⟩ := ha.shape
  obtain ⟨ab, cb, hvb⟩ := hb'.shape
  obtain ⟨ac, cc, hvc⟩ := hc'.shape
  refine pure_of_W (n := 108) (args := [va, vb, vc]) Tryd.func9 rfl Tryd.ntmps9 (Nat.le_of_ble_eq_true rfl) hG ?_
  refine sStart ?_
  refine sSeq ?_
  subst hva
  subst hvb
  subst hvc
  refine W.region ?_
  refine OpsW.det (det_assign rfl) rfl ?_
  refine sNext ?_
  refine W.keep (F' := [(0, _), (1, _), (2, _)]) ⟨rfl, rfl, rfl, trivial⟩ ?_
  refine sSeq ?_
  refine sSeq ?_
  refine W.region ?_
  refine OpsW.det (det_call en34 rfl (fun w hb ho => head_ok hh (fun p hp => ho.look (List.mem_append_right _ hp)))) rfl ?_
  refine OpsW.det (det_not rfl) rfl ?_
  refine sNext ?_
  refine W.keep (F' := [(12, _), (0, _), (1, _), (2, _)]) ⟨rfl, rfl, rfl, rfl, trivial⟩ ?_
  refine W.cond_false rfl ?_
  refine sSkip ?_
  refine sSeq ?_
  refine sSeq ?_
  refine W.region ?_
  refine OpsW.det (det_move rfl) rfl ?_
  refine OpsW.det (det_move rfl) rfl ?_
  refine OpsW.det (det_move rfl) rfl ?_
  refine OpsW.det (det_call en35 rfl (fun w hb ho => long_ok (fun p hp => ho.look (List.mem_append_right _ hp)))) rfl ?_
  refine sNext ?_
  refine W.keep (F' := [(16, _), (0, _), (1, _), (2, _)]) ⟨rfl, rfl, rfl, rfl, trivial⟩ ?_
  refine W.cond rfl (fun hc16 => ?_) (fun hc16 => ?_)
  · skip
    refine sSeq ?_
    refine W.region ?_
    refine OpsW.det (det_assign rfl) rfl ?_
    refine sNext ?_
    refine W.keep (F' := [(6, _)]) ⟨rfl, trivial⟩ ?_
    refine sRet ?_
    exact done1 Tryd.results9 (rv_tmp rfl) rfl
  · skip
    have hl := not_long hc16
    refine sSkip ?_
    refine sSeq ?_
    refine W.region ?_
    refine OpsW.det (det_call en36 rfl (fun w hb ho => Gen_ok (fun p hp => ho.look (List.mem_append_right _ hp)))) rfl ?_
    refine OpsW.det (det_move rfl) rfl ?_
    refine OpsW.det (det_call en38 rfl (fun w hb ho => scalar_ok (G' := G') ha (Nat.le_trans hl.1 (by decide)) ho.blocks)) rfl ?_
    refine OpsW.det (det_call en37 rfl (fun w hb ho => PMul_ok (fun p hp => ho.look (List.mem_append_right _ hp)))) rfl ?_
    refine OpsW.fresh (fr_alloc z59r) rfl fun b7 => ?_
    refine OpsW.storeW59 rfl rfl (Upd.here) ?_
    refine sNext ?_
    refine W.keep (F' := [(7, _), (1, _), (2, _)]) ⟨rfl, rfl, rfl, trivial⟩ ?_
    refine sSeq ?_
    refine W.region ?_
    refine OpsW.det (det_call en36 rfl (fun w hb ho => Gen_ok (fun p hp => ho.look (List.mem_append_right _ hp)))) rfl ?_
    refine OpsW.det (det_move rfl) rfl ?_
    refine OpsW.det (det_call en38 rfl (fun w hb ho => scalar_ok (G' := G') hb' (Nat.le_trans hl.2.1 (by decide)) ho.blocks)) rfl ?_
    refine OpsW.det (det_call en37 rfl (fun w hb ho => PMul_ok (fun p hp => ho.look (List.mem_append_right _ hp)))) rfl ?_
    refine OpsW.fresh (fr_alloc z59r) rfl fun b8 => ?_
    refine OpsW.storeW59 rfl rfl (Upd.here) ?_
    refine sNext ?_
    refine W.keep (F' := [(8, _), (7, _), (2, _)]) ⟨rfl, rfl, rfl, trivial⟩ ?_
    refine sSeq ?_
    refine W.region ?_
    refine OpsW.det (det_call en36 rfl (fun w hb ho => Gen_ok (fun p hp => ho.look (List.mem_append_right _ hp)))) rfl ?_
    refine OpsW.det (det_move rfl) rfl ?_
    refine OpsW.det (det_call en38 rfl (fun w hb ho => scalar_ok (G' := G') hc' (Nat.le_trans hl.2.2 (by decide)) ho.blocks)) rfl ?_
    refine OpsW.det (det_call en37 rfl (fun w hb ho => PMul_ok (fun p hp => ho.look (List.mem_append_right _ hp)))) rfl ?_
    refine OpsW.fresh (fr_alloc z59r) rfl fun b9 => ?_
    refine OpsW.storeW59 rfl rfl (Upd.here) ?_
    refine sNext ?_
    refine W.keep (F' := [(9, _), (8, _), (7, _)]) ⟨rfl, rfl, rfl, trivial⟩ ?_
    refine sSeq ?_
    refine W.region ?_
    refine OpsW.det (det_zero bz59) rfl ?_
    refine OpsW.fresh (fr_alloc z59r) rfl fun b10 => ?_
    refine OpsW.storeW59 rfl rfl (Upd.here) ?_
    refine sNext ?_
    refine W.keep (F' := [(10, _), (9, _), (8, _), (7, _)]) ⟨rfl, rfl, rfl, rfl, trivial⟩ ?_
    refine sSeq ?_
    refine sSeq ?_
    refine W.draw mixed 46 [[], [], [0, 1], [], [0, 1, 2, 3], [], [], [], [0, 1, 2, 3, 4, 6, 7], [0, 1, 2, 3, 4, 5, 6, 7, 8], [0, 1, 2, 3, 4, 5, 6, 7, 8, 9], [0, 1, 2, 3, 4, 5, 6, 7, 8, 9, 10], [0, 1, 2, 3, 4, 5, 6, 7, 8, 9, 10, 11], [0, 1, 2, 3, 4, 5, 6, 7, 8, 9, 10, 11], [0, 1, 2, 3, 4, 5, 6, 7, 8, 9, 10, 11], [0, 1, 2, 3, 4, 5, 6, 7, 8, 9, 10, 11, 12, 13, 14], [0, 1, 2, 3, 4, 5, 6, 7, 8, 9, 10, 11, 12, 13, 14, 15], [0, 1, 2, 3, 4, 5, 6, 7, 8, 9, 10, 11], [0, 1, 2, 3, 4, 5, 6, 7, 8, 9, 10, 11], [0, 1, 2, 3, 4, 5, 6, 7, 8, 9, 10, 11, 12, 13, 14, 15, 16, 17, 18], [0, 1, 2, 3, 4, 5, 6, 7, 8, 9, 10, 11], [0, 1, 2, 3, 4, 5, 6, 7, 8, 9, 10, 11, 12, 13, 14, 15, 16, 17, 18, 19, 20], [0, 1, 2, 3, 4, 5, 6, 7, 8, 9, 10, 11, 12, 13, 14, 15, 16, 17, 18, 19, 20, 21], [0, 1, 2, 3, 4, 5, 6, 7, 8, 9, 10, 11, 12, 13, 14, 15, 16, 17, 18, 19, 20, 21, 22], [0, 1, 2, 3, 4, 5, 6, 7, 8, 9, 10, 11, 12, 13, 14, 15, 16, 17, 18, 19, 20, 21, 22, 23], [0, 1, 2, 3, 4, 5, 6, 7, 8, 9, 10, 11, 12, 13, 14, 15, 16, 17, 18, 19, 20, 21, 22, 23, 24], [0, 1, 2, 3, 4, 5, 6, 7, 8, 9, 10, 11, 12, 13, 14, 15, 16, 17, 18, 19, 20, 21, 22, 23, 24], [0, 1, 2, 3, 4, 5, 6, 7, 8, 9, 10, 11, 12, 13, 14, 15, 16, 17, 18, 19, 20, 21, 22, 23, 24, 25, 26], [0, 1, 2, 3, 4, 5, 6, 7, 8, 9, 10, 11, 12, 13, 14, 15, 16, 17, 18, 19, 20, 21, 22, 23, 24], [0, 1, 2, 3, 4, 5, 6, 7, 8, 9, 10, 11, 12, 13, 14, 15, 16, 17, 18, 19, 20, 21, 22, 23, 24, 25, 26, 27, 28], [0, 1, 2, 3, 4, 5, 6, 7, 8, 9, 10, 11, 12, 13, 14, 15, 16, 17, 18, 19, 20, 21, 22, 23, 24, 25, 26, 27, 28, 29], [0, 1, 2, 3, 4, 5, 6, 7, 8, 9, 10, 11, 12, 13, 14, 15, 16, 17, 18, 19, 20, 21, 22, 23, 24, 25, 26, 27, 28, 29, 30], [0, 1, 2, 3, 4, 5, 6, 7, 8, 9, 10, 11, 12, 13, 14, 15, 16, 17, 18, 19, 20, 21, 22, 23, 24, 25, 26, 27, 28, 29, 30, 31], [0, 1, 2, 3, 4, 5, 6, 7, 8, 9, 10, 11, 12, 13, 14, 15, 16, 17, 18, 19, 20, 21, 22, 23, 24, 25, 26, 27, 28, 29, 30, 31], [0, 1, 2, 3, 4, 5, 6, 7, 8, 9, 10, 11, 12, 13, 14, 15, 16, 17, 18, 19, 20, 21, 22, 23, 24, 25, 26, 27, 28, 29, 30, 31, 32, 33], [0, 1, 2, 3, 4, 5, 6, 7, 8, 9, 10, 11, 12, 13, 14, 15, 16, 17, 18, 19, 20, 21, 22, 23, 24, 25, 26, 27, 28, 29, 30, 31], [0, 1, 2, 3, 4, 5, 6, 7, 8, 9, 10, 11, 12, 13, 14, 15, 16, 17, 18, 19, 20, 21, 22, 23, 24, 25, 26, 27, 28, 29, 30, 31, 32, 33, 34, 35], [0, 1, 2, 3, 4, 5, 6, 7, 8, 9, 10, 11, 12, 13, 14, 15, 16, 17, 18, 19, 20, 21, 22, 23, 24, 25, 26, 27, 28, 29, 30, 31, 32, 33, 34, 35, 36], [0, 1, 2, 3, 4, 5, 6, 7, 8, 9, 10, 11, 12, 13, 14, 15, 16, 17, 18, 19, 20, 21, 22, 23, 24, 25, 26, 27, 28, 29, 30, 31, 32, 33, 34, 35, 36, 37], [0, 1, 2, 3, 4, 5, 6, 7, 8, 9, 10, 11, 12, 13, 14, 15, 16, 17, 18, 19, 20, 21, 22, 23, 24, 25, 26, 27, 28, 29, 30, 31, 32, 33, 34, 35, 36, 37, 38], [0, 1, 2, 3, 4, 5, 6, 7, 8, 9, 10, 11, 12, 13, 14, 15, 16, 17, 18, 19, 20, 21, 22, 23, 24, 25, 26, 27, 28, 29, 30, 31, 32, 33, 34, 35, 36, 37, 38], [0, 1, 2, 3, 4, 5, 6, 7, 8, 9, 10, 11, 12, 13, 14, 15, 16, 17, 18, 19, 20, 21, 22, 23, 24, 25, 26, 27, 28, 29, 30, 31, 32, 33, 34, 35, 36, 37, 38, 40], [0, 1, 2, 3, 4, 5, 6, 7, 8, 9, 10, 11, 12, 13, 14, 15, 16, 17, 18, 19, 20, 21, 22, 23, 24, 25, 26, 27, 28, 29, 30, 31, 32, 33, 34, 35, 36, 37, 38, 39, 40, 41], [0, 1, 2, 3, 4, 5, 6, 7, 8, 9, 10, 11, 12, 13, 14, 15, 16, 17, 18, 19, 20, 21, 22, 23, 24, 25, 26, 27, 28, 29, 30, 31, 32, 33, 34, 35, 36, 37, 38], [0, 1, 2, 3, 4, 5, 6, 7, 8, 9, 10, 11, 12, 13, 14, 15, 16, 17, 18, 19, 20, 21, 22, 23, 24, 25, 26, 27, 28, 29, 30, 31, 32, 33, 34, 35, 36, 37, 38, 39, 40, 41, 42, 43], [0, 1, 2, 3, 4, 5, 6, 7, 8, 9, 10, 11, 12, 13, 14, 15, 16, 17, 18, 19, 20, 21, 22, 23, 24, 25, 26, 27, 28, 29, 30, 31, 32, 33, 34, 35, 36, 37, 38, 39, 40, 41, 42, 43, 44]] (cl_lt (by decide)) ?_
    refine HeadR.start (cl_lt (by decide)) ?_
    refine HeadR.det rfl (fun β hβ => (det_loadW59 rfl (List.Mem.tail _ (List.Mem.tail _ (List.Mem.tail _ (List.Mem.head _)))))) ?_
    refine HeadR.det rfl (fun β hβ => (det_loadW59 rfl (List.Mem.tail _ (List.Mem.tail _ (List.Mem.head _))))) ?_
    refine HeadR.det rfl (fun β hβ => (det_call en39 rfl (fun w hb ho => PAdd_ok (fun p hp => ho.look (List.mem_append_right _ hp))))) ?_
    refine HeadR.det rfl (fun β hβ => (det_loadW59 rfl (List.Mem.tail _ (List.Mem.head _)))) ?_
    refine HeadR.det rfl (fun β hβ => (det_call en39 rfl (fun w hb ho => PAdd_ok (fun p hp => ho.look (List.mem_append_right _ hp))))) ?_
    refine HeadR.det rfl (fun β hβ => (det_loadW59 rfl (List.Mem.tail _ (List.Mem.tail _ (List.Mem.tail _ (List.Mem.head _)))))) ?_
    refine HeadR.det rfl (fun β hβ => (det_loadW59 rfl (List.Mem.tail _ (List.Mem.tail _ (List.Mem.head _))))) ?_
    refine HeadR.det rfl (fun β hβ => (det_loadW59 rfl (List.Mem.tail _ (List.Mem.head _)))) ?_
    refine HeadR.det rfl (fun β hβ => (det_call en39 rfl (fun w hb ho => PAdd_ok (fun p hp => ho.look (List.mem_append_right _ hp))))) ?_
    refine HeadR.det rfl (fun β hβ => (det_call en39 rfl (fun w hb ho => PAdd_ok (fun p hp => ho.look (List.mem_append_right _ hp))))) ?_
    refine HeadR.det rfl (fun β hβ => ((det_neq59 (a := padd (padd (gp la) (gp lb)) (gp lc)) (b := padd (gp la) (padd (gp lb) (gp lc))) rfl rfl).to (congrArg Value.bool (nb hr.r1)))) ?_
    refine HeadR.det rfl (fun β hβ => (det_move rfl)) ?_
    refine HeadR.yes rfl rfl (fun _ _ => rfl) (fun β hβ => (det_loadW59 rfl (List.Mem.tail _ (List.Mem.tail _ (List.Mem.tail _ (List.Mem.head _)))))) ?_
    refine HeadR.yes rfl rfl (fun _ _ => rfl) (fun β hβ => (det_loadW59 rfl (List.Mem.tail _ (List.Mem.tail _ (List.Mem.head _))))) ?_
    refine HeadR.yes rfl rfl (fun _ _ => rfl) (fun β hβ => (det_loadW59 rfl (List.Mem.tail _ (List.Mem.head _)))) ?_
    refine HeadR.yesFresh rfl rfl (fun _ _ => rfl) (fun β hβ => (fr_buildSlice rfl (slice64 (p := gp la) (q := gp lb) (r := gp lc))).new) ?_
    refine HeadR.yes rfl rfl (fun _ _ => rfl) (fun β hβ => (det_call en40 rfl (fun w hb ho => PSum_ok (G' := [((β 45).1, blk (cellsP (gp la) ++ cellsP (gp lb) ++ cellsP (gp lc)) 59)]) pts3 (by show 3 ≤ 1000000000000; decide) (blocks_cons (hb _ (List.Mem.head _)) (fun p hp => ho.look (List.mem_append_right _ hp)))))) ?_
    refine HeadR.yes rfl rfl (fun _ _ => rfl) (fun β hβ => (det_loadW59 rfl (List.Mem.tail _ (List.Mem.tail _ (List.Mem.tail _ (List.Mem.head _)))))) ?_
    refine HeadR.yes rfl rfl (fun _ _ => rfl) (fun β hβ => (det_loadW59 rfl (List.Mem.tail _ (List.Mem.tail _ (List.Mem.head _))))) ?_
    refine HeadR.yes rfl rfl (fun _ _ => rfl) (fun β hβ => (det_call en39 rfl (fun w hb ho => PAdd_ok (fun p hp => ho.look (List.mem_append_right _ hp))))) ?_
    refine HeadR.yes rfl rfl (fun _ _ => rfl) (fun β hβ => (det_loadW59 rfl (List.Mem.tail _ (List.Mem.head _)))) ?_
    refine HeadR.yes rfl rfl (fun _ _ => rfl) (fun β hβ => (det_call en39 rfl (fun w hb ho => PAdd_ok (fun p hp => ho.look (List.mem_append_right _ hp))))) ?_
    refine HeadR.yes rfl rfl (fun _ _ => rfl) (fun β hβ => ((det_neq59 (a := psum [gp la, gp lb, gp lc]) (b := padd (padd (gp la) (gp lb)) (gp lc)) rfl rfl).to (congrArg Value.bool (nb hr.r2)))) ?_
    refine HeadR.det rfl (fun β hβ => (det_pick rfl rfl)) ?_
    refine HeadR.det rfl (fun β hβ => (det_move rfl)) ?_
    refine HeadR.yes rfl rfl (fun _ _ => rfl) (fun β hβ => (det_loadW59 rfl (List.Mem.tail _ (List.Mem.tail _ (List.Mem.tail _ (List.Mem.tail _ (List.Mem.head _))))))) ?_
    refine HeadR.yes rfl rfl (fun _ _ => rfl) (fun β hβ => (det_loadW59 rfl (List.Mem.tail _ (List.Mem.head _)))) ?_
    refine HeadR.yes rfl rfl (fun _ _ => rfl) (fun β hβ => (det_call en39 rfl (fun w hb ho => PAdd_ok (fun p hp => ho.look (List.mem_append_right _ hp))))) ?_
    refine HeadR.yes rfl rfl (fun _ _ => rfl) (fun β hβ => (det_loadW59 rfl (List.Mem.tail _ (List.Mem.tail _ (List.Mem.tail _ (List.Mem.tail _ (List.Mem.head _))))))) ?_
    refine HeadR.yes rfl rfl (fun _ _ => rfl) (fun β hβ => ((det_neq59 (a := padd (gp la) (0, 0)) (b := gp la) rfl rfl).to (congrArg Value.bool (nb hr.r3)))) ?_
    refine HeadR.det rfl (fun β hβ => (det_pick rfl rfl)) ?_
    refine HeadR.det rfl (fun β hβ => (det_move rfl)) ?_
    refine HeadR.yes rfl rfl (fun _ _ => rfl) (fun β hβ => (det_loadW59 rfl (List.Mem.tail _ (List.Mem.head _)))) ?_
    refine HeadR.yes rfl rfl (fun _ _ => rfl) (fun β hβ => (det_loadW59 rfl (List.Mem.tail _ (List.Mem.tail _ (List.Mem.tail _ (List.Mem.tail _ (List.Mem.head _))))))) ?_
    refine HeadR.yes rfl rfl (fun _ _ => rfl) (fun β hβ => (det_call en39 rfl (fun w hb ho => PAdd_ok (fun p hp => ho.look (List.mem_append_right _ hp))))) ?_
    refine HeadR.yes rfl rfl (fun _ _ => rfl) (fun β hβ => (det_loadW59 rfl (List.Mem.tail _ (List.Mem.tail _ (List.Mem.tail _ (List.Mem.tail _ (List.Mem.head _))))))) ?_
    refine HeadR.yes rfl rfl (fun _ _ => rfl) (fun β hβ => ((det_neq59 (a := padd (0, 0) (gp la)) (b := gp la) rfl rfl).to (congrArg Value.bool (nb hr.r4)))) ?_
    refine HeadR.det rfl (fun β hβ => (det_pick rfl rfl)) ?_
    refine HeadR.det rfl (fun β hβ => (det_move rfl)) ?_
    refine HeadR.yes rfl rfl (fun _ _ => rfl) (fun β hβ => (det_loadW59 rfl (List.Mem.tail _ (List.Mem.tail _ (List.Mem.tail _ (List.Mem.tail _ (List.Mem.head _))))))) ?_
    refine HeadR.yes rfl rfl (fun _ _ => rfl) (fun β hβ => (det_loadW59 rfl (List.Mem.tail _ (List.Mem.tail _ (List.Mem.tail _ (List.Mem.tail _ (List.Mem.head _))))))) ?_
    refine HeadR.yes rfl rfl (fun _ _ => rfl) (fun β hβ => (det_call en41 rfl (fun w hb ho => PNeg_ok (fun p hp => ho.look (List.mem_append_right _ hp))))) ?_
    refine HeadR.yes rfl rfl (fun _ _ => rfl) (fun β hβ => (det_call en39 rfl (fun w hb ho => PAdd_ok (fun p hp => ho.look (List.mem_append_right _ hp))))) ?_
    refine HeadR.yes rfl rfl (fun _ _ => rfl) (fun β hβ => (det_loadW59 rfl (List.Mem.tail _ (List.Mem.head _)))) ?_
    refine HeadR.yes rfl rfl (fun _ _ => rfl) (fun β hβ => ((det_neq59 (a := padd (gp la) (pneg (gp la))) (b := (0, 0)) rfl rfl).to (congrArg Value.bool (nb hr.r5)))) ?_
    refine HeadR.det rfl (fun β hβ => (det_pick rfl rfl)) ?_
    refine HeadR.done ⟨by kernel_rfl, fun β hβ => ?_⟩
    refine OpsW.norm (F' := ((30, _) :: (31, _) :: (32, _) :: (33, _) :: (34, _) :: (35, _) :: (36, _) :: (37, _) :: (38, _) :: (39, _) :: (40, _) :: (41, _) :: (42, _) :: (43, _) :: (44, _) :: (45, .slice (some ⟨(β 45).1, 0, none⟩) 3 3) :: (46, _) :: (47, _) :: (48, _) :: (49, _) :: (50, _) :: (51, _) :: (52, _) :: (53, _) :: (54, _) :: (55, _) :: (56, _) :: (57, _) :: (58, _) :: (59, _) :: (60, _) :: (61, _) :: (62, _) :: (63, _) :: (64, _) :: (65, _) :: (66, _) :: (67, _) :: (68, _) :: (69, _) :: (70, _) :: (71, _) :: (72, _) :: (73, _) :: (74, _) :: (75, _) :: (10, _) :: (9, _) :: (8, _) :: (7, _) :: [])) (H' := [(_, _), (_, _), (_, _), (_, _), (_, _)]) rfl rfl ?_
    generalize (β 45).1 = b45
    refine sNext ?_
    refine W.keep (F' := [(75, _), (10, _), (8, _), (7, _)]) ⟨rfl, rfl, rfl, rfl, trivial⟩ ?_
    refine W.cond_false rfl ?_
    refine sSkip ?_
    refine sSeq ?_
    refine W.draw mixed 33 [[], [0], [0, 1], [], [0, 1, 2, 3], [0, 1, 2, 3, 4], [0, 1, 2, 3, 4, 5], [0, 1, 2, 3, 4, 5], [0, 1, 2, 3, 4, 5, 6, 7], [0, 1, 2, 3, 4, 5, 6, 7, 8], [0, 1, 2, 3, 4, 5], [0, 1, 2, 3, 4, 5, 6, 7, 8, 9, 10], [0, 1, 2, 3, 4, 5], [0, 1, 2, 3, 4, 5, 6, 7, 8, 9, 10, 11, 12], [0, 1, 2, 3, 4, 5, 6, 7, 8, 9, 10, 11, 12, 13], [0, 1, 2, 3, 4, 5, 6, 7, 8, 9, 10, 11, 12, 13, 14], [0, 1, 2, 3, 4, 5, 6, 7, 8, 9, 10, 11, 12, 13, 14, 15], [0, 1, 2, 3, 4, 5, 6, 7, 8, 9, 10, 11, 12, 13, 14, 15, 16], [0, 1, 2, 3, 4, 5, 6, 7, 8, 9, 10, 11, 12, 13, 14, 15, 16, 17], [0, 1, 2, 3, 4, 5, 6, 7, 8, 9, 10, 11, 12, 13, 14, 15, 16, 17], [0, 1, 2, 3, 4, 5, 6, 7, 8, 9, 10, 11, 12, 13, 14, 15, 16, 17, 18, 19], [0, 1, 2, 3, 4, 5, 6, 7, 8, 9, 10, 11, 12, 13, 14, 15, 16, 17, 18, 19, 20], [0, 1, 2, 3, 4, 5, 6, 7, 8, 9, 10, 11, 12, 13, 14, 15, 16, 17, 18, 19, 20, 21], [0, 1, 2, 3, 4, 5, 6, 7, 8, 9, 10, 11, 12, 13, 14, 15, 16, 17, 18, 19, 20, 21, 22], [0, 1, 2, 3, 4, 5, 6, 7, 8, 9, 10, 11, 12, 13, 14, 15, 16, 17, 18, 19, 20, 21, 22, 23], [0, 1, 2, 3, 4, 5, 6, 7, 8, 9, 10, 11, 12, 13, 14, 15, 16, 17, 18, 19, 20, 21, 22], [0, 1, 2, 3, 4, 5, 6, 7, 8, 9, 10, 11, 12, 13, 14, 15, 16, 17, 18, 19, 20, 21, 22, 23, 24, 25], [0, 1, 2, 3, 4, 5, 6, 7, 8, 9, 10, 11, 12, 13, 14, 15, 16, 17, 18, 19, 20, 21, 22, 23, 24, 25, 26], [0, 1, 2, 3, 4, 5, 6, 7, 8, 9, 10, 11, 12, 13, 14, 15, 16, 17, 18, 19, 20, 21, 22, 23, 24, 25, 26, 27], [0, 1, 2, 3, 4, 5, 6, 7, 8, 9, 10, 11, 12, 13, 14, 15, 16, 17, 18, 19, 20, 21, 22, 23, 24, 25, 26, 27, 28], [0, 1, 2, 3, 4, 5, 6, 7, 8, 9, 10, 11, 12, 13, 14, 15, 16, 17, 18, 19, 20, 21, 22, 23, 24, 25, 26, 27, 28, 29], [0, 1, 2, 3, 4, 5, 6, 7, 8, 9, 10, 11, 12, 13, 14, 15, 16, 17, 18, 19, 20, 21, 22, 23, 24, 25, 26, 27, 28, 29, 30], [0, 1, 2, 3, 4, 5, 6, 7, 8, 9, 10, 11, 12, 13, 14, 15, 16, 17, 18, 19, 20, 21, 22, 23, 24, 25, 26, 27, 28, 29, 30, 31]] (cl_lt (by decide)) ?_
    refine HeadR.start (cl_lt (by decide)) ?_
    refine HeadR.det rfl (fun β hβ => (det_loadW59 rfl (List.Mem.tail _ (List.Mem.tail _ (List.Mem.tail _ (List.Mem.tail _ (List.Mem.head _))))))) ?_
    refine HeadR.det rfl (fun β hβ => (det_call en41 rfl (fun w hb ho => PNeg_ok (fun p hp => ho.look (List.mem_append_right _ hp))))) ?_
    refine HeadR.det rfl (fun β hβ => (det_call en41 rfl (fun w hb ho => PNeg_ok (fun p hp => ho.look (List.mem_append_right _ hp))))) ?_
    refine HeadR.det rfl (fun β hβ => (det_loadW59 rfl (List.Mem.tail _ (List.Mem.tail _ (List.Mem.tail _ (List.Mem.tail _ (List.Mem.head _))))))) ?_
    refine HeadR.det rfl (fun β hβ => ((det_eql59 (a := pneg (pneg (gp la))) (b := gp la) rfl rfl).to (congrArg Value.bool (yb hr.r6)))) ?_
    refine HeadR.det rfl (fun β hβ => (det_move rfl)) ?_
    refine HeadR.yes rfl rfl (fun _ _ => rfl) (fun β hβ => (det_loadW59 rfl (List.Mem.tail _ (List.Mem.tail _ (List.Mem.tail _ (List.Mem.tail _ (List.Mem.head _))))))) ?_
    refine HeadR.yes rfl rfl (fun _ _ => rfl) (fun β hβ => (det_loadW59 rfl (List.Mem.tail _ (List.Mem.tail _ (List.Mem.tail _ (List.Mem.head _)))))) ?_
    refine HeadR.yes rfl rfl (fun _ _ => rfl) (fun β hβ => (det_call en39 rfl (fun w hb ho => PAdd_ok (fun p hp => ho.look (List.mem_append_right _ hp))))) ?_
    refine HeadR.yes rfl rfl (fun _ _ => rfl) (fun β hβ => (det_call en41 rfl (fun w hb ho => PNeg_ok (fun p hp => ho.look (List.mem_append_right _ hp))))) ?_
    refine HeadR.yes rfl rfl (fun _ _ => rfl) (fun β hβ => (det_loadW59 rfl (List.Mem.tail _ (List.Mem.tail _ (List.Mem.tail _ (List.Mem.tail _ (List.Mem.head _))))))) ?_
    refine HeadR.yes rfl rfl (fun _ _ => rfl) (fun β hβ => (det_call en41 rfl (fun w hb ho => PNeg_ok (fun p hp => ho.look (List.mem_append_right _ hp))))) ?_
    refine HeadR.yes rfl rfl (fun _ _ => rfl) (fun β hβ => (det_loadW59 rfl (List.Mem.tail _ (List.Mem.tail _ (List.Mem.tail _ (List.Mem.head _)))))) ?_
    refine HeadR.yes rfl rfl (fun _ _ => rfl) (fun β hβ => (det_call en41 rfl (fun w hb ho => PNeg_ok (fun p hp => ho.look (List.mem_append_right _ hp))))) ?_
    refine HeadR.yes rfl rfl (fun _ _ => rfl) (fun β hβ => (det_call en39 rfl (fun w hb ho => PAdd_ok (fun p hp => ho.look (List.mem_append_right _ hp))))) ?_
    refine HeadR.yes rfl rfl (fun _ _ => rfl) (fun β hβ => ((det_eql59 (a := pneg (padd (gp la) (gp lb))) (b := padd (pneg (gp la)) (pneg (gp lb))) rfl rfl).to (congrArg Value.bool (yb hr.r7)))) ?_
    refine HeadR.det rfl (fun β hβ => (det_pick rfl rfl)) ?_
    refine HeadR.det rfl (fun β hβ => (det_move rfl)) ?_
    refine HeadR.yes rfl rfl (fun _ _ => rfl) (fun β hβ => (det_call en40 rfl (fun w hb ho => PSum_ok (G' := []) pts0 (Nat.zero_le _) (fun p hp => ho.look (List.mem_append_right _ hp))))) ?_
    refine HeadR.yes rfl rfl (fun _ _ => rfl) (fun β hβ => (det_loadW59 rfl (List.Mem.tail _ (List.Mem.head _)))) ?_
    refine HeadR.yes rfl rfl (fun _ _ => rfl) (fun β hβ => ((det_eql59 (a := psum []) (b := (0, 0)) rfl rfl).to (congrArg Value.bool (yb hr.r8)))) ?_
    refine HeadR.det rfl (fun β hβ => (det_pick rfl rfl)) ?_
    refine HeadR.det rfl (fun β hβ => (det_move rfl)) ?_
    refine HeadR.yes rfl rfl (fun _ _ => rfl) (fun β hβ => (det_loadW59 rfl (List.Mem.tail _ (List.Mem.head _)))) ?_
    refine HeadR.yes rfl rfl (fun _ _ => rfl) (fun β hβ => (det_call en41 rfl (fun w hb ho => PNeg_ok (fun p hp => ho.look (List.mem_append_right _ hp))))) ?_
    refine HeadR.yes rfl rfl (fun _ _ => rfl) (fun β hβ => (det_loadW59 rfl (List.Mem.tail _ (List.Mem.head _)))) ?_
    refine HeadR.yes rfl rfl (fun _ _ => rfl) (fun β hβ => ((det_eql59 (a := pneg (0, 0)) (b := (0, 0)) rfl rfl).to (congrArg Value.bool (yb hr.r9)))) ?_
    refine HeadR.det rfl (fun β hβ => (det_pick rfl rfl)) ?_
    refine HeadR.det rfl (fun β hβ => (det_move rfl)) ?_
    refine HeadR.yes rfl rfl (fun _ _ => rfl) (fun β hβ => (det_loadW59 rfl (List.Mem.tail _ (List.Mem.head _)))) ?_
    refine HeadR.yes rfl rfl (fun _ _ => rfl) (fun β hβ => ((det_call en42 rfl (fun w hb ho => POn_ok (p := (0, 0)) (fun p hp => ho.look (List.mem_append_right _ hp)))).to (congrArg Value.bool (hr.r10)))) ?_
    refine HeadR.det rfl (fun β hβ => (det_pick rfl rfl)) ?_
    refine HeadR.det rfl (fun β hβ => (det_assign rfl)) ?_
    refine HeadR.done ⟨by kernel_rfl, fun β hβ => ?_⟩
    refine OpsW.norm (F' := ((76, _) :: (77, _) :: (78, _) :: (79, _) :: (80, _) :: (81, _) :: (82, _) :: (83, _) :: (84, _) :: (85, _) :: (86, _) :: (87, _) :: (88, _) :: (89, _) :: (90, _) :: (91, _) :: (92, _) :: (93, _) :: (94, _) :: (95, _) :: (96, _) :: (97, _) :: (98, _) :: (99, _) :: (100, _) :: (101, _) :: (102, _) :: (103, _) :: (104, _) :: (105, _) :: (106, _) :: (107, _) :: (6, _) :: (75, _) :: (10, _) :: (8, _) :: (7, _) :: [])) (H' := [(_, _), (_, _), (_, _), (_, _), (_, _)]) rfl rfl ?_
    refine sNext ?_
    refine W.keep (F' := [(6, _)]) ⟨rfl, trivial⟩ ?_
    refine sRet ?_
    exact done1 Tryd.results9 (rv_tmp rfl) rfl

end Go.Cw

/- The second group: its points are a group, what the walks compute is its sums and multiples, and the rules that the laws ask for. -/
namespace Go.Cw
open Go.Cu Go.Ec
set_option linter.unusedVariables false
set_option linter.unusedSimpArgs false
set_option linter.unusedSectionVars false
open CR
instance fourGood : Gd four where
  two := by decide +kernel
  three := by decide +kernel
  b := by decide +kernel
/-! ### What the walks compute -/
abbrev G2 := Gp four
theorem pneg_ok (P : G2) : pneg P.1 = (-P).1 := rfl
theorem small_one : small 1 0 = 1 := by decide +kernel
theorem tojac_g (p : Pt) : tojac p = gtoj p := by unfold tojac gtoj; rw [small_one]
theorem jdbl_g (j : Jac) : jdbl j = gdbl j := rfl
theorem jadd_g (j : Jac) (q : Pt) : jadd j q = gadd j q := by
  unfold jadd gadd
  rw [tojac_g]; rfl
theorem point_g (j : Jac) : point j = gpt j := rfl
theorem padd_ok (P Q : G2) : padd P.1 Q.1 = (P + Q).1 := by
  have h := (gadd_ok (JOk.toj P.2) Q.2).1
  rw [gpt_toj] at h
  unfold padd
  rw [tojac_g, jadd_g, point_g]
  exact h
theorem stp_one (p : Pt) (j : Jac) : stp p 1 j = gadd j p := jadd_g j p
theorem stp_neg (p : Pt) (j : Jac) : stp p (-1) j = gadd j (pneg p) := jadd_g j (pneg p)
theorem stp_ok {j : Jac} {x : G2} (P : G2) (d : Int) (hj : JOk four j) (h : gpt j = x.1) (hd : d = 0 ∨ d = 1 ∨ d = -1) {v : Nat} (hx : x = nmul (2 * v) P) {u : Nat} (hu : (u : Int) = 2 * v + d) :
    JOk four (stp P.1 d j) ∧ gpt (stp P.1 d j) = (nmul u P).1 := by
  rcases hd with rfl | rfl | rfl
  · have e : u = 2 * v := by omega
    rw [e, ← hx, show stp P.1 0 j = j from rfl]
    exact ⟨hj, h⟩
  · have e : u = 2 * v + 1 := by omega
    rw [e, nmul, ← hx, stp_one]
    exact step_add P hj h
  · have e : 2 * v = u + 1 := by omega
    have h1 := step_add (-P) hj h
    have e2 : x + -P = nmul u P := by rw [hx, e, nmul, AG.aassoc, a_neg, a_zero]
    rw [e2] at h1
    rw [stp_neg, pneg_ok]
    exact h1
theorem jl_ok {l : List Nat} (hs : ∀ c ∈ l, c < 256) (P : G2) : ∀ m, m ≤ 8 * l.length + 1 → JOk four (jl l P.1 m) ∧ gpt (jl l P.1 m) = (nmul (upv l (8 * l.length + 1 - m)) P).1
  | 0, _ => by
    rw [Nat.sub_zero, upv_top hs]
    exact jzero_ok
  | m + 1, h => by
    obtain ⟨h1, h2⟩ := jl_ok hs P m (by omega)
    obtain ⟨h3, h4⟩ := step_dbl h1 h2
    have hk := upv_step hs (8 * l.length - m)
    rw [show 8 * l.length - m + 1 = 8 * l.length + 1 - m by omega] at hk
    have := stp_ok P (dg l (8 * l.length - m)) h3 h4 (dg_cases _ _) (v := upv l (8 * l.length + 1 - m)) (by rw [Nat.mul_comm 2, nmul_mul, nmul_two]) hk
    rw [show 8 * l.length + 1 - (m + 1) = 8 * l.length - m by omega, jl, jdbl_g]
    exact this
theorem times_ok {l : List Nat} (hs : ∀ c ∈ l, c < 256) (P : G2) : times l P.1 = (nmul (beN l) P).1 := by
  have h := (jl_ok hs P (8 * l.length + 1) (Nat.le_refl _)).2
  rw [Nat.sub_self, upv_zero] at h
  exact h
theorem pmul_ok (P : G2) (x : Fs) : pmul P.1 x = (nmul x.val P).1 := by
  unfold pmul
  rw [times_ok (blist_small x), blist_val]
theorem psum_ok (l : List G2) : psum (l.map (·.1)) = (l.foldl (· + ·) 0).1 := by
  unfold psum jsum
  rw [show (fun (j : Jac) (p : Pt) => jadd j p) = gadd from funext fun j => funext fun p => jadd_g j p, point_g]
  exact (step_sums l jzero_ok.1 jzero_ok.2).2
theorem onB_ok {p : Pt} (h : On four p) : onB p = true := by
  unfold onB
  rcases h with h | h
  · rw [decide_eq_true h]; rfl
  · rw [decide_eq_true (show p.2 * p.2 = p.1 * p.1 * p.1 + four from h), Bool.or_true]
theorem on_of {p : Pt} (h : onB p = true) : On four p := by
  unfold onB at h
  rcases Bool.or_eq_true_iff.1 h with h | h
  · exact .inl (of_decide_eq_true h)
  · exact .inr (show p.2 * p.2 = p.1 * p.1 * p.1 + four from of_decide_eq_true h)

/-! ### The generator -/
theorem gen_on : onB gen = true := by decide +kernel
/-- The generator, as an element of the curve's group. -/
def gG : G2 := ⟨gen, on_of gen_on⟩
theorem gG_order : nmul rr gG = 0 := nmul_zero_of (f := 256) (by decide) (by decide +kernel)
theorem gp_ok (l : List Nat) : gp l = (nmul (wide l).val gG).1 := pmul_ok gG (wide l)
theorem gen_ne : gen ≠ (0, 0) := by decide +kernel
theorem gen_two : gen ≠ pneg gen := by decide +kernel
theorem headOk : HeadOk where
  h1 := gen_on
  h2 := onB_ok (by rw [show gen = gG.1 from rfl, padd_ok]; exact (gG + gG).2)
  h3 := by
    rw [show gen = gG.1 from rfl, padd_ok]
    refine Bool.not_eq_true' _ ▸ decide_eq_false fun h => gen_ne ?_
    have h1 : gG + gG = gG + 0 := by rw [a_zero]; exact Gp.ext h
    exact congrArg (fun x : G2 => x.1) (a_cancel h1)
  h4 := by
    rw [show gen = gG.1 from rfl, padd_ok]
    refine Bool.not_eq_true' _ ▸ decide_eq_false fun h => gen_two ?_
    have h1 : gG + gG = 0 := Gp.ext h
    exact congrArg (fun x : G2 => x.1) (a_neg_eq h1)
  h5 := decide_eq_true (by
    rw [show gen = gG.1 from rfl, times_ok two_small, padd_ok, show beN [2] = 2 from rfl, nmul_two])
  h6 := decide_eq_true (by
    rw [show gen = gG.1 from rfl, pneg_ok, padd_ok, a_neg]; rfl)
  h7 := by decide +kernel
theorem rulesOk (P Q R : G2) : RulesOk P.1 Q.1 R.1 where
  r1 := by rw [padd_ok, padd_ok, padd_ok, padd_ok, AG.aassoc]
  r2 := by
    rw [padd_ok, padd_ok]
    have := psum_ok [P, Q, R]
    simp only [List.map_cons, List.map_nil, List.foldl_cons, List.foldl_nil, AG.zero_a] at this
    exact this
  r3 := by have := padd_ok P 0; rw [a_zero] at this; exact this
  r4 := by have := padd_ok 0 P; rw [AG.zero_a] at this; exact this
  r5 := by rw [pneg_ok, padd_ok, a_neg]; rfl
  r6 := by rw [pneg_ok, pneg_ok, a_neg_neg]
  r7 := by rw [pneg_ok, pneg_ok, padd_ok, padd_ok, pneg_ok, a_neg_add]
  r8 := psum_ok []
  r9 := rfl
  r10 := by decide +kernel
theorem rulesOk_gp (a b c : List Nat) : RulesOk (gp a) (gp b) (gp c) := by
  rw [gp_ok, gp_ok, gp_ok]; exact rulesOk _ _ _
end Go.Cw

/- Three points on a line, and maps of the curve onto itself, over any field. -/
namespace Go.Ec
open Go.Cu
set_option linter.unusedVariables false
set_option linter.unusedSimpArgs false
set_option linter.unusedSectionVars false
open CR
section
variable {α : Type} [Fld α] [DecidableEq α] {B : α} [hG : Gd B]
theorem line_r {p q : α × α} (hp : Aff B p) (hq : Aff B q) (h : ¬ (p.1 = q.1 ∧ p.2 + q.2 = 0)) :
    ∃ l, Ln l p q ∧ cneg (cadd p q) = (l * l - p.1 - q.1, p.2 + l * (l * l - p.1 - q.1 - p.1)) := by
  have hl := slope_ok hp hq h
  refine ⟨slope p q, hl, ?_⟩
  have e : cadd p q = third (slope p q) p q := by unfold cadd; rw [if_neg hp.ne, if_neg hq.ne, if_neg h]
  rw [e]
  unfold cneg
  rw [if_neg (third_aff hp hl).ne]
  generalize slope p q = l
  exact Prod.ext rfl (show (0 - ((l * (p.1 - (((l * l) - p.1) - q.1))) - p.2)) = (p.2 + (l * ((((l * l) - p.1) - q.1) - p.1))) from ring_id (fun vi_ => vget vi_ [l, p.1, p.2, q.1]) (.sub .zero (.sub (.mul (.var 0) (.sub (.var 1) (.sub (.sub (.mul (.var 0) (.var 0)) (.var 1)) (.var 3)))) (.var 2))) (.add (.var 2) (.mul (.var 0) (.sub (.sub (.sub (.mul (.var 0) (.var 0)) (.var 1)) (.var 3)) (.var 1)))) (by kernel_rfl))
/-- The tangent. -/
theorem tan_r {p : α × α} (hp : Aff B p) (hy : p.2 + p.2 ≠ 0) (r : α × α) (hr : r = cneg (cadd p p)) :
    ((p.2 + p.2) * (r.2 - p.2) = (p.1 * p.1 + p.1 * p.1 + p.1 * p.1) * (r.1 - p.1)) ∧
    (r.1 = p.1 → r = p ∧ (let s := p.1 * p.1 * (p.1 * p.1); let u := p.1 * (p.2 * p.2); let n := s + s + s; let v := u + u + u; n + n + n = (v + v) + (v + v))) := by
  obtain ⟨l, hl, he⟩ := line_r hp hp (fun h => hy h.2)
  have hT := hl.tan
  have hT : p.1 * p.1 + p.1 * p.1 + p.1 * p.1 = l * (p.2 + p.2 + l * (p.1 - p.1)) := hT
  rw [he] at hr
  subst hr
  obtain ⟨x, y⟩ := p
  have hT : x * x + x * x + x * x = l * (y + y + l * (x - x)) := hT
  refine ⟨?_, fun hx => ?_⟩
  · show (y + y) * (y + l * (l * l - x - x - x) - y) = (x * x + x * x + x * x) * (l * l - x - x - x)
    exact (eq_of_sub (Eq.trans (show (((y + y) * ((y + (l * ((((l * l) - x) - x) - x))) - y)) - ((((x * x) + (x * x)) + (x * x)) * ((((l * l) - x) - x) - x))) = ((-((((l * l) - x) - x) - x)) * ((((x * x) + (x * x)) + (x * x)) - (l * ((y + y) + (l * (x - x)))))) from ring_id (fun vi_ => vget vi_ [x, y, l]) (.sub (.mul (.add (.var 1) (.var 1)) (.sub (.add (.var 1) (.mul (.var 2) (.sub (.sub (.sub (.mul (.var 2) (.var 2)) (.var 0)) (.var 0)) (.var 0)))) (.var 1))) (.mul (.add (.add (.mul (.var 0) (.var 0)) (.mul (.var 0) (.var 0))) (.mul (.var 0) (.var 0))) (.sub (.sub (.sub (.mul (.var 2) (.var 2)) (.var 0)) (.var 0)) (.var 0)))) (.mul (.neg (.sub (.sub (.sub (.mul (.var 2) (.var 2)) (.var 0)) (.var 0)) (.var 0))) (.sub (.add (.add (.mul (.var 0) (.var 0)) (.mul (.var 0) (.var 0))) (.mul (.var 0) (.var 0))) (.mul (.var 2) (.add (.add (.var 1) (.var 1)) (.mul (.var 2) (.sub (.var 0) (.var 0))))))) (by kernel_rfl)) (lz hT)))
  · have hx : l * l - x - x = x := hx
    refine ⟨Prod.ext hx ?_, ?_⟩
    · show y + l * (l * l - x - x - x) = y
      exact (eq_of_sub (Eq.trans (show ((y + (l * ((((l * l) - x) - x) - x))) - y) = (l * ((((l * l) - x) - x) - x)) from ring_id (fun vi_ => vget vi_ [x, y, l]) (.sub (.add (.var 1) (.mul (.var 2) (.sub (.sub (.sub (.mul (.var 2) (.var 2)) (.var 0)) (.var 0)) (.var 0)))) (.var 1)) (.mul (.var 2) (.sub (.sub (.sub (.mul (.var 2) (.var 2)) (.var 0)) (.var 0)) (.var 0))) (by kernel_rfl)) (lz hx)))
    · show x * x * (x * x) + x * x * (x * x) + x * x * (x * x) + (x * x * (x * x) + x * x * (x * x) + x * x * (x * x)) + (x * x * (x * x) + x * x * (x * x) + x * x * (x * x)) = x * (y * y) + x * (y * y) + x * (y * y) + (x * (y * y) + x * (y * y) + x * (y * y)) + (x * (y * y) + x * (y * y) + x * (y * y) + (x * (y * y) + x * (y * y) + x * (y * y)))
      exact (eq_of_sub (Eq.trans (show (((((((x * x) * (x * x)) + ((x * x) * (x * x))) + ((x * x) * (x * x))) + ((((x * x) * (x * x)) + ((x * x) * (x * x))) + ((x * x) * (x * x)))) + ((((x * x) * (x * x)) + ((x * x) * (x * x))) + ((x * x) * (x * x)))) - (((((x * (y * y)) + (x * (y * y))) + (x * (y * y))) + (((x * (y * y)) + (x * (y * y))) + (x * (y * y)))) + ((((x * (y * y)) + (x * (y * y))) + (x * (y * y))) + (((x * (y * y)) + (x * (y * y))) + (x * (y * y)))))) = ((((((x * x) + (x * x)) + (x * x)) + (l * (y + y))) * ((((x * x) + (x * x)) + (x * x)) - (l * ((y + y) + (l * (x - x)))))) + (((y + y) * (y + y)) * ((((l * l) - x) - x) - x))) from ring_id (fun vi_ => vget vi_ [x, y, l]) (.sub (.add (.add (.add (.add (.mul (.mul (.var 0) (.var 0)) (.mul (.var 0) (.var 0))) (.mul (.mul (.var 0) (.var 0)) (.mul (.var 0) (.var 0)))) (.mul (.mul (.var 0) (.var 0)) (.mul (.var 0) (.var 0)))) (.add (.add (.mul (.mul (.var 0) (.var 0)) (.mul (.var 0) (.var 0))) (.mul (.mul (.var 0) (.var 0)) (.mul (.var 0) (.var 0)))) (.mul (.mul (.var 0) (.var 0)) (.mul (.var 0) (.var 0))))) (.add (.add (.mul (.mul (.var 0) (.var 0)) (.mul (.var 0) (.var 0))) (.mul (.mul (.var 0) (.var 0)) (.mul (.var 0) (.var 0)))) (.mul (.mul (.var 0) (.var 0)) (.mul (.var 0) (.var 0))))) (.add (.add (.add (.add (.mul (.var 0) (.mul (.var 1) (.var 1))) (.mul (.var 0) (.mul (.var 1) (.var 1)))) (.mul (.var 0) (.mul (.var 1) (.var 1)))) (.add (.add (.mul (.var 0) (.mul (.var 1) (.var 1))) (.mul (.var 0) (.mul (.var 1) (.var 1)))) (.mul (.var 0) (.mul (.var 1) (.var 1))))) (.add (.add (.add (.mul (.var 0) (.mul (.var 1) (.var 1))) (.mul (.var 0) (.mul (.var 1) (.var 1)))) (.mul (.var 0) (.mul (.var 1) (.var 1)))) (.add (.add (.mul (.var 0) (.mul (.var 1) (.var 1))) (.mul (.var 0) (.mul (.var 1) (.var 1)))) (.mul (.var 0) (.mul (.var 1) (.var 1))))))) (.add (.mul (.add (.add (.add (.mul (.var 0) (.var 0)) (.mul (.var 0) (.var 0))) (.mul (.var 0) (.var 0))) (.mul (.var 2) (.add (.var 1) (.var 1)))) (.sub (.add (.add (.mul (.var 0) (.var 0)) (.mul (.var 0) (.var 0))) (.mul (.var 0) (.var 0))) (.mul (.var 2) (.add (.add (.var 1) (.var 1)) (.mul (.var 2) (.sub (.var 0) (.var 0))))))) (.mul (.mul (.add (.var 1) (.var 1)) (.add (.var 1) (.var 1))) (.sub (.sub (.sub (.mul (.var 2) (.var 2)) (.var 0)) (.var 0)) (.var 0)))) (by kernel_rfl)) (lz2 (lz hT) (lz hx))))
/-- The chord. -/
theorem chord_r {p q : α × α} (hp : Aff B p) (hq : Aff B q) (hx : p.1 ≠ q.1) (r : α × α) (hr : r = cneg (cadd p q)) :
    ((q.1 - p.1) * (r.2 - p.2) = (r.1 - p.1) * (q.2 - p.2)) ∧ (p.1 + q.1 + r.1) * ((q.1 - p.1) * (q.1 - p.1)) = (q.2 - p.2) * (q.2 - p.2) := by
  obtain ⟨l, hl, he⟩ := line_r hp hq (fun h => hx h.1)
  rw [he] at hr
  subst hr
  have ha := hl.at_
  obtain ⟨x1, y1⟩ := p
  obtain ⟨x2, y2⟩ := q
  have ha : y2 = y1 + l * (x2 - x1) := ha
  subst ha
  refine ⟨?_, ?_⟩
  · exact (show ((x2 - x1) * ((y1 + (l * ((((l * l) - x1) - x2) - x1))) - y1)) = (((((l * l) - x1) - x2) - x1) * ((y1 + (l * (x2 - x1))) - y1)) from ring_id (fun vi_ => vget vi_ [x1, y1, x2, l]) (.mul (.sub (.var 2) (.var 0)) (.sub (.add (.var 1) (.mul (.var 3) (.sub (.sub (.sub (.mul (.var 3) (.var 3)) (.var 0)) (.var 2)) (.var 0)))) (.var 1))) (.mul (.sub (.sub (.sub (.mul (.var 3) (.var 3)) (.var 0)) (.var 2)) (.var 0)) (.sub (.add (.var 1) (.mul (.var 3) (.sub (.var 2) (.var 0)))) (.var 1))) (by kernel_rfl))
  · exact (show (((x1 + x2) + (((l * l) - x1) - x2)) * ((x2 - x1) * (x2 - x1))) = (((y1 + (l * (x2 - x1))) - y1) * ((y1 + (l * (x2 - x1))) - y1)) from ring_id (fun vi_ => vget vi_ [x1, y1, x2, l]) (.mul (.add (.add (.var 0) (.var 2)) (.sub (.sub (.mul (.var 3) (.var 3)) (.var 0)) (.var 2))) (.mul (.sub (.var 2) (.var 0)) (.sub (.var 2) (.var 0)))) (.mul (.sub (.add (.var 1) (.mul (.var 3) (.sub (.var 2) (.var 0)))) (.var 1)) (.sub (.add (.var 1) (.mul (.var 3) (.sub (.var 2) (.var 0)))) (.var 1))) (by kernel_rfl))
/-- Two points of the curve over one number are the same, or each other's negatives. -/
theorem same_x {p q : α × α} (hp : Aff B p) (hq : Aff B q) (hx : p.1 = q.1) : p = q ∨ p = cneg q := by
  by_cases hs : p.2 + q.2 = 0
  · right
    unfold cneg
    rw [if_neg hq.ne]
    exact Prod.ext hx (eq_of_sub (Eq.trans (show (p.2 - (0 - q.2)) = (1 * ((p.2 + q.2) - 0)) from ring_id (fun vi_ => vget vi_ [p.2, q.2]) (.sub (.var 0) (.sub .zero (.var 1))) (.mul .one (.sub (.add (.var 0) (.var 1)) .zero)) (by kernel_rfl)) (lz hs)))
  · left
    refine Prod.ext hx ?_
    apply Classical.byContradiction
    intro hne
    refine Fld.mul_ne (sub_ne hne) hs ?_
    have H1 : p.2 * p.2 = p.1 * p.1 * p.1 + B := hp
    have H2 : q.2 * q.2 = q.1 * q.1 * q.1 + B := hq
    rw [← hx] at H2
    exact (eq_of_sub (Eq.trans (show (((q.2 - p.2) * (p.2 + q.2)) - 0) = ((1 * ((q.2 * q.2) - (((p.1 * p.1) * p.1) + B))) + ((-1) * ((p.2 * p.2) - (((p.1 * p.1) * p.1) + B)))) from ring_id (fun vi_ => vget vi_ [p.2, q.2, p.1, B]) (.sub (.mul (.sub (.var 1) (.var 0)) (.add (.var 0) (.var 1))) .zero) (.add (.mul .one (.sub (.mul (.var 1) (.var 1)) (.add (.mul (.mul (.var 2) (.var 2)) (.var 2)) (.var 3)))) (.mul (.neg .one) (.sub (.mul (.var 0) (.var 0)) (.add (.mul (.mul (.var 2) (.var 2)) (.var 2)) (.var 3))))) (by kernel_rfl)) (lz2 (lz H2) (lz H1))))
/-- A line's slope is what the points say. -/
theorem Ln.unique {l l' : α} {p q : α × α} (hp : Aff B p) (hq : Aff B q) (h : ¬ (p.1 = q.1 ∧ p.2 + q.2 = 0)) (h1 : Ln l p q) (h2 : Ln l' p q) : l = l' := by
  by_cases hx : p.1 = q.1
  · have hy : p.2 + p.2 ≠ 0 := by
      intro e
      rcases same_x hp hq hx with e2 | e2
      · exact h ⟨hx, by rw [← e2]; exact e⟩
      · refine h ⟨hx, ?_⟩
        rw [e2]
        unfold cneg
        rw [if_neg hq.ne]
        exact (show ((0 - q.2) + q.2) = 0 from ring_id (fun vi_ => vget vi_ [q.2]) (.add (.sub .zero (.var 0)) (.var 0)) .zero (by kernel_rfl))
    have t1 := h1.tan
    have t2 := h2.tan
    refine Fld.cancel hy ?_
    rw [← hx] at t1 t2
    exact (eq_of_sub (Eq.trans (show (((p.2 + p.2) * l) - ((p.2 + p.2) * l')) = (((-1) * ((((p.1 * p.1) + (p.1 * p.1)) + (p.1 * p.1)) - (l * ((p.2 + p.2) + (l * (p.1 - p.1)))))) + (1 * ((((p.1 * p.1) + (p.1 * p.1)) + (p.1 * p.1)) - (l' * ((p.2 + p.2) + (l' * (p.1 - p.1))))))) from ring_id (fun vi_ => vget vi_ [p.2, p.1, l, l']) (.sub (.mul (.add (.var 0) (.var 0)) (.var 2)) (.mul (.add (.var 0) (.var 0)) (.var 3))) (.add (.mul (.neg .one) (.sub (.add (.add (.mul (.var 1) (.var 1)) (.mul (.var 1) (.var 1))) (.mul (.var 1) (.var 1))) (.mul (.var 2) (.add (.add (.var 0) (.var 0)) (.mul (.var 2) (.sub (.var 1) (.var 1))))))) (.mul .one (.sub (.add (.add (.mul (.var 1) (.var 1)) (.mul (.var 1) (.var 1))) (.mul (.var 1) (.var 1))) (.mul (.var 3) (.add (.add (.var 0) (.var 0)) (.mul (.var 3) (.sub (.var 1) (.var 1)))))))) (by kernel_rfl)) (lz2 (lz t1) (lz t2))))
  · refine Fld.cancel (sub_ne hx) ?_
    have a1 := h1.at_
    have a2 := h2.at_
    exact (eq_of_sub (Eq.trans (show (((q.1 - p.1) * l) - ((q.1 - p.1) * l')) = (((-1) * (q.2 - (p.2 + (l * (q.1 - p.1))))) + (1 * (q.2 - (p.2 + (l' * (q.1 - p.1)))))) from ring_id (fun vi_ => vget vi_ [p.1, p.2, q.1, q.2, l, l']) (.sub (.mul (.sub (.var 2) (.var 0)) (.var 4)) (.mul (.sub (.var 2) (.var 0)) (.var 5))) (.add (.mul (.neg .one) (.sub (.var 3) (.add (.var 1) (.mul (.var 4) (.sub (.var 2) (.var 0)))))) (.mul .one (.sub (.var 3) (.add (.var 1) (.mul (.var 5) (.sub (.var 2) (.var 0))))))) (by kernel_rfl)) (lz2 (lz a1) (lz a2))))
theorem cadd_line {l : α} {p q : α × α} (hp : Aff B p) (hq : Aff B q) (h : ¬ (p.1 = q.1 ∧ p.2 + q.2 = 0)) (h1 : Ln l p q) : cadd p q = third l p q := by
  unfold cadd
  rw [if_neg hp.ne, if_neg hq.ne, if_neg h, Ln.unique hp hq h (slope_ok hp hq h) h1]

/-- A map of the field onto itself that keeps sums and products. -/
structure Sig (σ : α → α) : Prop where
  add : ∀ a b, σ (a + b) = σ a + σ b
  mul : ∀ a b, σ (a * b) = σ a * σ b
  inj : ∀ a b, σ a = σ b → a = b
theorem Sig.zero {σ : α → α} (h : Sig σ) : σ 0 = 0 := by
  have h1 : σ 0 + σ 0 = σ 0 + 0 := by rw [← h.add, zero_add, add_zero']
  exact add_left_cancel' h1
theorem Sig.neg {σ : α → α} (h : Sig σ) (a : α) : σ (-a) = -σ a := by
  have h1 : σ a + σ (-a) = σ a + -σ a := by rw [← h.add, add_neg, h.zero, add_neg]
  exact add_left_cancel' h1
theorem Sig.sub {σ : α → α} (h : Sig σ) (a b : α) : σ (a - b) = σ a - σ b := by rw [sub_eq, h.add, h.neg, ← sub_eq]
/-- The curve's turn by e: x goes to e^2 σ(x), y to e^3 σ(y). -/
def turnm (σ : α → α) (e : α) (p : α × α) : α × α := (e * e * σ p.1, e * e * e * σ p.2)
structure Turn (B : α) (σ : α → α) (e : α) : Prop where
  sig : Sig σ
  ne : e ≠ 0
  keep : e * e * e * (e * e * e) * σ B = B
theorem turn_zero {σ : α → α} {e : α} (h : Turn B σ e) : turnm σ e (0, 0) = (0, 0) := by
  unfold turnm
  rw [h.sig.zero, mul_zero', mul_zero']
theorem turn_aff {σ : α → α} {e : α} (h : Turn B σ e) {p : α × α} (hp : Aff B p) : Aff B (turnm σ e p) := by
  have H1 := congrArg σ hp
  rw [h.sig.mul, h.sig.add, h.sig.mul, h.sig.mul] at H1
  have hk := h.keep
  generalize hX : σ p.1 = X at *
  generalize hY : σ p.2 = Y at *
  generalize hb : σ B = b at *
  show e * e * e * σ p.2 * (e * e * e * σ p.2) = e * e * σ p.1 * (e * e * σ p.1) * (e * e * σ p.1) + B
  rw [hX, hY]
  exact (eq_of_sub (Eq.trans (show (((((e * e) * e) * Y) * (((e * e) * e) * Y)) - (((((e * e) * X) * ((e * e) * X)) * ((e * e) * X)) + B)) = (((((e * e) * e) * ((e * e) * e)) * ((Y * Y) - (((X * X) * X) + b))) + (1 * (((((e * e) * e) * ((e * e) * e)) * b) - B))) from ring_id (fun vi_ => vget vi_ [e, X, Y, b, B]) (.sub (.mul (.mul (.mul (.mul (.var 0) (.var 0)) (.var 0)) (.var 2)) (.mul (.mul (.mul (.var 0) (.var 0)) (.var 0)) (.var 2))) (.add (.mul (.mul (.mul (.mul (.var 0) (.var 0)) (.var 1)) (.mul (.mul (.var 0) (.var 0)) (.var 1))) (.mul (.mul (.var 0) (.var 0)) (.var 1))) (.var 4))) (.add (.mul (.mul (.mul (.mul (.var 0) (.var 0)) (.var 0)) (.mul (.mul (.var 0) (.var 0)) (.var 0))) (.sub (.mul (.var 2) (.var 2)) (.add (.mul (.mul (.var 1) (.var 1)) (.var 1)) (.var 3)))) (.mul .one (.sub (.mul (.mul (.mul (.mul (.var 0) (.var 0)) (.var 0)) (.mul (.mul (.var 0) (.var 0)) (.var 0))) (.var 3)) (.var 4)))) (by kernel_rfl)) (lz2 (lz H1) (lz hk))))
theorem turn_on {σ : α → α} {e : α} (h : Turn B σ e) {p : α × α} (hp : On B p) : On B (turnm σ e p) := by
  rcases hp with rfl | hp
  · rw [turn_zero h]; exact .inl rfl
  · exact .inr (turn_aff h hp)
theorem turn_add {σ : α → α} {e : α} (h : Turn B σ e) {p q : α × α} (hp : On B p) (hq : On B q) : turnm σ e (cadd p q) = cadd (turnm σ e p) (turnm σ e q) := by
  rcases hp with rfl | hp
  · rw [turn_zero h, zero_cadd, zero_cadd]
  rcases hq with rfl | hq
  · rw [turn_zero h, cadd_zero, cadd_zero]
  have hp' := turn_aff h hp
  have hq' := turn_aff h hq
  have he3 : e * e * e ≠ 0 := Fld.mul_ne (Fld.mul_ne h.ne h.ne) h.ne
  by_cases hc : p.1 = q.1 ∧ p.2 + q.2 = 0
  · have hc' : (turnm σ e p).1 = (turnm σ e q).1 ∧ (turnm σ e p).2 + (turnm σ e q).2 = 0 := by
      refine ⟨by unfold turnm; rw [hc.1], ?_⟩
      show e * e * e * σ p.2 + e * e * e * σ q.2 = 0
      rw [← mul_add, ← h.sig.add, hc.2, h.sig.zero, mul_zero']
    have e1 : cadd p q = (0, 0) := by unfold cadd; rw [if_neg hp.ne, if_neg hq.ne, if_pos hc]
    have e2 : cadd (turnm σ e p) (turnm σ e q) = (0, 0) := by unfold cadd; rw [if_neg hp'.ne, if_neg hq'.ne, if_pos hc']
    rw [e1, e2, turn_zero h]
  · have hc' : ¬ ((turnm σ e p).1 = (turnm σ e q).1 ∧ (turnm σ e p).2 + (turnm σ e q).2 = 0) := by
      rintro ⟨h1, h2⟩
      have h1 : e * e * σ p.1 = e * e * σ q.1 := h1
      have h2 : e * e * e * σ p.2 + e * e * e * σ q.2 = 0 := h2
      rw [← mul_add, ← h.sig.add] at h2
      refine hc ⟨h.sig.inj _ _ (Fld.cancel (Fld.mul_ne h.ne h.ne) h1), h.sig.inj _ _ (Fld.cancel he3 ?_)⟩
      rw [h2, h.sig.zero, mul_zero']
    have hl := slope_ok hp hq hc
    have e1 : cadd p q = third (slope p q) p q := cadd_line hp hq hc hl
    generalize slope p q = l at *
    have ha := congrArg σ hl.at_
    have ht := congrArg σ hl.tan
    simp only [h.sig.mul, h.sig.add, h.sig.sub] at ha ht
    have hl' : Ln (e * σ l) (turnm σ e p) (turnm σ e q) := by
      refine ⟨?_, ?_⟩
      · show e * e * e * σ q.2 = e * e * e * σ p.2 + e * σ l * (e * e * σ q.1 - e * e * σ p.1)
        exact (eq_of_sub (Eq.trans (show ((((e * e) * e) * (σ q.2)) - ((((e * e) * e) * (σ p.2)) + ((e * (σ l)) * (((e * e) * (σ q.1)) - ((e * e) * (σ p.1)))))) = (((e * e) * e) * ((σ q.2) - ((σ p.2) + ((σ l) * ((σ q.1) - (σ p.1)))))) from ring_id (fun vi_ => vget vi_ [e, σ p.1, σ p.2, σ q.1, σ q.2, σ l]) (.sub (.mul (.mul (.mul (.var 0) (.var 0)) (.var 0)) (.var 4)) (.add (.mul (.mul (.mul (.var 0) (.var 0)) (.var 0)) (.var 2)) (.mul (.mul (.var 0) (.var 5)) (.sub (.mul (.mul (.var 0) (.var 0)) (.var 3)) (.mul (.mul (.var 0) (.var 0)) (.var 1)))))) (.mul (.mul (.mul (.var 0) (.var 0)) (.var 0)) (.sub (.var 4) (.add (.var 2) (.mul (.var 5) (.sub (.var 3) (.var 1)))))) (by kernel_rfl)) (lz ha)))
      · show e * e * σ p.1 * (e * e * σ p.1) + e * e * σ p.1 * (e * e * σ q.1) + e * e * σ q.1 * (e * e * σ q.1) = e * σ l * (e * e * e * σ p.2 + e * e * e * σ p.2 + e * σ l * (e * e * σ q.1 - e * e * σ p.1))
        exact (eq_of_sub (Eq.trans (show ((((((e * e) * (σ p.1)) * ((e * e) * (σ p.1))) + (((e * e) * (σ p.1)) * ((e * e) * (σ q.1)))) + (((e * e) * (σ q.1)) * ((e * e) * (σ q.1)))) - ((e * (σ l)) * (((((e * e) * e) * (σ p.2)) + (((e * e) * e) * (σ p.2))) + ((e * (σ l)) * (((e * e) * (σ q.1)) - ((e * e) * (σ p.1))))))) = (((e * e) * (e * e)) * (((((σ p.1) * (σ p.1)) + ((σ p.1) * (σ q.1))) + ((σ q.1) * (σ q.1))) - ((σ l) * (((σ p.2) + (σ p.2)) + ((σ l) * ((σ q.1) - (σ p.1))))))) from ring_id (fun vi_ => vget vi_ [e, σ p.1, σ p.2, σ q.1, σ l]) (.sub (.add (.add (.mul (.mul (.mul (.var 0) (.var 0)) (.var 1)) (.mul (.mul (.var 0) (.var 0)) (.var 1))) (.mul (.mul (.mul (.var 0) (.var 0)) (.var 1)) (.mul (.mul (.var 0) (.var 0)) (.var 3)))) (.mul (.mul (.mul (.var 0) (.var 0)) (.var 3)) (.mul (.mul (.var 0) (.var 0)) (.var 3)))) (.mul (.mul (.var 0) (.var 4)) (.add (.add (.mul (.mul (.mul (.var 0) (.var 0)) (.var 0)) (.var 2)) (.mul (.mul (.mul (.var 0) (.var 0)) (.var 0)) (.var 2))) (.mul (.mul (.var 0) (.var 4)) (.sub (.mul (.mul (.var 0) (.var 0)) (.var 3)) (.mul (.mul (.var 0) (.var 0)) (.var 1))))))) (.mul (.mul (.mul (.var 0) (.var 0)) (.mul (.var 0) (.var 0))) (.sub (.add (.add (.mul (.var 1) (.var 1)) (.mul (.var 1) (.var 3))) (.mul (.var 3) (.var 3))) (.mul (.var 4) (.add (.add (.var 2) (.var 2)) (.mul (.var 4) (.sub (.var 3) (.var 1))))))) (by kernel_rfl)) (lz ht)))
    rw [e1, cadd_line hp' hq' hc' hl']
    unfold turnm third
    simp only [h.sig.mul, h.sig.add, h.sig.sub]
    refine Prod.ext ?_ ?_
    · exact (show ((e * e) * ((((σ l) * (σ l)) - (σ p.1)) - (σ q.1))) = ((((e * (σ l)) * (e * (σ l))) - ((e * e) * (σ p.1))) - ((e * e) * (σ q.1))) from ring_id (fun vi_ => vget vi_ [e, σ p.1, σ q.1, σ l]) (.mul (.mul (.var 0) (.var 0)) (.sub (.sub (.mul (.var 3) (.var 3)) (.var 1)) (.var 2))) (.sub (.sub (.mul (.mul (.var 0) (.var 3)) (.mul (.var 0) (.var 3))) (.mul (.mul (.var 0) (.var 0)) (.var 1))) (.mul (.mul (.var 0) (.var 0)) (.var 2))) (by kernel_rfl))
    · exact (show (((e * e) * e) * (((σ l) * ((σ p.1) - ((((σ l) * (σ l)) - (σ p.1)) - (σ q.1)))) - (σ p.2))) = (((e * (σ l)) * (((e * e) * (σ p.1)) - ((((e * (σ l)) * (e * (σ l))) - ((e * e) * (σ p.1))) - ((e * e) * (σ q.1))))) - (((e * e) * e) * (σ p.2))) from ring_id (fun vi_ => vget vi_ [e, σ p.1, σ p.2, σ q.1, σ l]) (.mul (.mul (.mul (.var 0) (.var 0)) (.var 0)) (.sub (.mul (.var 4) (.sub (.var 1) (.sub (.sub (.mul (.var 4) (.var 4)) (.var 1)) (.var 3)))) (.var 2))) (.sub (.mul (.mul (.var 0) (.var 4)) (.sub (.mul (.mul (.var 0) (.var 0)) (.var 1)) (.sub (.sub (.mul (.mul (.var 0) (.var 4)) (.mul (.var 0) (.var 4))) (.mul (.mul (.var 0) (.var 0)) (.var 1))) (.mul (.mul (.var 0) (.var 0)) (.var 3))))) (.mul (.mul (.mul (.var 0) (.var 0)) (.var 0)) (.var 2))) (by kernel_rfl))
/-- The turn, as a map of the curve's group. -/
def turnG {σ : α → α} {e : α} (h : Turn B σ e) (p : Gp B) : Gp B := ⟨turnm σ e p.1, turn_on h p.2⟩
theorem turnG_add {σ : α → α} {e : α} (h : Turn B σ e) (p q : Gp B) : turnG h (p + q) = turnG h p + turnG h q := Gp.ext (turn_add h p.2 q.2)
theorem turnG_zero {σ : α → α} {e : α} (h : Turn B σ e) : turnG h (0 : Gp B) = 0 := Gp.ext (turn_zero h)
theorem turnG_nmul {σ : α → α} {e : α} (h : Turn B σ e) (p : Gp B) : ∀ n, turnG h (nmul n p) = nmul n (turnG h p)
  | 0 => turnG_zero h
  | n + 1 => by rw [nmul, turnG_add, turnG_nmul h p n, nmul]
theorem turnG_neg {σ : α → α} {e : α} (h : Turn B σ e) (p : Gp B) : turnG h (-p) = -turnG h p := a_neg_eq (by rw [← turnG_add, a_neg, turnG_zero])
end
end Go.Ec

/- The first group's laws: which points lie on a line, and points that are not of the group: the walks. Conditions: of the points, as each says. -/
namespace Go.Cu
open Go Go.Vm Go.RowKit Go.Proofs 
attribute [local irreducible] W OpsW Det Fresh New Writes Vm.Pure Makes Changes ExternTo BuildTo ZeroTo FieldTo IndexTo BinTo SliceTo Vm.Enters
set_option linter.unusedVariables false
set_option linter.unusedSimpArgs false
variable {T : Nat → TypeId × Nat × Nat}

theorem nf {p : Prop} [Decidable p] (h : ¬ p) : decide p = false := decide_eq_false h
theorem ny {p : Prop} [Decidable p] (h : ¬ p) : (!decide p) = true := by rw [decide_eq_false h]; rfl

/-- What stands under the root at k. -/
def wcube (k : Nat) : Fq := Zp.of k * Zp.of k * Zp.of k + Zp.of 4
/-- The first of f numbers from k on that has a point of the curve. -/
def wfrom : Nat → Nat → Pt
  | 0, _ => (0, 0)
  | f + 1, k => if (sqrtF (wcube k)).2 = true ∧ (sqrtF (wcube k)).1 ≠ 0 then (Zp.of k, (sqrtF (wcube k)).1) else wfrom f (k + 1)
def wild (n : Nat) : Pt := wfrom 200 n
theorem wild_hit {n k : Nat} (hk : k < n + 200) (hw : wild n = wfrom (n + 200 - k) k) (h1 : (sqrtF (wcube k)).2 = true) (h2 : (!decide ((sqrtF (wcube k)).1 = 0)) = true) : (Zp.of k, (sqrtF (wcube k)).1) = wild n := by
  rw [hw, show n + 200 - k = (n + 200 - (k + 1)) + 1 by omega, wfrom, if_pos ⟨h1, by simpa using h2⟩]
theorem wild_no {n k : Nat} (hk : k < n + 200) (hw : wild n = wfrom (n + 200 - k) k) (h1 : (sqrtF (wcube k)).2 = false) : wild n = wfrom (n + 200 - (k + 1)) (k + 1) := by
  rw [hw, show n + 200 - k = (n + 200 - (k + 1)) + 1 by omega, wfrom, if_neg (by rw [h1]; simp)]
theorem wild_zero {n k : Nat} (hk : k < n + 200) (hw : wild n = wfrom (n + 200 - k) k) (h2 : (!decide ((sqrtF (wcube k)).1 = 0)) = false) : wild n = wfrom (n + 200 - (k + 1)) (k + 1) := by
  rw [hw, show n + 200 - k = (n + 200 - (k + 1)) + 1 by omega, wfrom, if_neg (by
    have h2 : (sqrtF (wcube k)).1 = 0 := by simpa using h2
    rw [h2]; simp)]
theorem wild_end {n k : Nat} (hk : ¬ k < n + 200) (hk2 : k ≤ n + 200) (hw : wild n = wfrom (n + 200 - k) k) : (0, 0) = wild n := by
  rw [hw, show n + 200 - k = 0 by omega, wfrom]

theorem en68 : Vm.Enters Tryd.prog 68 := Vm.Enters.of fun _ _ => by kernel_rfl
theorem en69 : Vm.Enters Tryd.prog 69 := Vm.Enters.of fun _ _ => by kernel_rfl
theorem u39 : Tryd.prog.underlying 39 = some (.int .u16) := by kernel_rfl
set_option maxHeartbeats 2000000 in
theorem sidesA_ok {p q r : Pt} (h1 : p = (0, 0)) (h2 : q = pneg r) {w : World} (hG : Blocks (GH T) w)  : Vm.Pure Tryd.prog 29 #[encP p, encP q, encP r] w (.bool true) := by
  refine pure_of_W (n := 140) (args := [encP p, encP q, encP r]) Tryd.func29 rfl Tryd.ntmps29 (Nat.le_of_ble_eq_true rfl) hG ?_
  refine sStart ?_
  refine sSeq ?_
  refine W.region ?_
  refine OpsW.fresh (fr_box rfl rfl) rfl fun b3 => ?_
  refine OpsW.fresh (fr_box rfl rfl) rfl fun b4 => ?_
  refine OpsW.fresh (fr_box rfl rfl) rfl fun b5 => ?_
  refine OpsW.det (det_assign rfl) rfl ?_
  refine sNext ?_
  refine W.keep (F' := [(5, _), (4, _), (3, _)]) ⟨rfl, rfl, rfl, trivial⟩ ?_
  refine sSeq ?_
  refine W.region ?_
  refine OpsW.det (det_zero bz30) rfl ?_
  refine OpsW.fresh (fr_alloc z30) rfl fun b7 => ?_
  refine OpsW.store sz30 rfl rfl rfl rfl rfl (Upd.here) rfl ?_
  refine sNext ?_
  refine W.keep (F' := [(7, _), (5, _), (4, _), (3, _)]) ⟨rfl, rfl, rfl, rfl, trivial⟩ ?_
  refine sSeq ?_
  refine sSeq ?_
  refine W.region ?_
  refine OpsW.det (det_loadA ty30 rfl (List.Mem.tail _ (List.Mem.tail _ (List.Mem.tail _ (List.Mem.head _)))) rfl) rfl ?_
  refine OpsW.det (det_loadA ty30 rfl (List.Mem.head _) rfl) rfl ?_
  refine OpsW.det (Det.to (det_eql30 rfl rfl) (congrArg Value.bool (yb h1))) rfl ?_
  refine OpsW.det (det_move rfl) rfl ?_
  refine OpsW.guard_no rfl rfl rfl ?_
  refine OpsW.guard_no rfl rfl rfl ?_
  refine OpsW.guard_no rfl rfl rfl ?_
  refine OpsW.det (det_pick rfl rfl) rfl ?_
  refine OpsW.det (det_move rfl) rfl ?_
  refine OpsW.guard_no rfl rfl rfl ?_
  refine OpsW.guard_no rfl rfl rfl ?_
  refine OpsW.guard_no rfl rfl rfl ?_
  refine OpsW.det (det_pick rfl rfl) rfl ?_
  refine sNext ?_
  refine W.keep (F' := [(22, _), (7, _), (5, _), (4, _), (3, _)]) ⟨rfl, rfl, rfl, rfl, rfl, trivial⟩ ?_
  refine W.cond_true rfl ?_
  refine sSeq ?_
  refine W.draw mixed 32 [[], [], [0, 1], [0, 1, 2], [0, 1, 2, 3], [0, 1, 2, 3], [0, 1, 2, 3, 5], [0, 1, 2, 3, 4, 5, 6], [0, 1, 2, 3, 4, 5, 6, 7], [0, 1, 2, 3, 4, 5, 6, 7, 8], [0, 1, 2, 3, 4, 5, 6, 7, 8, 9], [0, 1, 2, 3, 4, 5, 6, 7, 8, 9], [0, 1, 2, 3, 4, 5, 6, 7, 8, 9, 10, 11], [0, 1, 2, 3, 4, 5, 6, 7, 8, 9, 10, 11, 12], [0, 1, 2, 3, 4, 5, 6, 7, 8, 9, 10, 11, 12, 13], [0, 1, 2, 3, 4, 5, 6, 7, 8, 9, 10, 11, 12, 13], [0, 1, 2, 3, 4, 5, 6, 7, 8, 9, 10, 11, 12, 13, 15], [0, 1, 2, 3, 4, 5, 6, 7, 8, 9, 10, 11, 12, 13, 14, 15, 16], [0, 1, 2, 3, 4, 5, 6, 7, 8, 9, 10, 11, 12, 13, 14, 15, 16, 17], [0, 1, 2, 3, 4, 5, 6, 7, 8, 9, 10, 11, 12, 13, 14, 15, 16, 17, 18], [0, 1, 2, 3, 4, 5, 6, 7, 8, 9, 10, 11, 12, 13, 14, 15, 16, 17, 18, 19], [0, 1, 2, 3, 4, 5, 6, 7, 8, 9, 10, 11, 12, 13, 14, 15, 16, 17, 18, 19, 20], [0, 1, 2, 3, 4, 5, 6, 7, 8, 9, 10, 11, 12, 13, 14, 15, 16, 17, 18, 19, 20], [0, 1, 2, 3, 4, 5, 6, 7, 8, 9, 10, 11, 12, 13, 14, 15, 16, 17, 18, 19, 20, 21, 22], [0, 1, 2, 3, 4, 5, 6, 7, 8, 9, 10, 11, 12, 13, 14, 15, 16, 17, 18, 19, 20, 21, 22, 23], [0, 1, 2, 3, 4, 5, 6, 7, 8, 9, 10, 11, 12, 13, 14, 15, 16, 17, 18, 19, 20, 21, 22, 23, 24], [0, 1, 2, 3, 4, 5, 6, 7, 8, 9, 10, 11, 12, 13, 14, 15, 16, 17, 18, 19, 20, 21, 22, 23, 24], [0, 1, 2, 3, 4, 5, 6, 7, 8, 9, 10, 11, 12, 13, 14, 15, 16, 17, 18, 19, 20, 21, 22, 23, 24, 26], [0, 1, 2, 3, 4, 5, 6, 7, 8, 9, 10, 11, 12, 13, 14, 15, 16, 17, 18, 19, 20, 21, 22, 23, 24, 25, 26, 27], [0, 1, 2, 3, 4, 5, 6, 7, 8, 9, 10, 11, 12, 13, 14, 15, 16, 17, 18, 19, 20, 21, 22, 23, 24, 25, 26, 27, 28], [0, 1, 2, 3, 4, 5, 6, 7, 8, 9, 10, 11, 12, 13, 14, 15, 16, 17, 18, 19, 20, 21, 22, 23, 24, 25, 26, 27, 28, 29], [0, 1, 2, 3, 4, 5, 6, 7, 8, 9, 10, 11, 12, 13, 14, 15, 16, 17, 18, 19, 20, 21, 22, 23, 24, 25, 26, 27, 28, 29, 30]] (cl_lt (by decide)) ?_
  refine HeadR.start (cl_lt (by decide)) ?_
  refine HeadR.det rfl (fun β hβ => (det_loadA ty30 rfl (List.Mem.tail _ (List.Mem.tail _ (List.Mem.tail _ (List.Mem.head _)))) rfl)) ?_
  refine HeadR.det rfl (fun β hβ => (det_loadA ty30 rfl (List.Mem.head _) rfl)) ?_
  refine HeadR.det rfl (fun β hβ => (Det.to (det_eql30 rfl rfl) (congrArg Value.bool (yb h1)))) ?_
  refine HeadR.det rfl (fun β hβ => (det_move rfl)) ?_
  refine HeadR.yes rfl rfl (fun _ _ => rfl) (fun β hβ => (det_loadA ty30 rfl (List.Mem.tail _ (List.Mem.tail _ (List.Mem.head _))) rfl)) ?_
  refine HeadR.yes rfl rfl (fun _ _ => rfl) (fun β hβ => (det_loadA ty30 rfl (List.Mem.tail _ (List.Mem.head _)) rfl)) ?_
  refine HeadR.yes rfl rfl (fun _ _ => rfl) (fun β hβ => (det_call en22 rfl (fun w hb ho => PNeg_ok ho.blocks))) ?_
  refine HeadR.yes rfl rfl (fun _ _ => rfl) (fun β hβ => (Det.to (det_eql30 rfl rfl) (congrArg Value.bool (yb h2)))) ?_
  refine HeadR.det rfl (fun β hβ => (det_pick rfl rfl)) ?_
  refine HeadR.det rfl (fun β hβ => (det_move rfl)) ?_
  refine HeadR.no rfl rfl (fun _ _ => rfl) ?_
  refine HeadR.no rfl rfl (fun _ _ => rfl) ?_
  refine HeadR.no rfl rfl (fun _ _ => rfl) ?_
  refine HeadR.no rfl rfl (fun _ _ => rfl) ?_
  refine HeadR.un rfl rfl (fun _ _ => rfl) ?_
  refine HeadR.un rfl rfl (fun _ _ => rfl) ?_
  refine HeadR.un rfl rfl (fun _ _ => rfl) ?_
  refine HeadR.un rfl rfl (fun _ _ => rfl) ?_
  refine HeadR.no rfl rfl (fun _ _ => rfl) ?_
  refine HeadR.det rfl (fun β hβ => (det_pick rfl rfl)) ?_
  refine HeadR.det rfl (fun β hβ => (det_move rfl)) ?_
  refine HeadR.no rfl rfl (fun _ _ => rfl) ?_
  refine HeadR.no rfl rfl (fun _ _ => rfl) ?_
  refine HeadR.no rfl rfl (fun _ _ => rfl) ?_
  refine HeadR.no rfl rfl (fun _ _ => rfl) ?_
  refine HeadR.un rfl rfl (fun _ _ => rfl) ?_
  refine HeadR.un rfl rfl (fun _ _ => rfl) ?_
  refine HeadR.un rfl rfl (fun _ _ => rfl) ?_
  refine HeadR.un rfl rfl (fun _ _ => rfl) ?_
  refine HeadR.no rfl rfl (fun _ _ => rfl) ?_
  refine HeadR.det rfl (fun β hβ => (det_pick rfl rfl)) ?_
  refine HeadR.det rfl (fun β hβ => (det_assign rfl)) ?_
  refine HeadR.done ⟨by kernel_rfl, fun β hβ => ?_⟩
  refine OpsW.norm (F' := ((23, _) :: (24, _) :: (25, _) :: (26, _) :: (27, _) :: (28, _) :: (29, _) :: (30, _) :: (31, _) :: (32, _) :: (33, _) :: (34, _) :: (35, _) :: (36, _) :: (37, _) :: (38, _) :: (39, _) :: (40, _) :: (41, _) :: (42, _) :: (43, _) :: (44, _) :: (45, _) :: (46, _) :: (47, _) :: (48, _) :: (49, _) :: (50, _) :: (51, _) :: (52, _) :: (53, _) :: (6, _) :: (22, _) :: (7, _) :: (5, _) :: (4, _) :: (3, _) :: [])) (H' := [(_, _), (_, _), (_, _), (_, _)]) rfl rfl ?_
  refine sNext ?_
  refine W.keep (F' := [(6, _)]) ⟨rfl, trivial⟩ ?_
  refine sRet ?_
  exact done1 Tryd.results29 (rv_tmp rfl) rfl
set_option maxHeartbeats 2000000 in
theorem sidesB_ok {p q r : Pt} (h0 : p ≠ (0, 0)) (h1 : q = (0, 0)) (h2 : p = pneg r) {w : World} (hG : Blocks (GH T) w)  : Vm.Pure Tryd.prog 29 #[encP p, encP q, encP r] w (.bool true) := by
  refine pure_of_W (n := 140) (args := [encP p, encP q, encP r]) Tryd.func29 rfl Tryd.ntmps29 (Nat.le_of_ble_eq_true rfl) hG ?_
  refine sStart ?_
  refine sSeq ?_
  refine W.region ?_
  refine OpsW.fresh (fr_box rfl rfl) rfl fun b3 => ?_
  refine OpsW.fresh (fr_box rfl rfl) rfl fun b4 => ?_
  refine OpsW.fresh (fr_box rfl rfl) rfl fun b5 => ?_
  refine OpsW.det (det_assign rfl) rfl ?_
  refine sNext ?_
  refine W.keep (F' := [(5, _), (4, _), (3, _)]) ⟨rfl, rfl, rfl, trivial⟩ ?_
  refine sSeq ?_
  refine W.region ?_
  refine OpsW.det (det_zero bz30) rfl ?_
  refine OpsW.fresh (fr_alloc z30) rfl fun b7 => ?_
  refine OpsW.store sz30 rfl rfl rfl rfl rfl (Upd.here) rfl ?_
  refine sNext ?_
  refine W.keep (F' := [(7, _), (5, _), (4, _), (3, _)]) ⟨rfl, rfl, rfl, rfl, trivial⟩ ?_
  refine sSeq ?_
  refine sSeq ?_
  refine W.region ?_
  refine OpsW.det (det_loadA ty30 rfl (List.Mem.tail _ (List.Mem.tail _ (List.Mem.tail _ (List.Mem.head _)))) rfl) rfl ?_
  refine OpsW.det (det_loadA ty30 rfl (List.Mem.head _) rfl) rfl ?_
  refine OpsW.det (Det.to (det_eql30 rfl rfl) (congrArg Value.bool (nf h0))) rfl ?_
  refine OpsW.det (det_move rfl) rfl ?_
  refine OpsW.guard_yes rfl rfl ?_
  refine OpsW.det (det_loadA ty30 rfl (List.Mem.tail _ (List.Mem.tail _ (List.Mem.head _))) rfl) rfl ?_
  refine OpsW.guard_yes rfl rfl ?_
  refine OpsW.det (det_loadA ty30 rfl (List.Mem.head _) rfl) rfl ?_
  refine OpsW.guard_yes rfl rfl ?_
  refine OpsW.det (Det.to (det_eql30 rfl rfl) (congrArg Value.bool (yb h1))) rfl ?_
  refine OpsW.det (det_pick rfl rfl) rfl ?_
  refine OpsW.det (det_move rfl) rfl ?_
  refine OpsW.guard_no rfl rfl rfl ?_
  refine OpsW.guard_no rfl rfl rfl ?_
  refine OpsW.guard_no rfl rfl rfl ?_
  refine OpsW.det (det_pick rfl rfl) rfl ?_
  refine sNext ?_
  refine W.keep (F' := [(22, _), (7, _), (5, _), (4, _), (3, _)]) ⟨rfl, rfl, rfl, rfl, rfl, trivial⟩ ?_
  refine W.cond_true rfl ?_
  refine sSeq ?_
  refine W.draw mixed 32 [[], [], [0, 1], [0, 1, 2], [0, 1, 2, 3], [0, 1, 2, 3], [0, 1, 2, 3, 5], [0, 1, 2, 3, 4, 5, 6], [0, 1, 2, 3, 4, 5, 6, 7], [0, 1, 2, 3, 4, 5, 6, 7, 8], [0, 1, 2, 3, 4, 5, 6, 7, 8, 9], [0, 1, 2, 3, 4, 5, 6, 7, 8, 9], [0, 1, 2, 3, 4, 5, 6, 7, 8, 9, 10, 11], [0, 1, 2, 3, 4, 5, 6, 7, 8, 9, 10, 11, 12], [0, 1, 2, 3, 4, 5, 6, 7, 8, 9, 10, 11, 12, 13], [0, 1, 2, 3, 4, 5, 6, 7, 8, 9, 10, 11, 12, 13], [0, 1, 2, 3, 4, 5, 6, 7, 8, 9, 10, 11, 12, 13, 15], [0, 1, 2, 3, 4, 5, 6, 7, 8, 9, 10, 11, 12, 13, 14, 15, 16], [0, 1, 2, 3, 4, 5, 6, 7, 8, 9, 10, 11, 12, 13, 14, 15, 16, 17], [0, 1, 2, 3, 4, 5, 6, 7, 8, 9, 10, 11, 12, 13, 14, 15, 16, 17, 18], [0, 1, 2, 3, 4, 5, 6, 7, 8, 9, 10, 11, 12, 13, 14, 15, 16, 17, 18, 19], [0, 1, 2, 3, 4, 5, 6, 7, 8, 9, 10, 11, 12, 13, 14, 15, 16, 17, 18, 19, 20], [0, 1, 2, 3, 4, 5, 6, 7, 8, 9, 10, 11, 12, 13, 14, 15, 16, 17, 18, 19, 20], [0, 1, 2, 3, 4, 5, 6, 7, 8, 9, 10, 11, 12, 13, 14, 15, 16, 17, 18, 19, 20, 21, 22], [0, 1, 2, 3, 4, 5, 6, 7, 8, 9, 10, 11, 12, 13, 14, 15, 16, 17, 18, 19, 20, 21, 22, 23], [0, 1, 2, 3, 4, 5, 6, 7, 8, 9, 10, 11, 12, 13, 14, 15, 16, 17, 18, 19, 20, 21, 22, 23, 24], [0, 1, 2, 3, 4, 5, 6, 7, 8, 9, 10, 11, 12, 13, 14, 15, 16, 17, 18, 19, 20, 21, 22, 23, 24], [0, 1, 2, 3, 4, 5, 6, 7, 8, 9, 10, 11, 12, 13, 14, 15, 16, 17, 18, 19, 20, 21, 22, 23, 24, 26], [0, 1, 2, 3, 4, 5, 6, 7, 8, 9, 10, 11, 12, 13, 14, 15, 16, 17, 18, 19, 20, 21, 22, 23, 24, 25, 26, 27], [0, 1, 2, 3, 4, 5, 6, 7, 8, 9, 10, 11, 12, 13, 14, 15, 16, 17, 18, 19, 20, 21, 22, 23, 24, 25, 26, 27, 28], [0, 1, 2, 3, 4, 5, 6, 7, 8, 9, 10, 11, 12, 13, 14, 15, 16, 17, 18, 19, 20, 21, 22, 23, 24, 25, 26, 27, 28, 29], [0, 1, 2, 3, 4, 5, 6, 7, 8, 9, 10, 11, 12, 13, 14, 15, 16, 17, 18, 19, 20, 21, 22, 23, 24, 25, 26, 27, 28, 29, 30]] (cl_lt (by decide)) ?_
  refine HeadR.start (cl_lt (by decide)) ?_
  refine HeadR.det rfl (fun β hβ => (det_loadA ty30 rfl (List.Mem.tail _ (List.Mem.tail _ (List.Mem.tail _ (List.Mem.head _)))) rfl)) ?_
  refine HeadR.det rfl (fun β hβ => (det_loadA ty30 rfl (List.Mem.head _) rfl)) ?_
  refine HeadR.det rfl (fun β hβ => (Det.to (det_eql30 rfl rfl) (congrArg Value.bool (nf h0)))) ?_
  refine HeadR.det rfl (fun β hβ => (det_move rfl)) ?_
  refine HeadR.no rfl rfl (fun _ _ => rfl) ?_
  refine HeadR.no rfl rfl (fun _ _ => rfl) ?_
  refine HeadR.no rfl rfl (fun _ _ => rfl) ?_
  refine HeadR.no rfl rfl (fun _ _ => rfl) ?_
  refine HeadR.det rfl (fun β hβ => (det_pick rfl rfl)) ?_
  refine HeadR.det rfl (fun β hβ => (det_move rfl)) ?_
  refine HeadR.yes rfl rfl (fun _ _ => rfl) (fun β hβ => (det_loadA ty30 rfl (List.Mem.tail _ (List.Mem.tail _ (List.Mem.head _))) rfl)) ?_
  refine HeadR.yes rfl rfl (fun _ _ => rfl) (fun β hβ => (det_loadA ty30 rfl (List.Mem.head _) rfl)) ?_
  refine HeadR.yes rfl rfl (fun _ _ => rfl) (fun β hβ => (Det.to (det_eql30 rfl rfl) (congrArg Value.bool (yb h1)))) ?_
  refine HeadR.yes rfl rfl (fun _ _ => rfl) (fun β hβ => (det_move rfl)) ?_
  refine HeadR.yes rfl rfl (fun _ _ => rfl) (fun β hβ => (det_loadA ty30 rfl (List.Mem.tail _ (List.Mem.tail _ (List.Mem.tail _ (List.Mem.head _)))) rfl)) ?_
  refine HeadR.yes rfl rfl (fun _ _ => rfl) (fun β hβ => (det_loadA ty30 rfl (List.Mem.tail _ (List.Mem.head _)) rfl)) ?_
  refine HeadR.yes rfl rfl (fun _ _ => rfl) (fun β hβ => (det_call en22 rfl (fun w hb ho => PNeg_ok ho.blocks))) ?_
  refine HeadR.yes rfl rfl (fun _ _ => rfl) (fun β hβ => (Det.to (det_eql30 rfl rfl) (congrArg Value.bool (yb h2)))) ?_
  refine HeadR.yes rfl rfl (fun _ _ => rfl) (fun β hβ => (det_pick rfl rfl)) ?_
  refine HeadR.det rfl (fun β hβ => (det_pick rfl rfl)) ?_
  refine HeadR.det rfl (fun β hβ => (det_move rfl)) ?_
  refine HeadR.no rfl rfl (fun _ _ => rfl) ?_
  refine HeadR.no rfl rfl (fun _ _ => rfl) ?_
  refine HeadR.no rfl rfl (fun _ _ => rfl) ?_
  refine HeadR.no rfl rfl (fun _ _ => rfl) ?_
  refine HeadR.un rfl rfl (fun _ _ => rfl) ?_
  refine HeadR.un rfl rfl (fun _ _ => rfl) ?_
  refine HeadR.un rfl rfl (fun _ _ => rfl) ?_
  refine HeadR.un rfl rfl (fun _ _ => rfl) ?_
  refine HeadR.no rfl rfl (fun _ _ => rfl) ?_
  refine HeadR.det rfl (fun β hβ => (det_pick rfl rfl)) ?_
  refine HeadR.det rfl (fun β hβ => (det_assign rfl)) ?_
  refine HeadR.done ⟨by kernel_rfl, fun β hβ => ?_⟩
  refine OpsW.norm (F' := ((23, _) :: (24, _) :: (25, _) :: (26, _) :: (27, _) :: (28, _) :: (29, _) :: (30, _) :: (31, _) :: (32, _) :: (33, _) :: (34, _) :: (35, _) :: (36, _) :: (37, _) :: (38, _) :: (39, _) :: (40, _) :: (41, _) :: (42, _) :: (43, _) :: (44, _) :: (45, _) :: (46, _) :: (47, _) :: (48, _) :: (49, _) :: (50, _) :: (51, _) :: (52, _) :: (53, _) :: (6, _) :: (22, _) :: (7, _) :: (5, _) :: (4, _) :: (3, _) :: [])) (H' := [(_, _), (_, _), (_, _), (_, _)]) rfl rfl ?_
  refine sNext ?_
  refine W.keep (F' := [(6, _)]) ⟨rfl, trivial⟩ ?_
  refine sRet ?_
  exact done1 Tryd.results29 (rv_tmp rfl) rfl
set_option maxHeartbeats 2000000 in
theorem sidesC_ok {p q r : Pt} (h0 : p ≠ (0, 0)) (h0' : q ≠ (0, 0)) (h1 : r = (0, 0)) (h2 : p = pneg q) {w : World} (hG : Blocks (GH T) w)  : Vm.Pure Tryd.prog 29 #[encP p, encP q, encP r] w (.bool true) := by
  refine pure_of_W (n := 140) (args := [encP p, encP q, encP r]) Tryd.func29 rfl Tryd.ntmps29 (Nat.le_of_ble_eq_true rfl) hG ?_
  refine sStart ?_
  refine sSeq ?_
  refine W.region ?_
  refine OpsW.fresh (fr_box rfl rfl) rfl fun b3 => ?_
  refine OpsW.fresh (fr_box rfl rfl) rfl fun b4 => ?_
  refine OpsW.fresh (fr_box rfl rfl) rfl fun b5 => ?_
  refine OpsW.det (det_assign rfl) rfl ?_
  refine sNext ?_
  refine W.keep (F' := [(5, _), (4, _), (3, _)]) ⟨rfl, rfl, rfl, trivial⟩ ?_
  refine sSeq ?_
  refine W.region ?_
  refine OpsW.det (det_zero bz30) rfl ?_
  refine OpsW.fresh (fr_alloc z30) rfl fun b7 => ?_
  refine OpsW.store sz30 rfl rfl rfl rfl rfl (Upd.here) rfl ?_
  refine sNext ?_
  refine W.keep (F' := [(7, _), (5, _), (4, _), (3, _)]) ⟨rfl, rfl, rfl, rfl, trivial⟩ ?_
  refine sSeq ?_
  refine sSeq ?_
  refine W.region ?_
  refine OpsW.det (det_loadA ty30 rfl (List.Mem.tail _ (List.Mem.tail _ (List.Mem.tail _ (List.Mem.head _)))) rfl) rfl ?_
  refine OpsW.det (det_loadA ty30 rfl (List.Mem.head _) rfl) rfl ?_
  refine OpsW.det (Det.to (det_eql30 rfl rfl) (congrArg Value.bool (nf h0))) rfl ?_
  refine OpsW.det (det_move rfl) rfl ?_
  refine OpsW.guard_yes rfl rfl ?_
  refine OpsW.det (det_loadA ty30 rfl (List.Mem.tail _ (List.Mem.tail _ (List.Mem.head _))) rfl) rfl ?_
  refine OpsW.guard_yes rfl rfl ?_
  refine OpsW.det (det_loadA ty30 rfl (List.Mem.head _) rfl) rfl ?_
  refine OpsW.guard_yes rfl rfl ?_
  refine OpsW.det (Det.to (det_eql30 rfl rfl) (congrArg Value.bool (nf h0'))) rfl ?_
  refine OpsW.det (det_pick rfl rfl) rfl ?_
  refine OpsW.det (det_move rfl) rfl ?_
  refine OpsW.guard_yes rfl rfl ?_
  refine OpsW.det (det_loadA ty30 rfl (List.Mem.tail _ (List.Mem.head _)) rfl) rfl ?_
  refine OpsW.guard_yes rfl rfl ?_
  refine OpsW.det (det_loadA ty30 rfl (List.Mem.head _) rfl) rfl ?_
  refine OpsW.guard_yes rfl rfl ?_
  refine OpsW.det (Det.to (det_eql30 rfl rfl) (congrArg Value.bool (yb h1))) rfl ?_
  refine OpsW.det (det_pick rfl rfl) rfl ?_
  refine sNext ?_
  refine W.keep (F' := [(22, _), (7, _), (5, _), (4, _), (3, _)]) ⟨rfl, rfl, rfl, rfl, rfl, trivial⟩ ?_
  refine W.cond_true rfl ?_
  refine sSeq ?_
  refine W.draw mixed 32 [[], [], [0, 1], [0, 1, 2], [0, 1, 2, 3], [0, 1, 2, 3], [0, 1, 2, 3, 5], [0, 1, 2, 3, 4, 5, 6], [0, 1, 2, 3, 4, 5, 6, 7], [0, 1, 2, 3, 4, 5, 6, 7, 8], [0, 1, 2, 3, 4, 5, 6, 7, 8, 9], [0, 1, 2, 3, 4, 5, 6, 7, 8, 9], [0, 1, 2, 3, 4, 5, 6, 7, 8, 9, 10, 11], [0, 1, 2, 3, 4, 5, 6, 7, 8, 9, 10, 11, 12], [0, 1, 2, 3, 4, 5, 6, 7, 8, 9, 10, 11, 12, 13], [0, 1, 2, 3, 4, 5, 6, 7, 8, 9, 10, 11, 12, 13], [0, 1, 2, 3, 4, 5, 6, 7, 8, 9, 10, 11, 12, 13, 15], [0, 1, 2, 3, 4, 5, 6, 7, 8, 9, 10, 11, 12, 13, 14, 15, 16], [0, 1, 2, 3, 4, 5, 6, 7, 8, 9, 10, 11, 12, 13, 14, 15, 16, 17], [0, 1, 2, 3, 4, 5, 6, 7, 8, 9, 10, 11, 12, 13, 14, 15, 16, 17, 18], [0, 1, 2, 3, 4, 5, 6, 7, 8, 9, 10, 11, 12, 13, 14, 15, 16, 17, 18, 19], [0, 1, 2, 3, 4, 5, 6, 7, 8, 9, 10, 11, 12, 13, 14, 15, 16, 17, 18, 19, 20], [0, 1, 2, 3, 4, 5, 6, 7, 8, 9, 10, 11, 12, 13, 14, 15, 16, 17, 18, 19, 20], [0, 1, 2, 3, 4, 5, 6, 7, 8, 9, 10, 11, 12, 13, 14, 15, 16, 17, 18, 19, 20, 21, 22], [0, 1, 2, 3, 4, 5, 6, 7, 8, 9, 10, 11, 12, 13, 14, 15, 16, 17, 18, 19, 20, 21, 22, 23], [0, 1, 2, 3, 4, 5, 6, 7, 8, 9, 10, 11, 12, 13, 14, 15, 16, 17, 18, 19, 20, 21, 22, 23, 24], [0, 1, 2, 3, 4, 5, 6, 7, 8, 9, 10, 11, 12, 13, 14, 15, 16, 17, 18, 19, 20, 21, 22, 23, 24], [0, 1, 2, 3, 4, 5, 6, 7, 8, 9, 10, 11, 12, 13, 14, 15, 16, 17, 18, 19, 20, 21, 22, 23, 24, 26], [0, 1, 2, 3, 4, 5, 6, 7, 8, 9, 10, 11, 12, 13, 14, 15, 16, 17, 18, 19, 20, 21, 22, 23, 24, 25, 26, 27], [0, 1, 2, 3, 4, 5, 6, 7, 8, 9, 10, 11, 12, 13, 14, 15, 16, 17, 18, 19, 20, 21, 22, 23, 24, 25, 26, 27, 28], [0, 1, 2, 3, 4, 5, 6, 7, 8, 9, 10, 11, 12, 13, 14, 15, 16, 17, 18, 19, 20, 21, 22, 23, 24, 25, 26, 27, 28, 29], [0, 1, 2, 3, 4, 5, 6, 7, 8, 9, 10, 11, 12, 13, 14, 15, 16, 17, 18, 19, 20, 21, 22, 23, 24, 25, 26, 27, 28, 29, 30]] (cl_lt (by decide)) ?_
  refine HeadR.start (cl_lt (by decide)) ?_
  refine HeadR.det rfl (fun β hβ => (det_loadA ty30 rfl (List.Mem.tail _ (List.Mem.tail _ (List.Mem.tail _ (List.Mem.head _)))) rfl)) ?_
  refine HeadR.det rfl (fun β hβ => (det_loadA ty30 rfl (List.Mem.head _) rfl)) ?_
  refine HeadR.det rfl (fun β hβ => (Det.to (det_eql30 rfl rfl) (congrArg Value.bool (nf h0)))) ?_
  refine HeadR.det rfl (fun β hβ => (det_move rfl)) ?_
  refine HeadR.no rfl rfl (fun _ _ => rfl) ?_
  refine HeadR.no rfl rfl (fun _ _ => rfl) ?_
  refine HeadR.no rfl rfl (fun _ _ => rfl) ?_
  refine HeadR.no rfl rfl (fun _ _ => rfl) ?_
  refine HeadR.det rfl (fun β hβ => (det_pick rfl rfl)) ?_
  refine HeadR.det rfl (fun β hβ => (det_move rfl)) ?_
  refine HeadR.yes rfl rfl (fun _ _ => rfl) (fun β hβ => (det_loadA ty30 rfl (List.Mem.tail _ (List.Mem.tail _ (List.Mem.head _))) rfl)) ?_
  refine HeadR.yes rfl rfl (fun _ _ => rfl) (fun β hβ => (det_loadA ty30 rfl (List.Mem.head _) rfl)) ?_
  refine HeadR.yes rfl rfl (fun _ _ => rfl) (fun β hβ => (Det.to (det_eql30 rfl rfl) (congrArg Value.bool (nf h0')))) ?_
  refine HeadR.yes rfl rfl (fun _ _ => rfl) (fun β hβ => (det_move rfl)) ?_
  refine HeadR.no rfl rfl (fun _ _ => rfl) ?_
  refine HeadR.no rfl rfl (fun _ _ => rfl) ?_
  refine HeadR.no rfl rfl (fun _ _ => rfl) ?_
  refine HeadR.no rfl rfl (fun _ _ => rfl) ?_
  refine HeadR.yes rfl rfl (fun _ _ => rfl) (fun β hβ => (det_pick rfl rfl)) ?_
  refine HeadR.det rfl (fun β hβ => (det_pick rfl rfl)) ?_
  refine HeadR.det rfl (fun β hβ => (det_move rfl)) ?_
  refine HeadR.yes rfl rfl (fun _ _ => rfl) (fun β hβ => (det_loadA ty30 rfl (List.Mem.tail _ (List.Mem.head _)) rfl)) ?_
  refine HeadR.yes rfl rfl (fun _ _ => rfl) (fun β hβ => (det_loadA ty30 rfl (List.Mem.head _) rfl)) ?_
  refine HeadR.yes rfl rfl (fun _ _ => rfl) (fun β hβ => (Det.to (det_eql30 rfl rfl) (congrArg Value.bool (yb h1)))) ?_
  refine HeadR.yes rfl rfl (fun _ _ => rfl) (fun β hβ => (det_move rfl)) ?_
  refine HeadR.yes rfl rfl (fun _ _ => rfl) (fun β hβ => (det_loadA ty30 rfl (List.Mem.tail _ (List.Mem.tail _ (List.Mem.tail _ (List.Mem.head _)))) rfl)) ?_
  refine HeadR.yes rfl rfl (fun _ _ => rfl) (fun β hβ => (det_loadA ty30 rfl (List.Mem.tail _ (List.Mem.tail _ (List.Mem.head _))) rfl)) ?_
  refine HeadR.yes rfl rfl (fun _ _ => rfl) (fun β hβ => (det_call en22 rfl (fun w hb ho => PNeg_ok ho.blocks))) ?_
  refine HeadR.yes rfl rfl (fun _ _ => rfl) (fun β hβ => (Det.to (det_eql30 rfl rfl) (congrArg Value.bool (yb h2)))) ?_
  refine HeadR.yes rfl rfl (fun _ _ => rfl) (fun β hβ => (det_pick rfl rfl)) ?_
  refine HeadR.det rfl (fun β hβ => (det_pick rfl rfl)) ?_
  refine HeadR.det rfl (fun β hβ => (det_assign rfl)) ?_
  refine HeadR.done ⟨by kernel_rfl, fun β hβ => ?_⟩
  refine OpsW.norm (F' := ((23, _) :: (24, _) :: (25, _) :: (26, _) :: (27, _) :: (28, _) :: (29, _) :: (30, _) :: (31, _) :: (32, _) :: (33, _) :: (34, _) :: (35, _) :: (36, _) :: (37, _) :: (38, _) :: (39, _) :: (40, _) :: (41, _) :: (42, _) :: (43, _) :: (44, _) :: (45, _) :: (46, _) :: (47, _) :: (48, _) :: (49, _) :: (50, _) :: (51, _) :: (52, _) :: (53, _) :: (6, _) :: (22, _) :: (7, _) :: (5, _) :: (4, _) :: (3, _) :: [])) (H' := [(_, _), (_, _), (_, _), (_, _)]) rfl rfl ?_
  refine sNext ?_
  refine W.keep (F' := [(6, _)]) ⟨rfl, trivial⟩ ?_
  refine sRet ?_
  exact done1 Tryd.results29 (rv_tmp rfl) rfl
set_option maxHeartbeats 2000000 in
theorem sidesD_ok {p q r : Pt} (h0 : p ≠ (0, 0)) (h0' : q ≠ (0, 0)) (h0'' : r ≠ (0, 0)) (h1 : p = q) (h2 : r.1 ≠ p.1) (h3 : (p.2 + p.2) * (r.2 - p.2) = (p.1 * p.1 + p.1 * p.1 + p.1 * p.1) * (r.1 - p.1)) {w : World} (hG : Blocks (GH T) w)  : Vm.Pure Tryd.prog 29 #[encP p, encP q, encP r] w (.bool true) := by
  refine pure_of_W (n := 140) (args := [encP p, encP q, encP r]) Tryd.func29 rfl Tryd.ntmps29 (Nat.le_of_ble_eq_true rfl) hG ?_
  refine sStart ?_
  refine sSeq ?_
  refine W.region ?_
  refine OpsW.fresh (fr_box rfl rfl) rfl fun b3 => ?_
  refine OpsW.fresh (fr_box rfl rfl) rfl fun b4 => ?_
  refine OpsW.fresh (fr_box rfl rfl) rfl fun b5 => ?_
  refine OpsW.det (det_assign rfl) rfl ?_
  refine sNext ?_
  refine W.keep (F' := [(5, _), (4, _), (3, _)]) ⟨rfl, rfl, rfl, trivial⟩ ?_
  refine sSeq ?_
  refine W.region ?_
  refine OpsW.det (det_zero bz30) rfl ?_
  refine OpsW.fresh (fr_alloc z30) rfl fun b7 => ?_
  refine OpsW.store sz30 rfl rfl rfl rfl rfl (Upd.here) rfl ?_
  refine sNext ?_
  refine W.keep (F' := [(7, _), (5, _), (4, _), (3, _)]) ⟨rfl, rfl, rfl, rfl, trivial⟩ ?_
  refine sSeq ?_
  refine sSeq ?_
  refine W.region ?_
  refine OpsW.det (det_loadA ty30 rfl (List.Mem.tail _ (List.Mem.tail _ (List.Mem.tail _ (List.Mem.head _)))) rfl) rfl ?_
  refine OpsW.det (det_loadA ty30 rfl (List.Mem.head _) rfl) rfl ?_
  refine OpsW.det (Det.to (det_eql30 rfl rfl) (congrArg Value.bool (nf h0))) rfl ?_
  refine OpsW.det (det_move rfl) rfl ?_
  refine OpsW.guard_yes rfl rfl ?_
  refine OpsW.det (det_loadA ty30 rfl (List.Mem.tail _ (List.Mem.tail _ (List.Mem.head _))) rfl) rfl ?_
  refine OpsW.guard_yes rfl rfl ?_
  refine OpsW.det (det_loadA ty30 rfl (List.Mem.head _) rfl) rfl ?_
  refine OpsW.guard_yes rfl rfl ?_
  refine OpsW.det (Det.to (det_eql30 rfl rfl) (congrArg Value.bool (nf h0'))) rfl ?_
  refine OpsW.det (det_pick rfl rfl) rfl ?_
  refine OpsW.det (det_move rfl) rfl ?_
  refine OpsW.guard_yes rfl rfl ?_
  refine OpsW.det (det_loadA ty30 rfl (List.Mem.tail _ (List.Mem.head _)) rfl) rfl ?_
  refine OpsW.guard_yes rfl rfl ?_
  refine OpsW.det (det_loadA ty30 rfl (List.Mem.head _) rfl) rfl ?_
  refine OpsW.guard_yes rfl rfl ?_
  refine OpsW.det (Det.to (det_eql30 rfl rfl) (congrArg Value.bool (nf h0''))) rfl ?_
  refine OpsW.det (det_pick rfl rfl) rfl ?_
  refine sNext ?_
  refine W.keep (F' := [(22, _), (7, _), (5, _), (4, _), (3, _)]) ⟨rfl, rfl, rfl, rfl, rfl, trivial⟩ ?_
  refine W.cond_false rfl ?_
  refine sSkip ?_
  refine sSeq ?_
  refine sSeq ?_
  refine W.region ?_
  refine OpsW.det (det_loadA ty30 rfl (List.Mem.tail _ (List.Mem.tail _ (List.Mem.tail _ (List.Mem.head _)))) rfl) rfl ?_
  refine OpsW.det (det_loadA ty30 rfl (List.Mem.tail _ (List.Mem.tail _ (List.Mem.head _))) rfl) rfl ?_
  refine OpsW.det (Det.to (det_eql30 rfl rfl) (congrArg Value.bool (yb h1))) rfl ?_
  refine sNext ?_
  refine W.keep (F' := [(56, _), (5, _), (4, _), (3, _)]) ⟨rfl, rfl, rfl, rfl, trivial⟩ ?_
  refine W.cond_true rfl ?_
  refine sSeq ?_
  refine W.region ?_
  refine OpsW.det (det_fieldAddr fl30_0 rfl) rfl ?_
  refine OpsW.det (det_loadA ty28 rfl (List.Mem.tail _ (List.Mem.tail _ (List.Mem.tail _ (List.Mem.head _)))) rfl) rfl ?_
  refine OpsW.det (det_call en56 rfl (fun w hb ho => Cu.Square_ok ho.blocks)) rfl ?_
  refine OpsW.fresh (fr_alloc z28) rfl fun b8 => ?_
  refine OpsW.store sz28 rfl rfl rfl rfl rfl (Upd.here) rfl ?_
  refine sNext ?_
  refine W.keep (F' := [(8, _), (5, _), (3, _)]) ⟨rfl, rfl, rfl, trivial⟩ ?_
  refine sSeq ?_
  refine W.draw mixed 47 [[], [0], [], [2], [0, 1, 2, 3], [0, 1, 2, 3, 4], [0, 1, 2, 3, 4, 5], [0, 1, 2, 3, 4, 5, 6], [0, 1, 2, 3, 4, 5], [0, 1, 2, 3, 4, 5, 8], [0, 1, 2, 3, 4, 5, 6, 7, 8, 9], [0, 1, 2, 3, 4, 5], [0, 1, 2, 3, 4, 5, 11], [0, 1, 2, 3, 4, 5], [0, 1, 2, 3, 4, 5, 13], [0, 1, 2, 3, 4, 5, 6, 7, 8, 9, 10, 11, 12, 13, 14], [0, 1, 2, 3, 4, 5, 6, 7, 8, 9, 10, 11, 12, 13, 14, 15], [0, 1, 2, 3, 4, 5], [0, 1, 2, 3, 4, 5], [0, 1, 2, 3, 4, 5, 6, 7, 8, 9, 10, 11, 12, 13, 14, 15, 16, 17, 18], [0, 1, 2, 3, 4, 5], [0, 1, 2, 3, 4, 5, 6, 7, 8, 9, 10, 11, 12, 13, 14, 15, 16, 17, 18, 19, 20], [0, 1, 2, 3, 4, 5], [0, 1, 2, 3, 4, 5, 22], [0, 1, 2, 3, 4, 5], [0, 1, 2, 3, 4, 5, 24], [0, 1, 2, 3, 4, 5, 6, 7, 8, 9, 10, 11, 12, 13, 14, 15, 16, 17, 18, 19, 20, 21, 22, 23, 24, 25], [0, 1, 2, 3, 4, 5, 6, 7, 8, 9, 10, 11, 12, 13, 14, 15, 16, 17, 18, 19, 20, 21, 22, 23, 24, 25, 26], [0, 1, 2, 3, 4, 5, 6, 7, 8, 9, 10, 11, 12, 13, 14, 15, 16, 17, 18, 19, 20, 21, 22, 23, 24, 25, 26, 27], [0, 1, 2, 3, 4, 5, 6, 7, 8, 9, 10, 11, 12, 13, 14, 15, 16, 17, 18, 19, 20, 21, 22, 23, 24, 25, 26, 27, 28], [0, 1, 2, 3, 4, 5, 6, 7, 8, 9, 10, 11, 12, 13, 14, 15, 16, 17, 18, 19, 20, 21, 22, 23, 24, 25, 26, 27, 28, 29], [0, 1, 2, 3, 4, 5, 6, 7, 8, 9, 10, 11, 12, 13, 14, 15, 16, 17, 18, 19, 20, 21, 22, 23, 24, 25, 26, 27, 28, 29, 30], [0, 1, 2, 3, 4, 5, 6, 7, 8, 9, 10, 11, 12, 13, 14, 15, 16, 17, 18, 19, 20, 21, 22, 23, 24, 25, 26, 27, 28, 29, 30, 31], [0, 1, 2, 3, 4, 5, 6, 7, 8, 9, 10, 11, 12, 13, 14, 15, 16, 17, 18, 19, 20, 21, 22, 23, 24, 25, 26, 27, 28, 29, 30], [0, 1, 2, 3, 4, 5, 6, 7, 8, 9, 10, 11, 12, 13, 14, 15, 16, 17, 18, 19, 20, 21, 22, 23, 24, 25, 26, 27, 28, 29, 30, 33], [0, 1, 2, 3, 4, 5, 6, 7, 8, 9, 10, 11, 12, 13, 14, 15, 16, 17, 18, 19, 20, 21, 22, 23, 24, 25, 26, 27, 28, 29, 30, 31, 32, 33, 34], [0, 1, 2, 3, 4, 5, 6, 7, 8, 9, 10, 11, 12, 13, 14, 15, 16, 17, 18, 19, 20, 21, 22, 23, 24, 25, 26, 27, 28, 29, 30, 31, 32, 33, 34, 35], [0, 1, 2, 3, 4, 5, 6, 7, 8, 9, 10, 11, 12, 13, 14, 15, 16, 17, 18, 19, 20, 21, 22, 23, 24, 25, 26, 27, 28, 29, 30, 31, 32, 33, 34, 35, 36], [0, 1, 2, 3, 4, 5, 6, 7, 8, 9, 10, 11, 12, 13, 14, 15, 16, 17, 18, 19, 20, 21, 22, 23, 24, 25, 26, 27, 28, 29, 30, 31, 32, 33, 34, 35, 36], [0, 1, 2, 3, 4, 5, 6, 7, 8, 9, 10, 11, 12, 13, 14, 15, 16, 17, 18, 19, 20, 21, 22, 23, 24, 25, 26, 27, 28, 29, 30, 31, 32, 33, 34, 35, 36, 37, 38], [0, 1, 2, 3, 4, 5, 6, 7, 8, 9, 10, 11, 12, 13, 14, 15, 16, 17, 18, 19, 20, 21, 22, 23, 24, 25, 26, 27, 28, 29, 30, 31, 32, 33, 34, 35, 36, 37, 38, 39], [0, 1, 2, 3, 4, 5, 6, 7, 8, 9, 10, 11, 12, 13, 14, 15, 16, 17, 18, 19, 20, 21, 22, 23, 24, 25, 26, 27, 28, 29, 30, 31, 32, 33, 34, 35, 36, 37, 38, 39, 40], [0, 1, 2, 3, 4, 5, 6, 7, 8, 9, 10, 11, 12, 13, 14, 15, 16, 17, 18, 19, 20, 21, 22, 23, 24, 25, 26, 27, 28, 29, 30, 31, 32, 33, 34, 35, 36, 37, 38, 39, 40, 41], [0, 1, 2, 3, 4, 5, 6, 7, 8, 9, 10, 11, 12, 13, 14, 15, 16, 17, 18, 19, 20, 21, 22, 23, 24, 25, 26, 27, 28, 29, 30, 31, 32, 33, 34, 35, 36, 37, 38, 39, 40, 41, 42], [0, 1, 2, 3, 4, 5, 6, 7, 8, 9, 10, 11, 12, 13, 14, 15, 16, 17, 18, 19, 20, 21, 22, 23, 24, 25, 26, 27, 28, 29, 30, 31, 32, 33, 34, 35, 36, 37, 38, 39, 40, 41, 42, 43], [0, 1, 2, 3, 4, 5, 6, 7, 8, 9, 10, 11, 12, 13, 14, 15, 16, 17, 18, 19, 20, 21, 22, 23, 24, 25, 26, 27, 28, 29, 30, 31, 32, 33, 34, 35, 36, 37, 38, 39, 40, 41, 42, 43, 44], [0, 1, 2, 3, 4, 5, 6, 7, 8, 9, 10, 11, 12, 13, 14, 15, 16, 17, 18, 19, 20, 21, 22, 23, 24, 25, 26, 27, 28, 29, 30, 31, 32, 33, 34, 35, 36, 37, 38, 39, 40, 41, 42, 43, 44, 45]] (cl_lt (by decide)) ?_
  refine HeadR.start (cl_lt (by decide)) ?_
  refine HeadR.det rfl (fun β hβ => (det_fieldAddr fl30_0 rfl)) ?_
  refine HeadR.det rfl (fun β hβ => (det_loadA ty28 rfl (List.Mem.tail _ (List.Mem.tail _ (List.Mem.head _))) rfl)) ?_
  refine HeadR.det rfl (fun β hβ => (det_fieldAddr fl30_0 rfl)) ?_
  refine HeadR.det rfl (fun β hβ => (det_loadA ty28 rfl (List.Mem.tail _ (List.Mem.tail _ (List.Mem.tail _ (List.Mem.tail _ (List.Mem.head _))))) rfl)) ?_
  refine HeadR.det rfl (fun β hβ => (Det.to (det_neq28 rfl rfl) (congrArg Value.bool (ny h2)))) ?_
  refine HeadR.det rfl (fun β hβ => (det_move rfl)) ?_
  refine HeadR.yes rfl rfl (fun _ _ => rfl) (fun β hβ => (det_fieldAddr fl30_1 rfl)) ?_
  refine HeadR.yes rfl rfl (fun _ _ => rfl) (fun β hβ => (det_loadA ty28 rfl (List.Mem.tail _ (List.Mem.tail _ (List.Mem.tail _ (List.Mem.tail _ (List.Mem.head _))))) rfl)) ?_
  refine HeadR.yes rfl rfl (fun _ _ => rfl) (fun β hβ => (det_fieldAddr fl30_1 rfl)) ?_
  refine HeadR.yes rfl rfl (fun _ _ => rfl) (fun β hβ => (det_loadA ty28 rfl (List.Mem.tail _ (List.Mem.tail _ (List.Mem.tail _ (List.Mem.tail _ (List.Mem.head _))))) rfl)) ?_
  refine HeadR.yes rfl rfl (fun _ _ => rfl) (fun β hβ => (det_call en33 rfl (fun w hb ho => Cu.Add_ok ho.blocks))) ?_
  refine HeadR.yes rfl rfl (fun _ _ => rfl) (fun β hβ => (det_fieldAddr fl30_1 rfl)) ?_
  refine HeadR.yes rfl rfl (fun _ _ => rfl) (fun β hβ => (det_loadA ty28 rfl (List.Mem.tail _ (List.Mem.tail _ (List.Mem.head _))) rfl)) ?_
  refine HeadR.yes rfl rfl (fun _ _ => rfl) (fun β hβ => (det_fieldAddr fl30_1 rfl)) ?_
  refine HeadR.yes rfl rfl (fun _ _ => rfl) (fun β hβ => (det_loadA ty28 rfl (List.Mem.tail _ (List.Mem.tail _ (List.Mem.tail _ (List.Mem.tail _ (List.Mem.head _))))) rfl)) ?_
  refine HeadR.yes rfl rfl (fun _ _ => rfl) (fun β hβ => (det_call en67 rfl (fun w hb ho => Cu.Sub_ok ho.blocks))) ?_
  refine HeadR.yes rfl rfl (fun _ _ => rfl) (fun β hβ => (det_call en57 rfl (fun w hb ho => Cu.Mul_ok ho.blocks))) ?_
  refine HeadR.yes rfl rfl (fun _ _ => rfl) (fun β hβ => (det_loadA ty28 rfl (List.Mem.head _) rfl)) ?_
  refine HeadR.yes rfl rfl (fun _ _ => rfl) (fun β hβ => (det_loadA ty28 rfl (List.Mem.head _) rfl)) ?_
  refine HeadR.yes rfl rfl (fun _ _ => rfl) (fun β hβ => (det_call en33 rfl (fun w hb ho => Cu.Add_ok ho.blocks))) ?_
  refine HeadR.yes rfl rfl (fun _ _ => rfl) (fun β hβ => (det_loadA ty28 rfl (List.Mem.head _) rfl)) ?_
  refine HeadR.yes rfl rfl (fun _ _ => rfl) (fun β hβ => (det_call en33 rfl (fun w hb ho => Cu.Add_ok ho.blocks))) ?_
  refine HeadR.yes rfl rfl (fun _ _ => rfl) (fun β hβ => (det_fieldAddr fl30_0 rfl)) ?_
  refine HeadR.yes rfl rfl (fun _ _ => rfl) (fun β hβ => (det_loadA ty28 rfl (List.Mem.tail _ (List.Mem.tail _ (List.Mem.head _))) rfl)) ?_
  refine HeadR.yes rfl rfl (fun _ _ => rfl) (fun β hβ => (det_fieldAddr fl30_0 rfl)) ?_
  refine HeadR.yes rfl rfl (fun _ _ => rfl) (fun β hβ => (det_loadA ty28 rfl (List.Mem.tail _ (List.Mem.tail _ (List.Mem.tail _ (List.Mem.tail _ (List.Mem.head _))))) rfl)) ?_
  refine HeadR.yes rfl rfl (fun _ _ => rfl) (fun β hβ => (det_call en67 rfl (fun w hb ho => Cu.Sub_ok ho.blocks))) ?_
  refine HeadR.yes rfl rfl (fun _ _ => rfl) (fun β hβ => (det_call en57 rfl (fun w hb ho => Cu.Mul_ok ho.blocks))) ?_
  refine HeadR.yes rfl rfl (fun _ _ => rfl) (fun β hβ => (Det.to (det_eql28 rfl rfl) (congrArg Value.bool (yb h3)))) ?_
  refine HeadR.det rfl (fun β hβ => (det_pick rfl rfl)) ?_
  refine HeadR.det rfl (fun β hβ => (det_move rfl)) ?_
  refine HeadR.no rfl rfl (fun _ _ => rfl) ?_
  refine HeadR.no rfl rfl (fun _ _ => rfl) ?_
  refine HeadR.no rfl rfl (fun _ _ => rfl) ?_
  refine HeadR.no rfl rfl (fun _ _ => rfl) ?_
  refine HeadR.no rfl rfl (fun _ _ => rfl) ?_
  refine HeadR.no rfl rfl (fun _ _ => rfl) ?_
  refine HeadR.un rfl rfl (fun _ _ => rfl) ?_
  refine HeadR.un rfl rfl (fun _ _ => rfl) ?_
  refine HeadR.un rfl rfl (fun _ _ => rfl) ?_
  refine HeadR.no rfl rfl (fun _ _ => rfl) ?_
  refine HeadR.no rfl rfl (fun _ _ => rfl) ?_
  refine HeadR.un rfl rfl (fun _ _ => rfl) ?_
  refine HeadR.un rfl rfl (fun _ _ => rfl) ?_
  refine HeadR.no rfl rfl (fun _ _ => rfl) ?_
  refine HeadR.det rfl (fun β hβ => (det_pick rfl rfl)) ?_
  refine HeadR.det rfl (fun β hβ => (det_assign rfl)) ?_
  refine HeadR.done ⟨by kernel_rfl, fun β hβ => ?_⟩
  refine OpsW.norm (F' := ((60, _) :: (61, _) :: (62, _) :: (63, _) :: (64, _) :: (65, _) :: (66, _) :: (67, _) :: (68, _) :: (69, _) :: (70, _) :: (71, _) :: (72, _) :: (73, _) :: (74, _) :: (75, _) :: (76, _) :: (77, _) :: (78, _) :: (79, _) :: (80, _) :: (81, _) :: (82, _) :: (83, _) :: (84, _) :: (85, _) :: (86, _) :: (87, _) :: (88, _) :: (89, _) :: (90, _) :: (91, _) :: (92, _) :: (93, _) :: (94, _) :: (95, _) :: (96, _) :: (97, _) :: (98, _) :: (99, _) :: (100, _) :: (101, _) :: (102, _) :: (103, _) :: (104, _) :: (105, _) :: (6, _) :: (8, _) :: (5, _) :: (3, _) :: [])) (H' := [(_, _), (_, _), (_, _), (_, _), (_, _)]) rfl rfl ?_
  refine sNext ?_
  refine W.keep (F' := [(6, _)]) ⟨rfl, trivial⟩ ?_
  refine sRet ?_
  exact done1 Tryd.results29 (rv_tmp rfl) rfl
set_option maxHeartbeats 2000000 in
theorem sidesE_ok {p q r : Pt} (h0 : p ≠ (0, 0)) (h0' : q ≠ (0, 0)) (h0'' : r ≠ (0, 0)) (h1 : p = q) (h2 : r.1 = p.1) (h3 : r = p) (h4 : threeB p = true) {w : World} (hG : Blocks (GH T) w)  : Vm.Pure Tryd.prog 29 #[encP p, encP q, encP r] w (.bool true) := by
  refine pure_of_W (n := 140) (args := [encP p, encP q, encP r]) Tryd.func29 rfl Tryd.ntmps29 (Nat.le_of_ble_eq_true rfl) hG ?_
  refine sStart ?_
  refine sSeq ?_
  refine W.region ?_
  refine OpsW.fresh (fr_box rfl rfl) rfl fun b3 => ?_
  refine OpsW.fresh (fr_box rfl rfl) rfl fun b4 => ?_
  refine OpsW.fresh (fr_box rfl rfl) rfl fun b5 => ?_
  refine OpsW.det (det_assign rfl) rfl ?_
  refine sNext ?_
  refine W.keep (F' := [(5, _), (4, _), (3, _)]) ⟨rfl, rfl, rfl, trivial⟩ ?_
  refine sSeq ?_
  refine W.region ?_
  refine OpsW.det (det_zero bz30) rfl ?_
  refine OpsW.fresh (fr_alloc z30) rfl fun b7 => ?_
  refine OpsW.store sz30 rfl rfl rfl rfl rfl (Upd.here) rfl ?_
  refine sNext ?_
  refine W.keep (F' := [(7, _), (5, _), (4, _), (3, _)]) ⟨rfl, rfl, rfl, rfl, trivial⟩ ?_
  refine sSeq ?_
  refine sSeq ?_
  refine W.region ?_
  refine OpsW.det (det_loadA ty30 rfl (List.Mem.tail _ (List.Mem.tail _ (List.Mem.tail _ (List.Mem.head _)))) rfl) rfl ?_
  refine OpsW.det (det_loadA ty30 rfl (List.Mem.head _) rfl) rfl ?_
  refine OpsW.det (Det.to (det_eql30 rfl rfl) (congrArg Value.bool (nf h0))) rfl ?_
  refine OpsW.det (det_move rfl) rfl ?_
  refine OpsW.guard_yes rfl rfl ?_
  refine OpsW.det (det_loadA ty30 rfl (List.Mem.tail _ (List.Mem.tail _ (List.Mem.head _))) rfl) rfl ?_
  refine OpsW.guard_yes rfl rfl ?_
  refine OpsW.det (det_loadA ty30 rfl (List.Mem.head _) rfl) rfl ?_
  refine OpsW.guard_yes rfl rfl ?_
  refine OpsW.det (Det.to (det_eql30 rfl rfl) (congrArg Value.bool (nf h0'))) rfl ?_
  refine OpsW.det (det_pick rfl rfl) rfl ?_
  refine OpsW.det (det_move rfl) rfl ?_
  refine OpsW.guard_yes rfl rfl ?_
  refine OpsW.det (det_loadA ty30 rfl (List.Mem.tail _ (List.Mem.head _)) rfl) rfl ?_
  refine OpsW.guard_yes rfl rfl ?_
  refine OpsW.det (det_loadA ty30 rfl (List.Mem.head _) rfl) rfl ?_
  refine OpsW.guard_yes rfl rfl ?_
  refine OpsW.det (Det.to (det_eql30 rfl rfl) (congrArg Value.bool (nf h0''))) rfl ?_
  refine OpsW.det (det_pick rfl rfl) rfl ?_
  refine sNext ?_
  refine W.keep (F' := [(22, _), (7, _), (5, _), (4, _), (3, _)]) ⟨rfl, rfl, rfl, rfl, rfl, trivial⟩ ?_
  refine W.cond_false rfl ?_
  refine sSkip ?_
  refine sSeq ?_
  refine sSeq ?_
  refine W.region ?_
  refine OpsW.det (det_loadA ty30 rfl (List.Mem.tail _ (List.Mem.tail _ (List.Mem.tail _ (List.Mem.head _)))) rfl) rfl ?_
  refine OpsW.det (det_loadA ty30 rfl (List.Mem.tail _ (List.Mem.tail _ (List.Mem.head _))) rfl) rfl ?_
  refine OpsW.det (Det.to (det_eql30 rfl rfl) (congrArg Value.bool (yb h1))) rfl ?_
  refine sNext ?_
  refine W.keep (F' := [(56, _), (5, _), (4, _), (3, _)]) ⟨rfl, rfl, rfl, rfl, trivial⟩ ?_
  refine W.cond_true rfl ?_
  refine sSeq ?_
  refine W.region ?_
  refine OpsW.det (det_fieldAddr fl30_0 rfl) rfl ?_
  refine OpsW.det (det_loadA ty28 rfl (List.Mem.tail _ (List.Mem.tail _ (List.Mem.tail _ (List.Mem.head _)))) rfl) rfl ?_
  refine OpsW.det (det_call en56 rfl (fun w hb ho => Cu.Square_ok ho.blocks)) rfl ?_
  refine OpsW.fresh (fr_alloc z28) rfl fun b8 => ?_
  refine OpsW.store sz28 rfl rfl rfl rfl rfl (Upd.here) rfl ?_
  refine sNext ?_
  refine W.keep (F' := [(8, _), (5, _), (3, _)]) ⟨rfl, rfl, rfl, trivial⟩ ?_
  refine sSeq ?_
  refine W.draw mixed 47 [[], [0], [], [2], [0, 1, 2, 3], [0, 1, 2, 3, 4], [0, 1, 2, 3, 4, 5], [0, 1, 2, 3, 4, 5, 6], [0, 1, 2, 3, 4, 5], [0, 1, 2, 3, 4, 5, 8], [0, 1, 2, 3, 4, 5, 6, 7, 8, 9], [0, 1, 2, 3, 4, 5], [0, 1, 2, 3, 4, 5, 11], [0, 1, 2, 3, 4, 5], [0, 1, 2, 3, 4, 5, 13], [0, 1, 2, 3, 4, 5, 6, 7, 8, 9, 10, 11, 12, 13, 14], [0, 1, 2, 3, 4, 5, 6, 7, 8, 9, 10, 11, 12, 13, 14, 15], [0, 1, 2, 3, 4, 5], [0, 1, 2, 3, 4, 5], [0, 1, 2, 3, 4, 5, 6, 7, 8, 9, 10, 11, 12, 13, 14, 15, 16, 17, 18], [0, 1, 2, 3, 4, 5], [0, 1, 2, 3, 4, 5, 6, 7, 8, 9, 10, 11, 12, 13, 14, 15, 16, 17, 18, 19, 20], [0, 1, 2, 3, 4, 5], [0, 1, 2, 3, 4, 5, 22], [0, 1, 2, 3, 4, 5], [0, 1, 2, 3, 4, 5, 24], [0, 1, 2, 3, 4, 5, 6, 7, 8, 9, 10, 11, 12, 13, 14, 15, 16, 17, 18, 19, 20, 21, 22, 23, 24, 25], [0, 1, 2, 3, 4, 5, 6, 7, 8, 9, 10, 11, 12, 13, 14, 15, 16, 17, 18, 19, 20, 21, 22, 23, 24, 25, 26], [0, 1, 2, 3, 4, 5, 6, 7, 8, 9, 10, 11, 12, 13, 14, 15, 16, 17, 18, 19, 20, 21, 22, 23, 24, 25, 26, 27], [0, 1, 2, 3, 4, 5, 6, 7, 8, 9, 10, 11, 12, 13, 14, 15, 16, 17, 18, 19, 20, 21, 22, 23, 24, 25, 26, 27, 28], [0, 1, 2, 3, 4, 5, 6, 7, 8, 9, 10, 11, 12, 13, 14, 15, 16, 17, 18, 19, 20, 21, 22, 23, 24, 25, 26, 27, 28, 29], [0, 1, 2, 3, 4, 5, 6, 7, 8, 9, 10, 11, 12, 13, 14, 15, 16, 17, 18, 19, 20, 21, 22, 23, 24, 25, 26, 27, 28, 29, 30], [0, 1, 2, 3, 4, 5, 6, 7, 8, 9, 10, 11, 12, 13, 14, 15, 16, 17, 18, 19, 20, 21, 22, 23, 24, 25, 26, 27, 28, 29, 30, 31], [0, 1, 2, 3, 4, 5, 6, 7, 8, 9, 10, 11, 12, 13, 14, 15, 16, 17, 18, 19, 20, 21, 22, 23, 24, 25, 26, 27, 28, 29, 30], [0, 1, 2, 3, 4, 5, 6, 7, 8, 9, 10, 11, 12, 13, 14, 15, 16, 17, 18, 19, 20, 21, 22, 23, 24, 25, 26, 27, 28, 29, 30, 33], [0, 1, 2, 3, 4, 5, 6, 7, 8, 9, 10, 11, 12, 13, 14, 15, 16, 17, 18, 19, 20, 21, 22, 23, 24, 25, 26, 27, 28, 29, 30, 31, 32, 33, 34], [0, 1, 2, 3, 4, 5, 6, 7, 8, 9, 10, 11, 12, 13, 14, 15, 16, 17, 18, 19, 20, 21, 22, 23, 24, 25, 26, 27, 28, 29, 30, 31, 32, 33, 34, 35], [0, 1, 2, 3, 4, 5, 6, 7, 8, 9, 10, 11, 12, 13, 14, 15, 16, 17, 18, 19, 20, 21, 22, 23, 24, 25, 26, 27, 28, 29, 30, 31, 32, 33, 34, 35, 36], [0, 1, 2, 3, 4, 5, 6, 7, 8, 9, 10, 11, 12, 13, 14, 15, 16, 17, 18, 19, 20, 21, 22, 23, 24, 25, 26, 27, 28, 29, 30, 31, 32, 33, 34, 35, 36], [0, 1, 2, 3, 4, 5, 6, 7, 8, 9, 10, 11, 12, 13, 14, 15, 16, 17, 18, 19, 20, 21, 22, 23, 24, 25, 26, 27, 28, 29, 30, 31, 32, 33, 34, 35, 36, 37, 38], [0, 1, 2, 3, 4, 5, 6, 7, 8, 9, 10, 11, 12, 13, 14, 15, 16, 17, 18, 19, 20, 21, 22, 23, 24, 25, 26, 27, 28, 29, 30, 31, 32, 33, 34, 35, 36, 37, 38, 39], [0, 1, 2, 3, 4, 5, 6, 7, 8, 9, 10, 11, 12, 13, 14, 15, 16, 17, 18, 19, 20, 21, 22, 23, 24, 25, 26, 27, 28, 29, 30, 31, 32, 33, 34, 35, 36, 37, 38, 39, 40], [0, 1, 2, 3, 4, 5, 6, 7, 8, 9, 10, 11, 12, 13, 14, 15, 16, 17, 18, 19, 20, 21, 22, 23, 24, 25, 26, 27, 28, 29, 30, 31, 32, 33, 34, 35, 36, 37, 38, 39, 40, 41], [0, 1, 2, 3, 4, 5, 6, 7, 8, 9, 10, 11, 12, 13, 14, 15, 16, 17, 18, 19, 20, 21, 22, 23, 24, 25, 26, 27, 28, 29, 30, 31, 32, 33, 34, 35, 36, 37, 38, 39, 40, 41, 42], [0, 1, 2, 3, 4, 5, 6, 7, 8, 9, 10, 11, 12, 13, 14, 15, 16, 17, 18, 19, 20, 21, 22, 23, 24, 25, 26, 27, 28, 29, 30, 31, 32, 33, 34, 35, 36, 37, 38, 39, 40, 41, 42, 43], [0, 1, 2, 3, 4, 5, 6, 7, 8, 9, 10, 11, 12, 13, 14, 15, 16, 17, 18, 19, 20, 21, 22, 23, 24, 25, 26, 27, 28, 29, 30, 31, 32, 33, 34, 35, 36, 37, 38, 39, 40, 41, 42, 43, 44], [0, 1, 2, 3, 4, 5, 6, 7, 8, 9, 10, 11, 12, 13, 14, 15, 16, 17, 18, 19, 20, 21, 22, 23, 24, 25, 26, 27, 28, 29, 30, 31, 32, 33, 34, 35, 36, 37, 38, 39, 40, 41, 42, 43, 44, 45]] (cl_lt (by decide)) ?_
  refine HeadR.start (cl_lt (by decide)) ?_
  refine HeadR.det rfl (fun β hβ => (det_fieldAddr fl30_0 rfl)) ?_
  refine HeadR.det rfl (fun β hβ => (det_loadA ty28 rfl (List.Mem.tail _ (List.Mem.tail _ (List.Mem.head _))) rfl)) ?_
  refine HeadR.det rfl (fun β hβ => (det_fieldAddr fl30_0 rfl)) ?_
  refine HeadR.det rfl (fun β hβ => (det_loadA ty28 rfl (List.Mem.tail _ (List.Mem.tail _ (List.Mem.tail _ (List.Mem.tail _ (List.Mem.head _))))) rfl)) ?_
  refine HeadR.det rfl (fun β hβ => (Det.to (det_neq28 rfl rfl) (congrArg Value.bool (nb h2)))) ?_
  refine HeadR.det rfl (fun β hβ => (det_move rfl)) ?_
  refine HeadR.no rfl rfl (fun _ _ => rfl) ?_
  refine HeadR.no rfl rfl (fun _ _ => rfl) ?_
  refine HeadR.no rfl rfl (fun _ _ => rfl) ?_
  refine HeadR.no rfl rfl (fun _ _ => rfl) ?_
  refine HeadR.no rfl rfl (fun _ _ => rfl) ?_
  refine HeadR.no rfl rfl (fun _ _ => rfl) ?_
  refine HeadR.no rfl rfl (fun _ _ => rfl) ?_
  refine HeadR.no rfl rfl (fun _ _ => rfl) ?_
  refine HeadR.no rfl rfl (fun _ _ => rfl) ?_
  refine HeadR.no rfl rfl (fun _ _ => rfl) ?_
  refine HeadR.no rfl rfl (fun _ _ => rfl) ?_
  refine HeadR.no rfl rfl (fun _ _ => rfl) ?_
  refine HeadR.no rfl rfl (fun _ _ => rfl) ?_
  refine HeadR.no rfl rfl (fun _ _ => rfl) ?_
  refine HeadR.no rfl rfl (fun _ _ => rfl) ?_
  refine HeadR.no rfl rfl (fun _ _ => rfl) ?_
  refine HeadR.no rfl rfl (fun _ _ => rfl) ?_
  refine HeadR.no rfl rfl (fun _ _ => rfl) ?_
  refine HeadR.no rfl rfl (fun _ _ => rfl) ?_
  refine HeadR.no rfl rfl (fun _ _ => rfl) ?_
  refine HeadR.no rfl rfl (fun _ _ => rfl) ?_
  refine HeadR.no rfl rfl (fun _ _ => rfl) ?_
  refine HeadR.no rfl rfl (fun _ _ => rfl) ?_
  refine HeadR.det rfl (fun β hβ => (det_pick rfl rfl)) ?_
  refine HeadR.det rfl (fun β hβ => (det_move rfl)) ?_
  refine HeadR.yes rfl rfl (fun _ _ => rfl) (fun β hβ => (det_fieldAddr fl30_0 rfl)) ?_
  refine HeadR.yes rfl rfl (fun _ _ => rfl) (fun β hβ => (det_loadA ty28 rfl (List.Mem.tail _ (List.Mem.tail _ (List.Mem.head _))) rfl)) ?_
  refine HeadR.yes rfl rfl (fun _ _ => rfl) (fun β hβ => (det_fieldAddr fl30_0 rfl)) ?_
  refine HeadR.yes rfl rfl (fun _ _ => rfl) (fun β hβ => (det_loadA ty28 rfl (List.Mem.tail _ (List.Mem.tail _ (List.Mem.tail _ (List.Mem.tail _ (List.Mem.head _))))) rfl)) ?_
  refine HeadR.yes rfl rfl (fun _ _ => rfl) (fun β hβ => (Det.to (det_eql28 rfl rfl) (congrArg Value.bool (yb h2)))) ?_
  refine HeadR.yes rfl rfl (fun _ _ => rfl) (fun β hβ => (det_move rfl)) ?_
  refine HeadR.yes rfl rfl (fun _ _ => rfl) (fun β hβ => (det_loadA ty30 rfl (List.Mem.tail _ (List.Mem.tail _ (List.Mem.head _))) rfl)) ?_
  refine HeadR.yes rfl rfl (fun _ _ => rfl) (fun β hβ => (det_loadA ty30 rfl (List.Mem.tail _ (List.Mem.tail _ (List.Mem.tail _ (List.Mem.tail _ (List.Mem.head _))))) rfl)) ?_
  refine HeadR.yes rfl rfl (fun _ _ => rfl) (fun β hβ => (Det.to (det_eql30 rfl rfl) (congrArg Value.bool (yb h3)))) ?_
  refine HeadR.yes rfl rfl (fun _ _ => rfl) (fun β hβ => (det_pick rfl rfl)) ?_
  refine HeadR.yes rfl rfl (fun _ _ => rfl) (fun β hβ => (det_move rfl)) ?_
  refine HeadR.yes rfl rfl (fun _ _ => rfl) (fun β hβ => (det_loadA ty30 rfl (List.Mem.tail _ (List.Mem.tail _ (List.Mem.tail _ (List.Mem.tail _ (List.Mem.head _))))) rfl)) ?_
  refine HeadR.yes rfl rfl (fun _ _ => rfl) (fun β hβ => (Det.to (det_call en68 rfl (fun w hb ho => three_ok ho.blocks)) (congrArg Value.bool (h4)))) ?_
  refine HeadR.yes rfl rfl (fun _ _ => rfl) (fun β hβ => (det_pick rfl rfl)) ?_
  refine HeadR.det rfl (fun β hβ => (det_pick rfl rfl)) ?_
  refine HeadR.det rfl (fun β hβ => (det_assign rfl)) ?_
  refine HeadR.done ⟨by kernel_rfl, fun β hβ => ?_⟩
  refine OpsW.norm (F' := ((60, _) :: (61, _) :: (62, _) :: (63, _) :: (64, _) :: (65, _) :: (66, _) :: (67, _) :: (68, _) :: (69, _) :: (70, _) :: (71, _) :: (72, _) :: (73, _) :: (74, _) :: (75, _) :: (76, _) :: (77, _) :: (78, _) :: (79, _) :: (80, _) :: (81, _) :: (82, _) :: (83, _) :: (84, _) :: (85, _) :: (86, _) :: (87, _) :: (88, _) :: (89, _) :: (90, _) :: (91, _) :: (92, _) :: (93, _) :: (94, _) :: (95, _) :: (96, _) :: (97, _) :: (98, _) :: (99, _) :: (100, _) :: (101, _) :: (102, _) :: (103, _) :: (104, _) :: (105, _) :: (6, _) :: (8, _) :: (5, _) :: (3, _) :: [])) (H' := [(_, _), (_, _), (_, _), (_, _), (_, _)]) rfl rfl ?_
  refine sNext ?_
  refine W.keep (F' := [(6, _)]) ⟨rfl, trivial⟩ ?_
  refine sRet ?_
  exact done1 Tryd.results29 (rv_tmp rfl) rfl
set_option maxHeartbeats 2000000 in
theorem sidesF_ok {p q r : Pt} (h0 : p ≠ (0, 0)) (h0' : q ≠ (0, 0)) (h0'' : r ≠ (0, 0)) (h1 : p ≠ q) (h2 : p.1 ≠ q.1) (h3 : (q.1 - p.1) * (r.2 - p.2) = (r.1 - p.1) * (q.2 - p.2)) (h4 : lambdaB p q r = true) {w : World} (hG : Blocks (GH T) w)  : Vm.Pure Tryd.prog 29 #[encP p, encP q, encP r] w (.bool true) := by
  refine pure_of_W (n := 140) (args := [encP p, encP q, encP r]) Tryd.func29 rfl Tryd.ntmps29 (Nat.le_of_ble_eq_true rfl) hG ?_
  refine sStart ?_
  refine sSeq ?_
  refine W.region ?_
  refine OpsW.fresh (fr_box rfl rfl) rfl fun b3 => ?_
  refine OpsW.fresh (fr_box rfl rfl) rfl fun b4 => ?_
  refine OpsW.fresh (fr_box rfl rfl) rfl fun b5 => ?_
  refine OpsW.det (det_assign rfl) rfl ?_
  refine sNext ?_
  refine W.keep (F' := [(5, _), (4, _), (3, _)]) ⟨rfl, rfl, rfl, trivial⟩ ?_
  refine sSeq ?_
  refine W.region ?_
  refine OpsW.det (det_zero bz30) rfl ?_
  refine OpsW.fresh (fr_alloc z30) rfl fun b7 => ?_
  refine OpsW.store sz30 rfl rfl rfl rfl rfl (Upd.here) rfl ?_
  refine sNext ?_
  refine W.keep (F' := [(7, _), (5, _), (4, _), (3, _)]) ⟨rfl, rfl, rfl, rfl, trivial⟩ ?_
  refine sSeq ?_
  refine sSeq ?_
  refine W.region ?_
  refine OpsW.det (det_loadA ty30 rfl (List.Mem.tail _ (List.Mem.tail _ (List.Mem.tail _ (List.Mem.head _)))) rfl) rfl ?_
  refine OpsW.det (det_loadA ty30 rfl (List.Mem.head _) rfl) rfl ?_
  refine OpsW.det (Det.to (det_eql30 rfl rfl) (congrArg Value.bool (nf h0))) rfl ?_
  refine OpsW.det (det_move rfl) rfl ?_
  refine OpsW.guard_yes rfl rfl ?_
  refine OpsW.det (det_loadA ty30 rfl (List.Mem.tail _ (List.Mem.tail _ (List.Mem.head _))) rfl) rfl ?_
  refine OpsW.guard_yes rfl rfl ?_
  refine OpsW.det (det_loadA ty30 rfl (List.Mem.head _) rfl) rfl ?_
  refine OpsW.guard_yes rfl rfl ?_
  refine OpsW.det (Det.to (det_eql30 rfl rfl) (congrArg Value.bool (nf h0'))) rfl ?_
  refine OpsW.det (det_pick rfl rfl) rfl ?_
  refine OpsW.det (det_move rfl) rfl ?_
  refine OpsW.guard_yes rfl rfl ?_
  refine OpsW.det (det_loadA ty30 rfl (List.Mem.tail _ (List.Mem.head _)) rfl) rfl ?_
  refine OpsW.guard_yes rfl rfl ?_
  refine OpsW.det (det_loadA ty30 rfl (List.Mem.head _) rfl) rfl ?_
  refine OpsW.guard_yes rfl rfl ?_
  refine OpsW.det (Det.to (det_eql30 rfl rfl) (congrArg Value.bool (nf h0''))) rfl ?_
  refine OpsW.det (det_pick rfl rfl) rfl ?_
  refine sNext ?_
  refine W.keep (F' := [(22, _), (7, _), (5, _), (4, _), (3, _)]) ⟨rfl, rfl, rfl, rfl, rfl, trivial⟩ ?_
  refine W.cond_false rfl ?_
  refine sSkip ?_
  refine sSeq ?_
  refine sSeq ?_
  refine W.region ?_
  refine OpsW.det (det_loadA ty30 rfl (List.Mem.tail _ (List.Mem.tail _ (List.Mem.tail _ (List.Mem.head _)))) rfl) rfl ?_
  refine OpsW.det (det_loadA ty30 rfl (List.Mem.tail _ (List.Mem.tail _ (List.Mem.head _))) rfl) rfl ?_
  refine OpsW.det (Det.to (det_eql30 rfl rfl) (congrArg Value.bool (nf h1))) rfl ?_
  refine sNext ?_
  refine W.keep (F' := [(56, _), (5, _), (4, _), (3, _)]) ⟨rfl, rfl, rfl, rfl, trivial⟩ ?_
  refine W.cond_false rfl ?_
  refine sSkip ?_
  refine sSeq ?_
  refine sSeq ?_
  refine W.region ?_
  refine OpsW.det (det_fieldAddr fl30_0 rfl) rfl ?_
  refine OpsW.det (det_loadA ty28 rfl (List.Mem.tail _ (List.Mem.tail _ (List.Mem.tail _ (List.Mem.head _)))) rfl) rfl ?_
  refine OpsW.det (det_fieldAddr fl30_0 rfl) rfl ?_
  refine OpsW.det (det_loadA ty28 rfl (List.Mem.tail _ (List.Mem.tail _ (List.Mem.head _))) rfl) rfl ?_
  refine OpsW.det (Det.to (det_eql28 rfl rfl) (congrArg Value.bool (nf h2))) rfl ?_
  refine sNext ?_
  refine W.keep (F' := [(110, _), (5, _), (4, _), (3, _)]) ⟨rfl, rfl, rfl, rfl, trivial⟩ ?_
  refine W.cond_false rfl ?_
  refine sSkip ?_
  refine sSeq ?_
  refine W.draw mixed 30 [[], [0], [], [2], [0, 1, 2, 3], [], [5], [], [7], [0, 1, 2, 3, 4, 5, 6, 7, 8], [0, 1, 2, 3, 4, 5, 6, 7, 8, 9], [], [11], [], [13], [0, 1, 2, 3, 4, 5, 6, 7, 8, 9, 10, 11, 12, 13, 14], [], [16], [], [18], [0, 1, 2, 3, 4, 5, 6, 7, 8, 9, 10, 11, 12, 13, 14, 15, 16, 17, 18, 19], [0, 1, 2, 3, 4, 5, 6, 7, 8, 9, 10, 11, 12, 13, 14, 15, 16, 17, 18, 19, 20], [0, 1, 2, 3, 4, 5, 6, 7, 8, 9, 10, 11, 12, 13, 14, 15, 16, 17, 18, 19, 20, 21], [0, 1, 2, 3, 4, 5, 6, 7, 8, 9, 10, 11, 12, 13, 14, 15, 16, 17, 18, 19, 20, 21, 22], [0, 1, 2, 3, 4, 5, 6, 7, 8, 9, 10, 11, 12, 13, 14, 15, 16, 17, 18, 19, 20, 21, 22, 23], [0, 1, 2, 3, 4, 5, 6, 7, 8, 9, 10, 11, 12, 13, 14, 15, 16, 17, 18, 19, 20, 21, 22, 23], [0, 1, 2, 3, 4, 5, 6, 7, 8, 9, 10, 11, 12, 13, 14, 15, 16, 17, 18, 19, 20, 21, 22, 23], [0, 1, 2, 3, 4, 5, 6, 7, 8, 9, 10, 11, 12, 13, 14, 15, 16, 17, 18, 19, 20, 21, 22, 23, 24, 25, 26], [0, 1, 2, 3, 4, 5, 6, 7, 8, 9, 10, 11, 12, 13, 14, 15, 16, 17, 18, 19, 20, 21, 22, 23, 24, 25, 26, 27], [0, 1, 2, 3, 4, 5, 6, 7, 8, 9, 10, 11, 12, 13, 14, 15, 16, 17, 18, 19, 20, 21, 22, 23, 24, 25, 26, 27, 28]] (cl_lt (by decide)) ?_
  refine HeadR.start (cl_lt (by decide)) ?_
  refine HeadR.det rfl (fun β hβ => (det_fieldAddr fl30_0 rfl)) ?_
  refine HeadR.det rfl (fun β hβ => (det_loadA ty28 rfl (List.Mem.tail _ (List.Mem.tail _ (List.Mem.head _))) rfl)) ?_
  refine HeadR.det rfl (fun β hβ => (det_fieldAddr fl30_0 rfl)) ?_
  refine HeadR.det rfl (fun β hβ => (det_loadA ty28 rfl (List.Mem.tail _ (List.Mem.tail _ (List.Mem.tail _ (List.Mem.head _)))) rfl)) ?_
  refine HeadR.det rfl (fun β hβ => (det_call en67 rfl (fun w hb ho => Cu.Sub_ok ho.blocks))) ?_
  refine HeadR.det rfl (fun β hβ => (det_fieldAddr fl30_1 rfl)) ?_
  refine HeadR.det rfl (fun β hβ => (det_loadA ty28 rfl (List.Mem.tail _ (List.Mem.head _)) rfl)) ?_
  refine HeadR.det rfl (fun β hβ => (det_fieldAddr fl30_1 rfl)) ?_
  refine HeadR.det rfl (fun β hβ => (det_loadA ty28 rfl (List.Mem.tail _ (List.Mem.tail _ (List.Mem.tail _ (List.Mem.head _)))) rfl)) ?_
  refine HeadR.det rfl (fun β hβ => (det_call en67 rfl (fun w hb ho => Cu.Sub_ok ho.blocks))) ?_
  refine HeadR.det rfl (fun β hβ => (det_call en57 rfl (fun w hb ho => Cu.Mul_ok ho.blocks))) ?_
  refine HeadR.det rfl (fun β hβ => (det_fieldAddr fl30_0 rfl)) ?_
  refine HeadR.det rfl (fun β hβ => (det_loadA ty28 rfl (List.Mem.tail _ (List.Mem.head _)) rfl)) ?_
  refine HeadR.det rfl (fun β hβ => (det_fieldAddr fl30_0 rfl)) ?_
  refine HeadR.det rfl (fun β hβ => (det_loadA ty28 rfl (List.Mem.tail _ (List.Mem.tail _ (List.Mem.tail _ (List.Mem.head _)))) rfl)) ?_
  refine HeadR.det rfl (fun β hβ => (det_call en67 rfl (fun w hb ho => Cu.Sub_ok ho.blocks))) ?_
  refine HeadR.det rfl (fun β hβ => (det_fieldAddr fl30_1 rfl)) ?_
  refine HeadR.det rfl (fun β hβ => (det_loadA ty28 rfl (List.Mem.tail _ (List.Mem.tail _ (List.Mem.head _))) rfl)) ?_
  refine HeadR.det rfl (fun β hβ => (det_fieldAddr fl30_1 rfl)) ?_
  refine HeadR.det rfl (fun β hβ => (det_loadA ty28 rfl (List.Mem.tail _ (List.Mem.tail _ (List.Mem.tail _ (List.Mem.head _)))) rfl)) ?_
  refine HeadR.det rfl (fun β hβ => (det_call en67 rfl (fun w hb ho => Cu.Sub_ok ho.blocks))) ?_
  refine HeadR.det rfl (fun β hβ => (det_call en57 rfl (fun w hb ho => Cu.Mul_ok ho.blocks))) ?_
  refine HeadR.det rfl (fun β hβ => (Det.to (det_eql28 rfl rfl) (congrArg Value.bool (yb h3)))) ?_
  refine HeadR.det rfl (fun β hβ => (det_move rfl)) ?_
  refine HeadR.yes rfl rfl (fun _ _ => rfl) (fun β hβ => (det_loadA ty30 rfl (List.Mem.tail _ (List.Mem.tail _ (List.Mem.tail _ (List.Mem.head _)))) rfl)) ?_
  refine HeadR.yes rfl rfl (fun _ _ => rfl) (fun β hβ => (det_loadA ty30 rfl (List.Mem.tail _ (List.Mem.tail _ (List.Mem.head _))) rfl)) ?_
  refine HeadR.yes rfl rfl (fun _ _ => rfl) (fun β hβ => (det_loadA ty30 rfl (List.Mem.tail _ (List.Mem.head _)) rfl)) ?_
  refine HeadR.yes rfl rfl (fun _ _ => rfl) (fun β hβ => (Det.to (det_call en69 rfl (fun w hb ho => lambda_ok ho.blocks)) (congrArg Value.bool (h4)))) ?_
  refine HeadR.det rfl (fun β hβ => (det_pick rfl rfl)) ?_
  refine HeadR.det rfl (fun β hβ => (det_assign rfl)) ?_
  refine HeadR.done ⟨by kernel_rfl, fun β hβ => ?_⟩
  refine OpsW.norm (F' := ((111, _) :: (112, _) :: (113, _) :: (114, _) :: (115, _) :: (116, _) :: (117, _) :: (118, _) :: (119, _) :: (120, _) :: (121, _) :: (122, _) :: (123, _) :: (124, _) :: (125, _) :: (126, _) :: (127, _) :: (128, _) :: (129, _) :: (130, _) :: (131, _) :: (132, _) :: (133, _) :: (134, _) :: (135, _) :: (136, _) :: (137, _) :: (138, _) :: (139, _) :: (6, _) :: (110, _) :: (5, _) :: (4, _) :: (3, _) :: [])) (H' := [(_, _), (_, _), (_, _), (_, _)]) rfl rfl ?_
  refine sNext ?_
  refine W.keep (F' := [(6, _)]) ⟨rfl, trivial⟩ ?_
  refine sRet ?_
  exact done1 Tryd.results29 (rv_tmp rfl) rfl
theorem wild_ok {n : Nat} (hn : n < 65536) {w : World} (hG : Blocks (GH T) w)  : Vm.Pure Tryd.prog 24 #[.int .u16 (n : Nat)] w (encP (wild n)) := by
  refine pure_of_W (n := 38) (args := [.int .u16 (n : Nat)]) Tryd.func24 rfl Tryd.ntmps24 (Nat.le_of_ble_eq_true rfl) hG ?_
  refine sStart ?_
  refine sSeq ?_
  refine W.region ?_
  refine OpsW.fresh (fr_alloc z30r) rfl fun b2 => ?_
  refine sNext ?_
  refine sSeq ?_
  refine sSeq ?_
  refine W.region ?_
  refine OpsW.det (det_move rfl) rfl ?_
  refine OpsW.det ((det_conv u39 u25 rfl).to (v := u64 n) (by rw [wrap_u64 (by omega)]; rfl)) rfl ?_
  refine OpsW.det (det_assign rfl) rfl ?_
  refine sNext ?_
  refine W.keep (F' := [(3, _), (2, _), (0, _)]) ⟨rfl, rfl, rfl, trivial⟩ ?_
  refine sBlock ?_
  refine sLoop (σ := Nat) (fun k => [(3, u64 k), (2, .pointer (some ⟨b2, 0, none⟩)), (0, .int .u16 (n : Nat))]) (fun k => [(b2, blk (cellsP (0, 0)) 30)]) (fun k => n ≤ k ∧ k ≤ n + 200 ∧ wild n = wfrom (n + 200 - k) k) (fun k => n + 200 - k) n ⟨Nat.le_refl _, Nat.le_add_right _ _, by rw [Nat.add_sub_cancel_left]; rfl⟩ ⟨rfl, rfl, rfl, trivial⟩ (List.Sublist.refl _) ?_
  rintro k ⟨hk1, hk2, hw⟩
  refine sSeq ?_
  refine sSeq ?_
  refine W.region ?_
  refine OpsW.det (det_move rfl) rfl ?_
  refine OpsW.det (det_move rfl) rfl ?_
  refine OpsW.det ((det_conv u39 u25 rfl).to (v := u64 n) (by rw [wrap_u64 (by omega)]; rfl)) rfl ?_
  refine OpsW.det ((det_add (a := (n : Int)) (b := 200) rfl rfl).to (v := u64 (n + 200)) (by rw [wrap_u64 (by omega)]; rfl)) rfl ?_
  refine OpsW.det ((det_lss (a := ((k : Nat) : Int)) (b := ((n + 200 : Nat) : Int)) rfl rfl)) rfl ?_
  refine sNext ?_
  refine W.keep (F' := [(13, _), (3, _), (2, _), (0, _)]) ⟨rfl, rfl, rfl, rfl, trivial⟩ ?_
  refine W.cond rfl (fun hc13 => ?_) (fun hc13 => ?_)
  · skip
    have hlt : k < n + 200 := by have h := hc13; simp only [decide_eq_true_eq] at h; omega
    refine sSkip ?_
    refine sSeq ?_
    refine sBlock ?_
    refine sSeq ?_
    refine W.region ?_
    refine OpsW.det (det_move rfl) rfl ?_
    refine OpsW.det (det_call en59 rfl (fun w hb ho => Of_ok (n := k) (by omega) ho.blocks)) rfl ?_
    refine OpsW.fresh (fr_alloc z28) rfl fun b4 => ?_
    refine OpsW.store sz28 rfl rfl rfl rfl rfl (Upd.here) rfl ?_
    refine sNext ?_
    refine W.keep (F' := [(4, _), (3, _), (2, _), (0, _)]) ⟨rfl, rfl, rfl, rfl, trivial⟩ ?_
    refine sSeq ?_
    refine W.draw mixed 11 [[], [0], [], [0, 1, 2], [0, 1, 2, 3], [0, 1, 2, 3, 4], [0, 1, 2, 3, 4, 5], [0, 1, 2, 3, 4, 5, 6], [0, 1, 2, 3, 4, 5, 6, 7], [0, 1, 2, 3, 4, 5, 6, 7], [], [0, 1, 2, 3, 4, 5, 6, 7, 8, 10], [0, 1, 2, 3, 4, 5, 6, 7, 8, 9, 10, 11]] (cl_lt (by decide)) ?_
    refine HeadR.start (cl_lt (by decide)) ?_
    refine HeadR.det rfl (fun β hβ => (det_loadA ty28 rfl (List.Mem.head _) rfl)) ?_
    refine HeadR.det rfl (fun β hβ => (det_call en56 rfl (fun w hb ho => Cu.Square_ok ho.blocks))) ?_
    refine HeadR.det rfl (fun β hβ => (det_loadA ty28 rfl (List.Mem.head _) rfl)) ?_
    refine HeadR.det rfl (fun β hβ => (det_call en57 rfl (fun w hb ho => Cu.Mul_ok ho.blocks))) ?_
    refine HeadR.det rfl (fun β hβ => (det_call en59 rfl (fun w hb ho => Of_ok (n := 4) (by decide) ho.blocks))) ?_
    refine HeadR.det rfl (fun β hβ => (det_call en33 rfl (fun w hb ho => Cu.Add_ok ho.blocks))) ?_
    refine HeadR.det rfl (fun β hβ => (det_call en60 rfl (fun w hb ho => Cu.Sqrt_ok ho.blocks))) ?_
    refine HeadR.det rfl (fun β hβ => (det_move rfl)) ?_
    refine HeadR.det rfl (fun β hβ => (det_extract rfl rfl)) ?_
    refine HeadR.flt rfl (fun _ _ _ _ hs => flt_extract hs rfl rfl) ?_
    refine HeadR.fresh rfl (fun β hβ => (fr_alloc z28).new) ?_
    refine HeadR.done ⟨by kernel_rfl, fun β hβ => ?_⟩
    refine OpsW.norm (F' := [(19, _), (20, _), (21, _), (22, _), (23, _), (24, _), (25, _), (18, _), (26, _), (27, _), (5, .pointer (some ⟨(β 5).1, 0, none⟩)), (4, _), (3, _), (2, _), (0, _)]) (H' := [(_, _), (_, _), (_, _)]) rfl rfl ?_
    generalize (β 5).1 = b5
    refine OpsW.store sz28 rfl rfl rfl rfl rfl (Upd.here) rfl ?_
    refine OpsW.det (det_assign rfl) rfl ?_
    refine sNext ?_
    refine W.keep (F' := [(6, _), (5, _), (4, _), (3, _), (2, _), (0, _)]) ⟨rfl, rfl, rfl, rfl, rfl, rfl, trivial⟩ ?_
    refine sSeq ?_
    rcases hb : (sqrtF (Zp.of k * Zp.of k * Zp.of k + Zp.of 4)).2 with _ | _
    · skip
      replace hb : (sqrtF (wcube k)).2 = false := hb
      refine W.region ?_
      refine OpsW.det (det_move rfl) rfl ?_
      refine OpsW.det (det_move rfl) rfl ?_
      refine OpsW.guard_no rfl rfl rfl ?_
      refine OpsW.guard_no rfl rfl rfl ?_
      refine OpsW.guard_no rfl rfl rfl ?_
      refine OpsW.det (det_pick rfl rfl) rfl ?_
      refine sNext ?_
      refine W.keep (F' := [(33, _), (5, _), (4, _), (3, _), (2, _), (0, _)]) ⟨rfl, rfl, rfl, rfl, rfl, rfl, trivial⟩ ?_
      refine W.cond_false rfl ?_
      refine sSkip0 ?_
      refine bNext ?_
      refine W.keep (F' := [(3, _), (2, _), (0, _)]) ⟨rfl, rfl, rfl, trivial⟩ ?_
      refine W.region ?_
      refine OpsW.det (det_move rfl) rfl ?_
      refine OpsW.det ((det_add (a := (k : Int)) (b := 1) rfl rfl).to (v := u64 (k + 1)) (by rw [wrap_u64 (by omega)]; rfl)) rfl ?_
      refine OpsW.det (det_assign rfl) rfl ?_
      refine sLast ?_
      exact rEnd (k + 1) ⟨by omega, by omega, wild_no hlt hw hb⟩ ⟨rfl, rfl, rfl, trivial⟩ (List.Sublist.cons _ (List.Sublist.cons _ (List.Sublist.refl _))) (by omega)
    · skip
      replace hb : (sqrtF (wcube k)).2 = true := hb
      refine W.region ?_
      refine OpsW.det (det_move rfl) rfl ?_
      refine OpsW.det (det_move rfl) rfl ?_
      refine OpsW.guard_yes rfl rfl ?_
      refine OpsW.det (det_loadA ty28 rfl (List.Mem.head _) rfl) rfl ?_
      refine OpsW.guard_yes rfl rfl ?_
      refine OpsW.det (det_call en61 rfl (fun w hb ho => Cu.Zero_ok ho.blocks)) rfl ?_
      refine OpsW.guard_yes rfl rfl ?_
      refine OpsW.det (det_not rfl) rfl ?_
      refine OpsW.det (det_pick rfl rfl) rfl ?_
      refine sNext ?_
      refine W.keep (F' := [(33, _), (5, _), (4, _), (3, _), (2, _), (0, _)]) ⟨rfl, rfl, rfl, rfl, rfl, rfl, trivial⟩ ?_
      refine W.cond rfl (fun hc33 => ?_) (fun hc33 => ?_)
      · skip
        refine sSeq ?_
        refine W.region ?_
        refine OpsW.det (det_loadA ty28 rfl (List.Mem.tail _ (List.Mem.head _)) rfl) rfl ?_
        refine OpsW.det (det_loadA ty28 rfl (List.Mem.head _) rfl) rfl ?_
        refine OpsW.det (det_build rfl bld30) rfl ?_
        refine OpsW.store sz30 rfl rfl rfl rfl rfl (Upd.there (Upd.there (Upd.here))) rfl ?_
        refine sNext ?_
        refine W.keep (F' := [(2, _)]) ⟨rfl, trivial⟩ ?_
        refine sRet ?_
        refine retBlk ?_
        refine retLoop ?_
        refine retBlk ?_
        exact done1 Tryd.results24 (rv_cellA ty30 rfl (List.Mem.tail _ (List.Mem.tail _ (List.Mem.head _))) rfl) (congrArg encP (wild_hit hlt hw hb hc33))
      · skip
        refine sSkip0 ?_
        refine bNext ?_
        refine W.keep (F' := [(3, _), (2, _), (0, _)]) ⟨rfl, rfl, rfl, trivial⟩ ?_
        refine W.region ?_
        refine OpsW.det (det_move rfl) rfl ?_
        refine OpsW.det ((det_add (a := (k : Int)) (b := 1) rfl rfl).to (v := u64 (k + 1)) (by rw [wrap_u64 (by omega)]; rfl)) rfl ?_
        refine OpsW.det (det_assign rfl) rfl ?_
        refine sLast ?_
        exact rEnd (k + 1) ⟨by omega, by omega, wild_zero hlt hw hc33⟩ ⟨rfl, rfl, rfl, trivial⟩ (List.Sublist.cons _ (List.Sublist.cons _ (List.Sublist.refl _))) (by omega)
  · skip
    have hge : ¬ k < n + 200 := by have h := hc13; simp only [decide_eq_false_iff_not] at h; omega
    refine sExit ?_
    refine xLoop ?_
    refine xHere ?_
    refine W.keep (F' := [(2, _)]) ⟨rfl, trivial⟩ ?_
    refine sSeq ?_
    refine W.region ?_
    refine OpsW.det (det_zero bz30) rfl ?_
    refine OpsW.store sz30 rfl rfl rfl rfl rfl (Upd.here) rfl ?_
    refine sNext ?_
    refine W.keep (F' := [(2, _)]) ⟨rfl, trivial⟩ ?_
    refine sRet ?_
    exact done1 Tryd.results24 (rv_cellA ty30 rfl (List.Mem.head _) rfl) (congrArg encP (wild_end hge hk2 hw))

end Go.Cu
