/-
  The first group's laws: what they share: the walks. Conditions: of the generator, what HeadOk says.
-/
import Derived.Test.YtbchpfmfiokbgaaDoorG1e
import Derived.Test.YtbchpfmfiokbgaaDoorFp7
namespace Go.Cu
open Go Go.Vm Go.RowKit Go.Proofs 
attribute [local irreducible] W OpsW Det Fresh New Writes Vm.Pure Makes Changes ExternTo BuildTo ZeroTo FieldTo IndexTo BinTo SliceTo Vm.Enters
set_option linter.unusedVariables false
set_option linter.unusedSimpArgs false
variable {T : Nat → TypeId × Nat × Nat}

theorem Plain_call {x : Fq} {w : World} (hG : Blocks (GH T) w) : Vm.Pure Tryd.prog 57 #[encF x, .agg #[u64 1, .int .u64 0, .int .u64 0, .int .u64 0, .int .u64 0, .int .u64 0]] w (enc6 x.val) := by
  have h := Mul_w_ok (X := mont x) (Y := 1) (mont_lt x) (by decide) hG
  rw [← of_words (n := 1) (by decide)]
  refine h.same (congrArg enc6 ?_)
  unfold mont
  rw [Nat.mul_one, Nat.mod_mul_mod, Nat.mul_assoc, Nat.mul_mod, show R6 * inv_pp % pp = 1 from by decide +kernel, Nat.mul_one, Nat.mod_mod, Nat.mod_eq_of_lt x.lt]
theorem fld28 {a b c d e f : Int} : FieldTo Tryd.prog 28 (.agg #[.int .u64 a, .int .u64 b, .int .u64 c, .int .u64 d, .int .u64 e, .int .u64 f]) 0 (.agg #[.int .u64 a, .int .u64 b, .int .u64 c, .int .u64 d, .int .u64 e, .int .u64 f]) := FieldTo.of fun _ => by kernel_rfl
def oddF (x : Fq) : Bool := ((lim x.val 0 % 2 ^ 1 : Nat) : Int) == 1
def lambdaB (p q r : Pt) : Bool := decide ((p.1 + q.1 + r.1) * ((q.1 - p.1) * (q.1 - p.1)) = (q.2 - p.2) * (q.2 - p.2))
def threeB (p : Pt) : Bool :=
  let s := p.1 * p.1 * (p.1 * p.1)
  let u := p.1 * (p.2 * p.2)
  let n := s + s + s
  let nine := n + n + n
  let v := u + u + u
  let w := v + v
  decide (nine = w + w)
theorem two_sl : SliceTo Tryd.prog 22 1 [(0, .int .u8 2)] (bcells [2] ++ []) 5 := SliceTo.of fun _ => by kernel_rfl
theorem two_small : ∀ c ∈ [2], c < 256 := by decide
/-- What the head asks of the generator. -/
structure HeadOk : Prop where
  h1 : onB gen = true
  h2 : onB (padd gen gen) = true
  h3 : (!decide (padd gen gen = gen)) = true
  h4 : (!decide (padd gen gen = (0, 0))) = true
  h5 : decide (times [2] gen = padd gen gen) = true
  h6 : decide (padd gen (pneg gen) = (0, 0)) = true
  h7 : oddF gen.1 = true

theorem en17 : Vm.Enters Tryd.prog 17 := Vm.Enters.of fun _ _ => by kernel_rfl
theorem en20 : Vm.Enters Tryd.prog 20 := Vm.Enters.of fun _ _ => by kernel_rfl
theorem en23 : Vm.Enters Tryd.prog 23 := Vm.Enters.of fun _ _ => by kernel_rfl
theorem en48 : Vm.Enters Tryd.prog 48 := Vm.Enters.of fun _ _ => by kernel_rfl
theorem en92 : Vm.Enters Tryd.prog 92 := Vm.Enters.of fun _ _ => by kernel_rfl
theorem Plain_ok {x : Fq} {w : World} (hG : Blocks (GH T) w)  : Vm.Pure Tryd.prog 92 #[encF x] w (enc6 x.val) := by
  refine pure_of_W (n := 8) (args := [encF x]) Tryd.func92 rfl Tryd.ntmps92 (Nat.le_of_ble_eq_true rfl) hG ?_
  refine sStart ?_
  refine sSeq ?_
  refine W.region ?_
  refine OpsW.fresh (fr_box rfl rfl) rfl fun b1 => ?_
  refine OpsW.fresh (fr_alloc z26) rfl fun b2 => ?_
  refine sNext ?_
  refine W.keep (F' := [(2, _), (1, _)]) ⟨rfl, rfl, trivial⟩ ?_
  refine sSeq ?_
  refine W.region ?_
  refine OpsW.det (det_loadA ty28 rfl (List.Mem.tail _ (List.Mem.head _)) rfl) rfl ?_
  refine OpsW.det (det_build rfl bld26_0) rfl ?_
  refine OpsW.det (det_build rfl bld28) rfl ?_
  refine OpsW.det (det_call en57 rfl (fun w hb ho => Plain_call ho.blocks)) rfl ?_
  refine OpsW.det (det_field rfl fld28) rfl ?_
  refine OpsW.store sz26 rfl rfl rfl rfl rfl (Upd.here) rfl ?_
  refine sNext ?_
  refine W.keep (F' := [(2, _)]) ⟨rfl, trivial⟩ ?_
  refine sRet ?_
  exact done1 Tryd.results92 (rv_cellA ty26 rfl (List.Mem.head _) rfl) rfl
theorem Odd_ok {x : Fq} {w : World} (hG : Blocks (GH T) w)  : Vm.Pure Tryd.prog 48 #[encF x] w (.bool (oddF x)) := by
  refine pure_of_W (n := 8) (args := [encF x]) Tryd.func48 rfl Tryd.ntmps48 (Nat.le_of_ble_eq_true rfl) hG ?_
  refine sStart ?_
  refine sSeq ?_
  refine W.region ?_
  refine OpsW.fresh (fr_box rfl rfl) rfl fun b1 => ?_
  refine OpsW.det (det_assign rfl) rfl ?_
  refine sNext ?_
  refine W.keep (F' := [(1, _)]) ⟨rfl, trivial⟩ ?_
  refine sSeq ?_
  refine W.region ?_
  refine OpsW.det (det_loadA ty28 rfl (List.Mem.head _) rfl) rfl ?_
  refine OpsW.det (det_call en92 rfl (fun w hb ho => Plain_ok ho.blocks)) rfl ?_
  refine OpsW.det (det_index rfl rfl (idx26 (m := x.val) (i := 0) (by decide))) rfl ?_
  refine OpsW.det (det_maskN (m := 1) (k := 1) rfl rfl (lim_lt _ _) rfl (by decide)) rfl ?_
  refine OpsW.det (det_eql rfl rfl) rfl ?_
  refine OpsW.det (det_assign rfl) rfl ?_
  refine sNext ?_
  refine W.keep (F' := [(2, _)]) ⟨rfl, trivial⟩ ?_
  refine sRet ?_
  exact done1 Tryd.results48 (rv_tmp rfl) rfl
theorem lambda_ok {p q r : Pt} {w : World} (hG : Blocks (GH T) w)  : Vm.Pure Tryd.prog 69 #[encP p, encP q, encP r] w (.bool (lambdaB p q r)) := by
  refine pure_of_W (n := 33) (args := [encP p, encP q, encP r]) Tryd.func69 rfl Tryd.ntmps69 (Nat.le_of_ble_eq_true rfl) hG ?_
  refine sStart ?_
  refine sSeq ?_
  refine W.region ?_
  refine OpsW.fresh (fr_box rfl rfl) rfl fun b3 => ?_
  refine OpsW.fresh (fr_box rfl rfl) rfl fun b4 => ?_
  refine OpsW.fresh (fr_box rfl rfl) rfl fun b5 => ?_
  refine OpsW.det (det_assign rfl) rfl ?_
  refine sNext ?_
  refine W.keep (F' := [(5, _), (4, _), (3, _)]) ⟨rfl, rfl, rfl, trivial⟩ ?_
  refine sSeq ?_
  refine W.region ?_
  refine OpsW.det (det_fieldAddr fl30_0 rfl) rfl ?_
  refine OpsW.det (det_loadA ty28 rfl (List.Mem.tail _ (List.Mem.head _)) rfl) rfl ?_
  refine OpsW.det (det_fieldAddr fl30_0 rfl) rfl ?_
  refine OpsW.det (det_loadA ty28 rfl (List.Mem.tail _ (List.Mem.tail _ (List.Mem.head _))) rfl) rfl ?_
  refine OpsW.det (det_call en67 rfl (fun w hb ho => Sub_ok ho.blocks)) rfl ?_
  refine OpsW.fresh (fr_alloc z28) rfl fun b7 => ?_
  refine OpsW.store sz28 rfl rfl rfl rfl rfl (Upd.here) rfl ?_
  refine sNext ?_
  refine W.keep (F' := [(7, _), (5, _), (4, _), (3, _)]) ⟨rfl, rfl, rfl, rfl, trivial⟩ ?_
  refine sSeq ?_
  refine W.region ?_
  refine OpsW.det (det_fieldAddr fl30_1 rfl) rfl ?_
  refine OpsW.det (det_loadA ty28 rfl (List.Mem.tail _ (List.Mem.tail _ (List.Mem.head _))) rfl) rfl ?_
  refine OpsW.det (det_fieldAddr fl30_1 rfl) rfl ?_
  refine OpsW.det (det_loadA ty28 rfl (List.Mem.tail _ (List.Mem.tail _ (List.Mem.tail _ (List.Mem.head _)))) rfl) rfl ?_
  refine OpsW.det (det_call en67 rfl (fun w hb ho => Sub_ok ho.blocks)) rfl ?_
  refine OpsW.fresh (fr_alloc z28) rfl fun b8 => ?_
  refine OpsW.store sz28 rfl rfl rfl rfl rfl (Upd.here) rfl ?_
  refine sNext ?_
  refine W.keep (F' := [(8, _), (7, _), (5, _), (4, _), (3, _)]) ⟨rfl, rfl, rfl, rfl, rfl, trivial⟩ ?_
  refine sSeq ?_
  refine W.draw mixed 15 [[], [0], [], [2], [0, 1, 2, 3], [], [5], [0, 1, 2, 3, 4, 5, 6], [], [0, 1, 2, 3, 4, 5, 6, 7, 8], [0, 1, 2, 3, 4, 5, 6, 7, 8, 9], [], [0, 1, 2, 3, 4, 5, 6, 7, 8, 9, 10, 11], [0, 1, 2, 3, 4, 5, 6, 7, 8, 9, 10, 11, 12], [0, 1, 2, 3, 4, 5, 6, 7, 8, 9, 10, 11, 12, 13]] (cl_lt (by decide)) ?_
  refine Head.det rfl (fun β hβ => Det.norm (F' := [(8, _), (7, _), (5, _), (4, _), (3, _)]) (H' := [(_, _), (_, _), (_, _), (_, _), (_, _)]) rfl rfl (det_fieldAddr fl30_0 rfl)) ?_
  refine Head.norm (k' := 1) (es' := [.det 19 _]) rfl rfl ?_
  refine Head.det rfl (fun β hβ => Det.norm (F' := [(19, _), (8, _), (7, _), (5, _), (4, _), (3, _)]) (H' := [(_, _), (_, _), (_, _), (_, _), (_, _)]) rfl rfl (det_loadA ty28 rfl (List.Mem.tail _ (List.Mem.tail _ (List.Mem.tail _ (List.Mem.tail _ (List.Mem.head _))))) rfl)) ?_
  refine Head.norm (k' := 2) (es' := [.det 19 _, .det 20 _]) rfl rfl ?_
  refine Head.det rfl (fun β hβ => Det.norm (F' := [(8, _), (7, _), (5, _), (4, _), (3, _)]) (H' := [(_, _), (_, _), (_, _), (_, _), (_, _)]) rfl rfl (det_fieldAddr fl30_0 rfl)) ?_
  refine Head.norm (k' := 3) (es' := [.det 19 _, .det 20 _, .det 21 _]) rfl rfl ?_
  refine Head.det rfl (fun β hβ => Det.norm (F' := [(21, _), (8, _), (7, _), (5, _), (4, _), (3, _)]) (H' := [(_, _), (_, _), (_, _), (_, _), (_, _)]) rfl rfl (det_loadA ty28 rfl (List.Mem.tail _ (List.Mem.tail _ (List.Mem.tail _ (List.Mem.head _)))) rfl)) ?_
  refine Head.norm (k' := 4) (es' := [.det 19 _, .det 20 _, .det 21 _, .det 22 _]) rfl rfl ?_
  refine Head.det rfl (fun β hβ => Det.norm (F' := [(19, _), (20, _), (21, _), (22, _), (8, _), (7, _), (5, _), (4, _), (3, _)]) (H' := [(_, _), (_, _), (_, _), (_, _), (_, _)]) rfl rfl (det_call en33 rfl (fun w hb ho => Add_ok ho.blocks))) ?_
  refine Head.norm (k' := 5) (es' := [.det 19 _, .det 20 _, .det 21 _, .det 22 _, .det 23 _]) rfl rfl ?_
  refine Head.det rfl (fun β hβ => Det.norm (F' := [(8, _), (7, _), (5, _), (4, _), (3, _)]) (H' := [(_, _), (_, _), (_, _), (_, _), (_, _)]) rfl rfl (det_fieldAddr fl30_0 rfl)) ?_
  refine Head.norm (k' := 6) (es' := [.det 19 _, .det 20 _, .det 21 _, .det 22 _, .det 23 _, .det 24 _]) rfl rfl ?_
  refine Head.det rfl (fun β hβ => Det.norm (F' := [(24, _), (8, _), (7, _), (5, _), (4, _), (3, _)]) (H' := [(_, _), (_, _), (_, _), (_, _), (_, _)]) rfl rfl (det_loadA ty28 rfl (List.Mem.tail _ (List.Mem.tail _ (List.Mem.head _))) rfl)) ?_
  refine Head.norm (k' := 7) (es' := [.det 19 _, .det 20 _, .det 21 _, .det 22 _, .det 23 _, .det 24 _, .det 25 _]) rfl rfl ?_
  refine Head.det rfl (fun β hβ => Det.norm (F' := [(19, _), (20, _), (21, _), (22, _), (23, _), (24, _), (25, _), (8, _), (7, _), (5, _), (4, _), (3, _)]) (H' := [(_, _), (_, _), (_, _), (_, _), (_, _)]) rfl rfl (det_call en33 rfl (fun w hb ho => Add_ok ho.blocks))) ?_
  refine Head.norm (k' := 8) (es' := [.det 19 _, .det 20 _, .det 21 _, .det 22 _, .det 23 _, .det 24 _, .det 25 _, .det 26 _]) rfl rfl ?_
  refine Head.det rfl (fun β hβ => Det.norm (F' := [(8, _), (7, _), (5, _), (4, _), (3, _)]) (H' := [(_, _), (_, _), (_, _), (_, _), (_, _)]) rfl rfl (det_loadA ty28 rfl (List.Mem.tail _ (List.Mem.head _)) rfl)) ?_
  refine Head.norm (k' := 9) (es' := [.det 19 _, .det 20 _, .det 21 _, .det 22 _, .det 23 _, .det 24 _, .det 25 _, .det 26 _, .det 27 _]) rfl rfl ?_
  refine Head.det rfl (fun β hβ => Det.norm (F' := [(19, _), (20, _), (21, _), (22, _), (23, _), (24, _), (25, _), (26, _), (27, _), (8, _), (7, _), (5, _), (4, _), (3, _)]) (H' := [(_, _), (_, _), (_, _), (_, _), (_, _)]) rfl rfl (det_call en56 rfl (fun w hb ho => Square_ok ho.blocks))) ?_
  refine Head.norm (k' := 10) (es' := [.det 19 _, .det 20 _, .det 21 _, .det 22 _, .det 23 _, .det 24 _, .det 25 _, .det 26 _, .det 27 _, .det 28 _]) rfl rfl ?_
  refine Head.det rfl (fun β hβ => Det.norm (F' := [(19, _), (20, _), (21, _), (22, _), (23, _), (24, _), (25, _), (26, _), (27, _), (28, _), (8, _), (7, _), (5, _), (4, _), (3, _)]) (H' := [(_, _), (_, _), (_, _), (_, _), (_, _)]) rfl rfl (det_call en57 rfl (fun w hb ho => Mul_ok ho.blocks))) ?_
  refine Head.norm (k' := 11) (es' := [.det 19 _, .det 20 _, .det 21 _, .det 22 _, .det 23 _, .det 24 _, .det 25 _, .det 26 _, .det 27 _, .det 28 _, .det 29 _]) rfl rfl ?_
  refine Head.det rfl (fun β hβ => Det.norm (F' := [(8, _), (7, _), (5, _), (4, _), (3, _)]) (H' := [(_, _), (_, _), (_, _), (_, _), (_, _)]) rfl rfl (det_loadA ty28 rfl (List.Mem.head _) rfl)) ?_
  refine Head.norm (k' := 12) (es' := [.det 19 _, .det 20 _, .det 21 _, .det 22 _, .det 23 _, .det 24 _, .det 25 _, .det 26 _, .det 27 _, .det 28 _, .det 29 _, .det 30 _]) rfl rfl ?_
  refine Head.det rfl (fun β hβ => Det.norm (F' := [(19, _), (20, _), (21, _), (22, _), (23, _), (24, _), (25, _), (26, _), (27, _), (28, _), (29, _), (30, _), (8, _), (7, _), (5, _), (4, _), (3, _)]) (H' := [(_, _), (_, _), (_, _), (_, _), (_, _)]) rfl rfl (det_call en56 rfl (fun w hb ho => Square_ok ho.blocks))) ?_
  refine Head.norm (k' := 13) (es' := [.det 19 _, .det 20 _, .det 21 _, .det 22 _, .det 23 _, .det 24 _, .det 25 _, .det 26 _, .det 27 _, .det 28 _, .det 29 _, .det 30 _, .det 31 _]) rfl rfl ?_
  refine Head.det rfl (fun β hβ => Det.norm (F' := [(19, _), (20, _), (21, _), (22, _), (23, _), (24, _), (25, _), (26, _), (27, _), (28, _), (29, _), (30, _), (31, _), (8, _), (7, _), (5, _), (4, _), (3, _)]) (H' := [(_, _), (_, _), (_, _), (_, _), (_, _)]) rfl rfl (det_eql28 rfl rfl)) ?_
  refine Head.norm (k' := 14) (es' := [.det 19 _, .det 20 _, .det 21 _, .det 22 _, .det 23 _, .det 24 _, .det 25 _, .det 26 _, .det 27 _, .det 28 _, .det 29 _, .det 30 _, .det 31 _, .det 32 _]) rfl rfl ?_
  refine Head.det rfl (fun β hβ => Det.norm (F' := [(19, _), (20, _), (21, _), (22, _), (23, _), (24, _), (25, _), (26, _), (27, _), (28, _), (29, _), (30, _), (31, _), (32, _), (8, _), (7, _), (5, _), (4, _), (3, _)]) (H' := [(_, _), (_, _), (_, _), (_, _), (_, _)]) rfl rfl (det_assign rfl)) ?_
  refine Head.norm (k' := 15) (es' := [.det 19 _, .det 20 _, .det 21 _, .det 22 _, .det 23 _, .det 24 _, .det 25 _, .det 26 _, .det 27 _, .det 28 _, .det 29 _, .det 30 _, .det 31 _, .det 32 _, .det 6 _]) rfl rfl ?_
  refine Head.done ⟨by kernel_rfl, fun β hβ => ?_⟩
  refine OpsW.norm (F' := [(19, _), (20, _), (21, _), (22, _), (23, _), (24, _), (25, _), (26, _), (27, _), (28, _), (29, _), (30, _), (31, _), (32, _), (6, _), (8, _), (7, _), (5, _), (4, _), (3, _)]) (H' := [(_, _), (_, _), (_, _), (_, _), (_, _)]) rfl rfl ?_
  refine sNext ?_
  refine W.keep (F' := [(6, _)]) ⟨rfl, trivial⟩ ?_
  refine sRet ?_
  exact done1 Tryd.results69 (rv_tmp rfl) rfl
theorem three_ok {p : Pt} {w : World} (hG : Blocks (GH T) w)  : Vm.Pure Tryd.prog 68 #[encP p] w (.bool (threeB p)) := by
  refine pure_of_W (n := 40) (args := [encP p]) Tryd.func68 rfl Tryd.ntmps68 (Nat.le_of_ble_eq_true rfl) hG ?_
  refine sStart ?_
  refine sSeq ?_
  refine W.region ?_
  refine OpsW.fresh (fr_box rfl rfl) rfl fun b1 => ?_
  refine OpsW.det (det_assign rfl) rfl ?_
  refine sNext ?_
  refine W.keep (F' := [(1, _)]) ⟨rfl, trivial⟩ ?_
  refine sSeq ?_
  refine W.region ?_
  refine OpsW.det (det_fieldAddr fl30_0 rfl) rfl ?_
  refine OpsW.det (det_loadA ty28 rfl (List.Mem.head _) rfl) rfl ?_
  refine OpsW.det (det_call en56 rfl (fun w hb ho => Square_ok ho.blocks)) rfl ?_
  refine OpsW.det (det_call en56 rfl (fun w hb ho => Square_ok ho.blocks)) rfl ?_
  refine OpsW.fresh (fr_alloc z28) rfl fun b3 => ?_
  refine OpsW.store sz28 rfl rfl rfl rfl rfl (Upd.here) rfl ?_
  refine sNext ?_
  refine W.keep (F' := [(3, _), (1, _)]) ⟨rfl, rfl, trivial⟩ ?_
  refine sSeq ?_
  refine W.draw mixed 7 [[], [0], [], [2], [2, 3], [0, 1, 2, 3, 4], [], [0, 1, 2, 3, 4, 5, 6]] (cl_lt (by decide)) ?_
  refine Head.det rfl (fun β hβ => Det.norm (F' := [(3, _), (1, _)]) (H' := [(_, _), (_, _)]) rfl rfl (det_fieldAddr fl30_0 rfl)) ?_
  refine Head.norm (k' := 1) (es' := [.det 11 _]) rfl rfl ?_
  refine Head.det rfl (fun β hβ => Det.norm (F' := [(11, _), (3, _), (1, _)]) (H' := [(_, _), (_, _)]) rfl rfl (det_loadA ty28 rfl (List.Mem.tail _ (List.Mem.head _)) rfl)) ?_
  refine Head.norm (k' := 2) (es' := [.det 11 _, .det 12 _]) rfl rfl ?_
  refine Head.det rfl (fun β hβ => Det.norm (F' := [(3, _), (1, _)]) (H' := [(_, _), (_, _)]) rfl rfl (det_fieldAddr fl30_1 rfl)) ?_
  refine Head.norm (k' := 3) (es' := [.det 11 _, .det 12 _, .det 13 _]) rfl rfl ?_
  refine Head.det rfl (fun β hβ => Det.norm (F' := [(13, _), (3, _), (1, _)]) (H' := [(_, _), (_, _)]) rfl rfl (det_loadA ty28 rfl (List.Mem.tail _ (List.Mem.head _)) rfl)) ?_
  refine Head.norm (k' := 4) (es' := [.det 11 _, .det 12 _, .det 13 _, .det 14 _]) rfl rfl ?_
  refine Head.det rfl (fun β hβ => Det.norm (F' := [(13, _), (14, _), (3, _), (1, _)]) (H' := [(_, _), (_, _)]) rfl rfl (det_call en56 rfl (fun w hb ho => Square_ok ho.blocks))) ?_
  refine Head.norm (k' := 5) (es' := [.det 11 _, .det 12 _, .det 13 _, .det 14 _, .det 15 _]) rfl rfl ?_
  refine Head.det rfl (fun β hβ => Det.norm (F' := [(11, _), (12, _), (13, _), (14, _), (15, _), (3, _), (1, _)]) (H' := [(_, _), (_, _)]) rfl rfl (det_call en57 rfl (fun w hb ho => Mul_ok ho.blocks))) ?_
  refine Head.norm (k' := 6) (es' := [.det 11 _, .det 12 _, .det 13 _, .det 14 _, .det 15 _, .det 16 _]) rfl rfl ?_
  refine Head.fresh rfl (fun β hβ => New.norm (F' := [(3, _), (1, _)]) (H' := [(_, _), (_, _)]) rfl rfl (fr_alloc z28).new) ?_
  refine Head.norm (k' := 7) (es' := [.det 11 _, .det 12 _, .det 13 _, .det 14 _, .det 15 _, .det 16 _, .fresh 4 _ _ _]) rfl rfl ?_
  refine Head.done ⟨by kernel_rfl, fun β hβ => ?_⟩
  refine OpsW.norm (F' := [(11, _), (12, _), (13, _), (14, _), (15, _), (16, _), (4, .pointer (some ⟨(β 4).1, 0, none⟩)), (3, _), (1, _)]) (H' := [(_, _), (_, _), (_, _)]) rfl rfl ?_
  generalize (β 4).1 = b4
  refine OpsW.store sz28 rfl rfl rfl rfl rfl (Upd.here) rfl ?_
  refine sNext ?_
  refine W.keep (F' := [(4, _), (3, _)]) ⟨rfl, rfl, trivial⟩ ?_
  refine sSeq ?_
  refine W.draw mixed 6 [[], [], [0, 1], [], [0, 1, 2, 3], [], [0, 1, 2, 3, 4, 5]] (cl_lt (by decide)) ?_
  refine Head.det rfl (fun β hβ => Det.norm (F' := [(4, _), (3, _)]) (H' := [(_, _), (_, _), (_, _)]) rfl rfl (det_loadA ty28 rfl (List.Mem.tail _ (List.Mem.head _)) rfl)) ?_
  refine Head.norm (k' := 1) (es' := [.det 17 _]) rfl rfl ?_
  refine Head.det rfl (fun β hβ => Det.norm (F' := [(4, _), (3, _)]) (H' := [(_, _), (_, _), (_, _)]) rfl rfl (det_loadA ty28 rfl (List.Mem.tail _ (List.Mem.head _)) rfl)) ?_
  refine Head.norm (k' := 2) (es' := [.det 17 _, .det 18 _]) rfl rfl ?_
  refine Head.det rfl (fun β hβ => Det.norm (F' := [(17, _), (18, _), (4, _), (3, _)]) (H' := [(_, _), (_, _), (_, _)]) rfl rfl (det_call en33 rfl (fun w hb ho => Add_ok ho.blocks))) ?_
  refine Head.norm (k' := 3) (es' := [.det 17 _, .det 18 _, .det 19 _]) rfl rfl ?_
  refine Head.det rfl (fun β hβ => Det.norm (F' := [(4, _), (3, _)]) (H' := [(_, _), (_, _), (_, _)]) rfl rfl (det_loadA ty28 rfl (List.Mem.tail _ (List.Mem.head _)) rfl)) ?_
  refine Head.norm (k' := 4) (es' := [.det 17 _, .det 18 _, .det 19 _, .det 20 _]) rfl rfl ?_
  refine Head.det rfl (fun β hβ => Det.norm (F' := [(17, _), (18, _), (19, _), (20, _), (4, _), (3, _)]) (H' := [(_, _), (_, _), (_, _)]) rfl rfl (det_call en33 rfl (fun w hb ho => Add_ok ho.blocks))) ?_
  refine Head.norm (k' := 5) (es' := [.det 17 _, .det 18 _, .det 19 _, .det 20 _, .det 21 _]) rfl rfl ?_
  refine Head.fresh rfl (fun β hβ => New.norm (F' := [(4, _), (3, _)]) (H' := [(_, _), (_, _), (_, _)]) rfl rfl (fr_alloc z28).new) ?_
  refine Head.norm (k' := 6) (es' := [.det 17 _, .det 18 _, .det 19 _, .det 20 _, .det 21 _, .fresh 5 _ _ _]) rfl rfl ?_
  refine Head.done ⟨by kernel_rfl, fun β hβ => ?_⟩
  refine OpsW.norm (F' := [(17, _), (18, _), (19, _), (20, _), (21, _), (5, .pointer (some ⟨(β 5).1, 0, none⟩)), (4, _), (3, _)]) (H' := [(_, _), (_, _), (_, _), (_, _)]) rfl rfl ?_
  generalize (β 5).1 = b5
  refine OpsW.store sz28 rfl rfl rfl rfl rfl (Upd.here) rfl ?_
  refine sNext ?_
  refine W.keep (F' := [(5, _), (4, _)]) ⟨rfl, rfl, trivial⟩ ?_
  refine sSeq ?_
  refine W.draw mixed 5 [[], [], [0, 1], [], [0, 1, 2, 3], [0, 1, 2, 3, 4]] (cl_lt (by decide)) ?_
  refine Head.det rfl (fun β hβ => Det.norm (F' := [(5, _), (4, _)]) (H' := [(_, _), (_, _), (_, _), (_, _)]) rfl rfl (det_loadA ty28 rfl (List.Mem.head _) rfl)) ?_
  refine Head.norm (k' := 1) (es' := [.det 22 _]) rfl rfl ?_
  refine Head.det rfl (fun β hβ => Det.norm (F' := [(5, _), (4, _)]) (H' := [(_, _), (_, _), (_, _), (_, _)]) rfl rfl (det_loadA ty28 rfl (List.Mem.head _) rfl)) ?_
  refine Head.norm (k' := 2) (es' := [.det 22 _, .det 23 _]) rfl rfl ?_
  refine Head.det rfl (fun β hβ => Det.norm (F' := [(22, _), (23, _), (5, _), (4, _)]) (H' := [(_, _), (_, _), (_, _), (_, _)]) rfl rfl (det_call en33 rfl (fun w hb ho => Add_ok ho.blocks))) ?_
  refine Head.norm (k' := 3) (es' := [.det 22 _, .det 23 _, .det 24 _]) rfl rfl ?_
  refine Head.det rfl (fun β hβ => Det.norm (F' := [(5, _), (4, _)]) (H' := [(_, _), (_, _), (_, _), (_, _)]) rfl rfl (det_loadA ty28 rfl (List.Mem.head _) rfl)) ?_
  refine Head.norm (k' := 4) (es' := [.det 22 _, .det 23 _, .det 24 _, .det 25 _]) rfl rfl ?_
  refine Head.det rfl (fun β hβ => Det.norm (F' := [(22, _), (23, _), (24, _), (25, _), (5, _), (4, _)]) (H' := [(_, _), (_, _), (_, _), (_, _)]) rfl rfl (det_call en33 rfl (fun w hb ho => Add_ok ho.blocks))) ?_
  refine Head.norm (k' := 5) (es' := [.det 22 _, .det 23 _, .det 24 _, .det 25 _, .det 26 _]) rfl rfl ?_
  refine Head.done ⟨by kernel_rfl, fun β hβ => ?_⟩
  refine OpsW.norm (F' := [(22, _), (23, _), (24, _), (25, _), (26, _), (5, _), (4, _)]) (H' := [(_, _), (_, _), (_, _), (_, _)]) rfl rfl ?_
  refine OpsW.store sz28 rfl rfl rfl rfl rfl (Upd.here) rfl ?_
  refine sNext ?_
  refine W.keep (F' := [(5, _), (4, _)]) ⟨rfl, rfl, trivial⟩ ?_
  refine sSeq ?_
  refine W.draw mixed 6 [[], [], [0, 1], [], [0, 1, 2, 3], [], [0, 1, 2, 3, 4, 5]] (cl_lt (by decide)) ?_
  refine Head.det rfl (fun β hβ => Det.norm (F' := [(5, _), (4, _)]) (H' := [(_, _), (_, _), (_, _), (_, _)]) rfl rfl (det_loadA ty28 rfl (List.Mem.tail _ (List.Mem.head _)) rfl)) ?_
  refine Head.norm (k' := 1) (es' := [.det 27 _]) rfl rfl ?_
  refine Head.det rfl (fun β hβ => Det.norm (F' := [(5, _), (4, _)]) (H' := [(_, _), (_, _), (_, _), (_, _)]) rfl rfl (det_loadA ty28 rfl (List.Mem.tail _ (List.Mem.head _)) rfl)) ?_
  refine Head.norm (k' := 2) (es' := [.det 27 _, .det 28 _]) rfl rfl ?_
  refine Head.det rfl (fun β hβ => Det.norm (F' := [(27, _), (28, _), (5, _), (4, _)]) (H' := [(_, _), (_, _), (_, _), (_, _)]) rfl rfl (det_call en33 rfl (fun w hb ho => Add_ok ho.blocks))) ?_
  refine Head.norm (k' := 3) (es' := [.det 27 _, .det 28 _, .det 29 _]) rfl rfl ?_
  refine Head.det rfl (fun β hβ => Det.norm (F' := [(5, _), (4, _)]) (H' := [(_, _), (_, _), (_, _), (_, _)]) rfl rfl (det_loadA ty28 rfl (List.Mem.tail _ (List.Mem.head _)) rfl)) ?_
  refine Head.norm (k' := 4) (es' := [.det 27 _, .det 28 _, .det 29 _, .det 30 _]) rfl rfl ?_
  refine Head.det rfl (fun β hβ => Det.norm (F' := [(27, _), (28, _), (29, _), (30, _), (5, _), (4, _)]) (H' := [(_, _), (_, _), (_, _), (_, _)]) rfl rfl (det_call en33 rfl (fun w hb ho => Add_ok ho.blocks))) ?_
  refine Head.norm (k' := 5) (es' := [.det 27 _, .det 28 _, .det 29 _, .det 30 _, .det 31 _]) rfl rfl ?_
  refine Head.fresh rfl (fun β hβ => New.norm (F' := [(5, _), (4, _)]) (H' := [(_, _), (_, _), (_, _), (_, _)]) rfl rfl (fr_alloc z28).new) ?_
  refine Head.norm (k' := 6) (es' := [.det 27 _, .det 28 _, .det 29 _, .det 30 _, .det 31 _, .fresh 6 _ _ _]) rfl rfl ?_
  refine Head.done ⟨by kernel_rfl, fun β hβ => ?_⟩
  refine OpsW.norm (F' := [(27, _), (28, _), (29, _), (30, _), (31, _), (6, .pointer (some ⟨(β 6).1, 0, none⟩)), (5, _), (4, _)]) (H' := [(_, _), (_, _), (_, _), (_, _), (_, _)]) rfl rfl ?_
  generalize (β 6).1 = b6
  refine OpsW.store sz28 rfl rfl rfl rfl rfl (Upd.here) rfl ?_
  refine sNext ?_
  refine W.keep (F' := [(6, _), (5, _)]) ⟨rfl, rfl, trivial⟩ ?_
  refine sSeq ?_
  refine W.region ?_
  refine OpsW.det (det_loadA ty28 rfl (List.Mem.head _) rfl) rfl ?_
  refine OpsW.det (det_loadA ty28 rfl (List.Mem.head _) rfl) rfl ?_
  refine OpsW.det (det_call en33 rfl (fun w hb ho => Add_ok ho.blocks)) rfl ?_
  refine OpsW.store sz28 rfl rfl rfl rfl rfl (Upd.here) rfl ?_
  refine sNext ?_
  refine W.keep (F' := [(6, _), (5, _)]) ⟨rfl, rfl, trivial⟩ ?_
  refine sSeq ?_
  refine W.draw mixed 6 [[], [], [], [1, 2], [0, 1, 2, 3], [0, 1, 2, 3, 4]] (cl_lt (by decide)) ?_
  refine Head.det rfl (fun β hβ => Det.norm (F' := [(6, _), (5, _)]) (H' := [(_, _), (_, _), (_, _), (_, _), (_, _)]) rfl rfl (det_loadA ty28 rfl (List.Mem.tail _ (List.Mem.head _)) rfl)) ?_
  refine Head.norm (k' := 1) (es' := [.det 35 _]) rfl rfl ?_
  refine Head.det rfl (fun β hβ => Det.norm (F' := [(6, _), (5, _)]) (H' := [(_, _), (_, _), (_, _), (_, _), (_, _)]) rfl rfl (det_loadA ty28 rfl (List.Mem.head _) rfl)) ?_
  refine Head.norm (k' := 2) (es' := [.det 35 _, .det 36 _]) rfl rfl ?_
  refine Head.det rfl (fun β hβ => Det.norm (F' := [(6, _), (5, _)]) (H' := [(_, _), (_, _), (_, _), (_, _), (_, _)]) rfl rfl (det_loadA ty28 rfl (List.Mem.head _) rfl)) ?_
  refine Head.norm (k' := 3) (es' := [.det 35 _, .det 36 _, .det 37 _]) rfl rfl ?_
  refine Head.det rfl (fun β hβ => Det.norm (F' := [(36, _), (37, _), (6, _), (5, _)]) (H' := [(_, _), (_, _), (_, _), (_, _), (_, _)]) rfl rfl (det_call en33 rfl (fun w hb ho => Add_ok ho.blocks))) ?_
  refine Head.norm (k' := 4) (es' := [.det 35 _, .det 36 _, .det 37 _, .det 38 _]) rfl rfl ?_
  refine Head.det rfl (fun β hβ => Det.norm (F' := [(35, _), (36, _), (37, _), (38, _), (6, _), (5, _)]) (H' := [(_, _), (_, _), (_, _), (_, _), (_, _)]) rfl rfl (det_eql28 rfl rfl)) ?_
  refine Head.norm (k' := 5) (es' := [.det 35 _, .det 36 _, .det 37 _, .det 38 _, .det 39 _]) rfl rfl ?_
  refine Head.det rfl (fun β hβ => Det.norm (F' := [(35, _), (36, _), (37, _), (38, _), (39, _), (6, _), (5, _)]) (H' := [(_, _), (_, _), (_, _), (_, _), (_, _)]) rfl rfl (det_assign rfl)) ?_
  refine Head.norm (k' := 6) (es' := [.det 35 _, .det 36 _, .det 37 _, .det 38 _, .det 39 _, .det 2 _]) rfl rfl ?_
  refine Head.done ⟨by kernel_rfl, fun β hβ => ?_⟩
  refine OpsW.norm (F' := [(35, _), (36, _), (37, _), (38, _), (39, _), (2, _), (6, _), (5, _)]) (H' := [(_, _), (_, _), (_, _), (_, _), (_, _)]) rfl rfl ?_
  refine sNext ?_
  refine W.keep (F' := [(2, _)]) ⟨rfl, trivial⟩ ?_
  refine sRet ?_
  exact done1 Tryd.results68 (rv_tmp rfl) rfl
theorem head_ok (hh : HeadOk) {w : World} (hG : Blocks (GH T) w)  : Vm.Pure Tryd.prog 15 #[] w (.bool true) := by
  refine pure_of_W (n := 43) (args := []) Tryd.func15 rfl Tryd.ntmps15 (Nat.le_of_ble_eq_true rfl) hG ?_
  refine sStart ?_
  refine sSeq ?_
  refine W.region ?_
  refine OpsW.det (det_assign rfl) rfl ?_
  refine sNext ?_
  refine W.keep (F' := []) trivial ?_
  refine sSeq ?_
  refine W.region ?_
  refine OpsW.det (det_call en17 rfl (fun w hb ho => Gen_ok ho.blocks)) rfl ?_
  refine OpsW.fresh (fr_alloc z30) rfl fun b1 => ?_
  refine OpsW.store sz30 rfl rfl rfl rfl rfl (Upd.here) rfl ?_
  refine sNext ?_
  refine W.keep (F' := [(1, _)]) ⟨rfl, trivial⟩ ?_
  refine sSeq ?_
  refine W.region ?_
  refine OpsW.det (det_loadA ty30 rfl (List.Mem.head _) rfl) rfl ?_
  refine OpsW.det (det_loadA ty30 rfl (List.Mem.head _) rfl) rfl ?_
  refine OpsW.det (det_call en20 rfl (fun w hb ho => PAdd_ok ho.blocks)) rfl ?_
  refine OpsW.fresh (fr_alloc z30) rfl fun b2 => ?_
  refine OpsW.store sz30 rfl rfl rfl rfl rfl (Upd.here) rfl ?_
  refine sNext ?_
  refine W.keep (F' := [(2, _), (1, _)]) ⟨rfl, rfl, trivial⟩ ?_
  refine sSeq ?_
  refine W.draw mixed 37 [[], [0], [0, 1], [0, 1, 2], [0, 1, 2, 3], [0, 1, 2, 3, 4], [0, 1, 2, 3, 4, 5], [0, 1, 2, 3, 4, 5, 6], [0, 1, 2, 3, 4, 5, 6], [0, 1, 2, 3, 4, 5, 6, 7, 8], [0, 1, 2, 3, 4, 5, 6, 7, 8, 9], [0, 1, 2, 3, 4, 5, 6, 7, 8, 9, 10], [0, 1, 2, 3, 4, 5, 6, 7, 8, 9, 10, 11], [0, 1, 2, 3, 4, 5, 6, 7, 8, 9, 10, 11], [0, 1, 2, 3, 4, 5, 6, 7, 8, 9, 10, 11, 12, 13], [0, 1, 2, 3, 4, 5, 6, 7, 8, 9, 10, 11, 12, 13, 14], [0, 1, 2, 3, 4, 5, 6, 7, 8, 9, 10, 11, 12, 13, 14, 15], [0, 1, 2, 3, 4, 5, 6, 7, 8, 9, 10, 11, 12, 13, 14, 15, 16], [0, 1, 2, 3, 4, 5, 6, 7, 8, 9, 10, 11, 12, 13, 14, 15, 16], [0, 1, 2, 3, 4, 5, 6, 7, 8, 9, 10, 11, 12, 13, 14, 15, 16, 17, 18], [0, 1, 2, 3, 4, 5, 6, 7, 8, 9, 10, 11, 12, 13, 14, 15, 16], [0, 1, 2, 3, 4, 5, 6, 7, 8, 9, 10, 11, 12, 13, 14, 15, 16, 17, 18, 19, 20], [0, 1, 2, 3, 4, 5, 6, 7, 8, 9, 10, 11, 12, 13, 14, 15, 16, 17, 18, 19, 20, 21], [0, 1, 2, 3, 4, 5, 6, 7, 8, 9, 10, 11, 12, 13, 14, 15, 16, 17, 18, 19, 20, 21, 22], [0, 1, 2, 3, 4, 5, 6, 7, 8, 9, 10, 11, 12, 13, 14, 15, 16, 17, 18, 19, 20, 21, 22, 23], [0, 1, 2, 3, 4, 5, 6, 7, 8, 9, 10, 11, 12, 13, 14, 15, 16, 17, 18, 19, 20, 21, 22, 23], [0, 1, 2, 3, 4, 5, 6, 7, 8, 9, 10, 11, 12, 13, 14, 15, 16, 17, 18, 19, 20, 21, 22, 23, 25], [0, 1, 2, 3, 4, 5, 6, 7, 8, 9, 10, 11, 12, 13, 14, 15, 16, 17, 18, 19, 20, 21, 22, 23, 24, 25, 26], [0, 1, 2, 3, 4, 5, 6, 7, 8, 9, 10, 11, 12, 13, 14, 15, 16, 17, 18, 19, 20, 21, 22, 23], [0, 1, 2, 3, 4, 5, 6, 7, 8, 9, 10, 11, 12, 13, 14, 15, 16, 17, 18, 19, 20, 21, 22, 23, 24, 25, 26, 27, 28], [0, 1, 2, 3, 4, 5, 6, 7, 8, 9, 10, 11, 12, 13, 14, 15, 16, 17, 18, 19, 20, 21, 22, 23, 24, 25, 26, 27, 28, 29], [0, 1, 2, 3, 4, 5, 6, 7, 8, 9, 10, 11, 12, 13, 14, 15, 16, 17, 18, 19, 20, 21, 22, 23, 24, 25, 26, 27, 28, 29, 30], [0, 1, 2, 3, 4, 5, 6, 7, 8, 9, 10, 11, 12, 13, 14, 15, 16, 17, 18, 19, 20, 21, 22, 23, 24, 25, 26, 27, 28, 29, 30, 31], [0, 1, 2, 3, 4, 5, 6, 7, 8, 9, 10, 11, 12, 13, 14, 15, 16, 17, 18, 19, 20, 21, 22, 23, 24, 25, 26, 27, 28, 29, 30, 31, 32], [0, 1, 2, 3, 4, 5, 6, 7, 8, 9, 10, 11, 12, 13, 14, 15, 16, 17, 18, 19, 20, 21, 22, 23, 24, 25, 26, 27, 28, 29, 30, 31, 32, 33], [0, 1, 2, 3, 4, 5, 6, 7, 8, 9, 10, 11, 12, 13, 14, 15, 16, 17, 18, 19, 20, 21, 22, 23, 24, 25, 26, 27, 28, 29, 30, 31, 32, 33, 34], [0, 1, 2, 3, 4, 5, 6, 7, 8, 9, 10, 11, 12, 13, 14, 15, 16, 17, 18, 19, 20, 21, 22, 23, 24, 25, 26, 27, 28, 29, 30, 31, 32, 33, 34, 35]] (cl_lt (by decide)) ?_
  refine Head.det rfl (fun β hβ => Det.norm (F' := [(2, _), (1, _)]) (H' := [(_, _), (_, _)]) rfl rfl (det_loadA ty30 rfl (List.Mem.tail _ (List.Mem.head _)) rfl)) ?_
  refine Head.norm (k' := 1) (es' := [.det 7 _]) rfl rfl ?_
  refine Head.det rfl (fun β hβ => Det.norm (F' := [(7, _), (2, _), (1, _)]) (H' := [(_, _), (_, _)]) rfl rfl ((det_call en23 rfl (fun w hb ho => POn_ok (p := gen) ho.blocks)).to (congrArg Value.bool hh.h1))) ?_
  refine Head.norm (k' := 2) (es' := [.det 7 _, .det 8 _]) rfl rfl ?_
  refine Head.det rfl (fun β hβ => Det.norm (F' := [(7, _), (8, _), (2, _), (1, _)]) (H' := [(_, _), (_, _)]) rfl rfl (det_move rfl)) ?_
  refine Head.norm (k' := 3) (es' := [.det 7 _, .det 8 _, .det 9 _]) rfl rfl ?_
  refine Head.yes rfl rfl (fun _ _ => rfl) (fun β hβ => Det.norm (F' := [(7, _), (8, _), (9, _), (2, _), (1, _)]) (H' := [(_, _), (_, _)]) rfl rfl (det_loadA ty30 rfl (List.Mem.head _) rfl)) ?_
  refine Head.norm (k' := 4) (es' := [.det 7 _, .det 8 _, .det 9 _, .det 10 _]) rfl rfl ?_
  refine Head.yes rfl rfl (fun _ _ => rfl) (fun β hβ => Det.norm (F' := [(7, _), (8, _), (9, _), (10, _), (2, _), (1, _)]) (H' := [(_, _), (_, _)]) rfl rfl ((det_call en23 rfl (fun w hb ho => POn_ok (p := padd gen gen) ho.blocks)).to (congrArg Value.bool hh.h2))) ?_
  refine Head.norm (k' := 5) (es' := [.det 7 _, .det 8 _, .det 9 _, .det 10 _, .det 11 _]) rfl rfl ?_
  refine Head.det rfl (fun β hβ => Det.norm (F' := [(7, _), (8, _), (9, _), (10, _), (11, _), (2, _), (1, _)]) (H' := [(_, _), (_, _)]) rfl rfl (det_pick rfl rfl)) ?_
  refine Head.norm (k' := 6) (es' := [.det 7 _, .det 8 _, .det 9 _, .det 10 _, .det 11 _, .det 12 _]) rfl rfl ?_
  refine Head.det rfl (fun β hβ => Det.norm (F' := [(7, _), (8, _), (9, _), (10, _), (11, _), (12, _), (2, _), (1, _)]) (H' := [(_, _), (_, _)]) rfl rfl (det_move rfl)) ?_
  refine Head.norm (k' := 7) (es' := [.det 7 _, .det 8 _, .det 9 _, .det 10 _, .det 11 _, .det 12 _, .det 13 _]) rfl rfl ?_
  refine Head.yes rfl rfl (fun _ _ => rfl) (fun β hβ => Det.norm (F' := [(7, _), (8, _), (9, _), (10, _), (11, _), (12, _), (13, _), (2, _), (1, _)]) (H' := [(_, _), (_, _)]) rfl rfl (det_loadA ty30 rfl (List.Mem.head _) rfl)) ?_
  refine Head.norm (k' := 8) (es' := [.det 7 _, .det 8 _, .det 9 _, .det 10 _, .det 11 _, .det 12 _, .det 13 _, .det 14 _]) rfl rfl ?_
  refine Head.yes rfl rfl (fun _ _ => rfl) (fun β hβ => Det.norm (F' := [(7, _), (8, _), (9, _), (10, _), (11, _), (12, _), (13, _), (2, _), (1, _)]) (H' := [(_, _), (_, _)]) rfl rfl (det_loadA ty30 rfl (List.Mem.tail _ (List.Mem.head _)) rfl)) ?_
  refine Head.norm (k' := 9) (es' := [.det 7 _, .det 8 _, .det 9 _, .det 10 _, .det 11 _, .det 12 _, .det 13 _, .det 14 _, .det 15 _]) rfl rfl ?_
  refine Head.yes rfl rfl (fun _ _ => rfl) (fun β hβ => Det.norm (F' := [(7, _), (8, _), (9, _), (10, _), (11, _), (12, _), (13, _), (14, _), (15, _), (2, _), (1, _)]) (H' := [(_, _), (_, _)]) rfl rfl ((det_neq30 (a := padd gen gen) (b := gen) rfl rfl).to (congrArg Value.bool hh.h3))) ?_
  refine Head.norm (k' := 10) (es' := [.det 7 _, .det 8 _, .det 9 _, .det 10 _, .det 11 _, .det 12 _, .det 13 _, .det 14 _, .det 15 _, .det 16 _]) rfl rfl ?_
  refine Head.det rfl (fun β hβ => Det.norm (F' := [(7, _), (8, _), (9, _), (10, _), (11, _), (12, _), (13, _), (14, _), (15, _), (16, _), (2, _), (1, _)]) (H' := [(_, _), (_, _)]) rfl rfl (det_pick rfl rfl)) ?_
  refine Head.norm (k' := 11) (es' := [.det 7 _, .det 8 _, .det 9 _, .det 10 _, .det 11 _, .det 12 _, .det 13 _, .det 14 _, .det 15 _, .det 16 _, .det 17 _]) rfl rfl ?_
  refine Head.det rfl (fun β hβ => Det.norm (F' := [(7, _), (8, _), (9, _), (10, _), (11, _), (12, _), (13, _), (14, _), (15, _), (16, _), (17, _), (2, _), (1, _)]) (H' := [(_, _), (_, _)]) rfl rfl (det_move rfl)) ?_
  refine Head.norm (k' := 12) (es' := [.det 7 _, .det 8 _, .det 9 _, .det 10 _, .det 11 _, .det 12 _, .det 13 _, .det 14 _, .det 15 _, .det 16 _, .det 17 _, .det 18 _]) rfl rfl ?_
  refine Head.yes rfl rfl (fun _ _ => rfl) (fun β hβ => Det.norm (F' := [(7, _), (8, _), (9, _), (10, _), (11, _), (12, _), (13, _), (14, _), (15, _), (16, _), (17, _), (18, _), (2, _), (1, _)]) (H' := [(_, _), (_, _)]) rfl rfl (det_loadA ty30 rfl (List.Mem.head _) rfl)) ?_
  refine Head.norm (k' := 13) (es' := [.det 7 _, .det 8 _, .det 9 _, .det 10 _, .det 11 _, .det 12 _, .det 13 _, .det 14 _, .det 15 _, .det 16 _, .det 17 _, .det 18 _, .det 19 _]) rfl rfl ?_
  refine Head.yes rfl rfl (fun _ _ => rfl) (fun β hβ => Det.norm (F' := [(7, _), (8, _), (9, _), (10, _), (11, _), (12, _), (13, _), (14, _), (15, _), (16, _), (17, _), (18, _), (2, _), (1, _)]) (H' := [(_, _), (_, _)]) rfl rfl (det_zero bz30)) ?_
  refine Head.norm (k' := 14) (es' := [.det 7 _, .det 8 _, .det 9 _, .det 10 _, .det 11 _, .det 12 _, .det 13 _, .det 14 _, .det 15 _, .det 16 _, .det 17 _, .det 18 _, .det 19 _, .det 20 _]) rfl rfl ?_
  refine Head.yes rfl rfl (fun _ _ => rfl) (fun β hβ => Det.norm (F' := [(7, _), (8, _), (9, _), (10, _), (11, _), (12, _), (13, _), (14, _), (15, _), (16, _), (17, _), (18, _), (19, _), (20, _), (2, _), (1, _)]) (H' := [(_, _), (_, _)]) rfl rfl ((det_neq30 (a := padd gen gen) (b := (0, 0)) rfl rfl).to (congrArg Value.bool hh.h4))) ?_
  refine Head.norm (k' := 15) (es' := [.det 7 _, .det 8 _, .det 9 _, .det 10 _, .det 11 _, .det 12 _, .det 13 _, .det 14 _, .det 15 _, .det 16 _, .det 17 _, .det 18 _, .det 19 _, .det 20 _, .det 21 _]) rfl rfl ?_
  refine Head.det rfl (fun β hβ => Det.norm (F' := [(7, _), (8, _), (9, _), (10, _), (11, _), (12, _), (13, _), (14, _), (15, _), (16, _), (17, _), (18, _), (19, _), (20, _), (21, _), (2, _), (1, _)]) (H' := [(_, _), (_, _)]) rfl rfl (det_pick rfl rfl)) ?_
  refine Head.norm (k' := 16) (es' := [.det 7 _, .det 8 _, .det 9 _, .det 10 _, .det 11 _, .det 12 _, .det 13 _, .det 14 _, .det 15 _, .det 16 _, .det 17 _, .det 18 _, .det 19 _, .det 20 _, .det 21 _, .det 22 _]) rfl rfl ?_
  refine Head.det rfl (fun β hβ => Det.norm (F' := [(7, _), (8, _), (9, _), (10, _), (11, _), (12, _), (13, _), (14, _), (15, _), (16, _), (17, _), (18, _), (19, _), (20, _), (21, _), (22, _), (2, _), (1, _)]) (H' := [(_, _), (_, _)]) rfl rfl (det_move rfl)) ?_
  refine Head.norm (k' := 17) (es' := [.det 7 _, .det 8 _, .det 9 _, .det 10 _, .det 11 _, .det 12 _, .det 13 _, .det 14 _, .det 15 _, .det 16 _, .det 17 _, .det 18 _, .det 19 _, .det 20 _, .det 21 _, .det 22 _, .det 23 _]) rfl rfl ?_
  refine Head.yes rfl rfl (fun _ _ => rfl) (fun β hβ => Det.norm (F' := [(7, _), (8, _), (9, _), (10, _), (11, _), (12, _), (13, _), (14, _), (15, _), (16, _), (17, _), (18, _), (19, _), (20, _), (21, _), (22, _), (23, _), (2, _), (1, _)]) (H' := [(_, _), (_, _)]) rfl rfl (det_loadA ty30 rfl (List.Mem.tail _ (List.Mem.head _)) rfl)) ?_
  refine Head.norm (k' := 18) (es' := [.det 7 _, .det 8 _, .det 9 _, .det 10 _, .det 11 _, .det 12 _, .det 13 _, .det 14 _, .det 15 _, .det 16 _, .det 17 _, .det 18 _, .det 19 _, .det 20 _, .det 21 _, .det 22 _, .det 23 _, .det 24 _]) rfl rfl ?_
  refine Head.yesFresh rfl rfl (fun _ _ => rfl) (fun β hβ => New.norm (F' := [(7, _), (8, _), (9, _), (10, _), (11, _), (12, _), (13, _), (14, _), (15, _), (16, _), (17, _), (18, _), (19, _), (20, _), (21, _), (22, _), (23, _), (2, _), (1, _)]) (H' := [(_, _), (_, _)]) rfl rfl (fr_buildSlice rfl two_sl).new) ?_
  refine Head.norm (k' := 19) (es' := [.det 7 _, .det 8 _, .det 9 _, .det 10 _, .det 11 _, .det 12 _, .det 13 _, .det 14 _, .det 15 _, .det 16 _, .det 17 _, .det 18 _, .det 19 _, .det 20 _, .det 21 _, .det 22 _, .det 23 _, .det 24 _, .fresh 25 _ _ _]) rfl rfl ?_
  refine Head.yes rfl rfl (fun _ _ => rfl) (fun β hβ => Det.norm (F' := [(7, _), (8, _), (9, _), (10, _), (11, _), (12, _), (13, _), (14, _), (15, _), (16, _), (17, _), (18, _), (19, _), (20, _), (21, _), (22, _), (23, _), (24, _), (25, _), (2, _), (1, _)]) (H' := [(_, _), (_, _), (_, _)]) rfl rfl (det_call en25 rfl (fun w hb ho => Times_ok (G' := [((β 25).1, blk (bcells [2] ++ []) 5)]) (p := gen) (Bs.of two_small (Nat.le_refl _)) (by decide) (blocks_cons (hb _ (List.Mem.head _)) ho.blocks)))) ?_
  refine Head.norm (k' := 20) (es' := [.det 7 _, .det 8 _, .det 9 _, .det 10 _, .det 11 _, .det 12 _, .det 13 _, .det 14 _, .det 15 _, .det 16 _, .det 17 _, .det 18 _, .det 19 _, .det 20 _, .det 21 _, .det 22 _, .det 23 _, .det 24 _, .fresh 25 _ _ _, .det 26 _]) rfl rfl ?_
  refine Head.yes rfl rfl (fun _ _ => rfl) (fun β hβ => Det.norm (F' := [(7, _), (8, _), (9, _), (10, _), (11, _), (12, _), (13, _), (14, _), (15, _), (16, _), (17, _), (18, _), (19, _), (20, _), (21, _), (22, _), (23, _), (2, _), (1, _)]) (H' := [(_, _), (_, _)]) rfl rfl (det_loadA ty30 rfl (List.Mem.head _) rfl)) ?_
  refine Head.norm (k' := 21) (es' := [.det 7 _, .det 8 _, .det 9 _, .det 10 _, .det 11 _, .det 12 _, .det 13 _, .det 14 _, .det 15 _, .det 16 _, .det 17 _, .det 18 _, .det 19 _, .det 20 _, .det 21 _, .det 22 _, .det 23 _, .det 24 _, .fresh 25 _ _ _, .det 26 _, .det 27 _]) rfl rfl ?_
  refine Head.yes rfl rfl (fun _ _ => rfl) (fun β hβ => Det.norm (F' := [(7, _), (8, _), (9, _), (10, _), (11, _), (12, _), (13, _), (14, _), (15, _), (16, _), (17, _), (18, _), (19, _), (20, _), (21, _), (22, _), (23, _), (24, _), (25, _), (26, _), (27, _), (2, _), (1, _)]) (H' := [(_, _), (_, _), (_, _)]) rfl rfl ((det_eql30 (a := times [2] gen) (b := padd gen gen) rfl rfl).to (congrArg Value.bool hh.h5))) ?_
  refine Head.norm (k' := 22) (es' := [.det 7 _, .det 8 _, .det 9 _, .det 10 _, .det 11 _, .det 12 _, .det 13 _, .det 14 _, .det 15 _, .det 16 _, .det 17 _, .det 18 _, .det 19 _, .det 20 _, .det 21 _, .det 22 _, .det 23 _, .det 24 _, .fresh 25 _ _ _, .det 26 _, .det 27 _, .det 28 _]) rfl rfl ?_
  refine Head.det rfl (fun β hβ => Det.norm (F' := [(7, _), (8, _), (9, _), (10, _), (11, _), (12, _), (13, _), (14, _), (15, _), (16, _), (17, _), (18, _), (19, _), (20, _), (21, _), (22, _), (23, _), (24, _), (25, _), (26, _), (27, _), (28, _), (2, _), (1, _)]) (H' := [(_, _), (_, _), (_, _)]) rfl rfl (det_pick rfl rfl)) ?_
  refine Head.norm (k' := 23) (es' := [.det 7 _, .det 8 _, .det 9 _, .det 10 _, .det 11 _, .det 12 _, .det 13 _, .det 14 _, .det 15 _, .det 16 _, .det 17 _, .det 18 _, .det 19 _, .det 20 _, .det 21 _, .det 22 _, .det 23 _, .det 24 _, .fresh 25 _ _ _, .det 26 _, .det 27 _, .det 28 _, .det 29 _]) rfl rfl ?_
  refine Head.det rfl (fun β hβ => Det.norm (F' := [(7, _), (8, _), (9, _), (10, _), (11, _), (12, _), (13, _), (14, _), (15, _), (16, _), (17, _), (18, _), (19, _), (20, _), (21, _), (22, _), (23, _), (24, _), (25, _), (26, _), (27, _), (28, _), (29, _), (2, _), (1, _)]) (H' := [(_, _), (_, _), (_, _)]) rfl rfl (det_move rfl)) ?_
  refine Head.norm (k' := 24) (es' := [.det 7 _, .det 8 _, .det 9 _, .det 10 _, .det 11 _, .det 12 _, .det 13 _, .det 14 _, .det 15 _, .det 16 _, .det 17 _, .det 18 _, .det 19 _, .det 20 _, .det 21 _, .det 22 _, .det 23 _, .det 24 _, .fresh 25 _ _ _, .det 26 _, .det 27 _, .det 28 _, .det 29 _, .det 30 _]) rfl rfl ?_
  refine Head.yes rfl rfl (fun _ _ => rfl) (fun β hβ => Det.norm (F' := [(7, _), (8, _), (9, _), (10, _), (11, _), (12, _), (13, _), (14, _), (15, _), (16, _), (17, _), (18, _), (19, _), (20, _), (21, _), (22, _), (23, _), (24, _), (25, _), (26, _), (27, _), (28, _), (29, _), (30, _), (2, _), (1, _)]) (H' := [(_, _), (_, _), (_, _)]) rfl rfl (det_loadA ty30 rfl (List.Mem.tail _ (List.Mem.tail _ (List.Mem.head _))) rfl)) ?_
  refine Head.norm (k' := 25) (es' := [.det 7 _, .det 8 _, .det 9 _, .det 10 _, .det 11 _, .det 12 _, .det 13 _, .det 14 _, .det 15 _, .det 16 _, .det 17 _, .det 18 _, .det 19 _, .det 20 _, .det 21 _, .det 22 _, .det 23 _, .det 24 _, .fresh 25 _ _ _, .det 26 _, .det 27 _, .det 28 _, .det 29 _, .det 30 _, .det 31 _]) rfl rfl ?_
  refine Head.yes rfl rfl (fun _ _ => rfl) (fun β hβ => Det.norm (F' := [(7, _), (8, _), (9, _), (10, _), (11, _), (12, _), (13, _), (14, _), (15, _), (16, _), (17, _), (18, _), (19, _), (20, _), (21, _), (22, _), (23, _), (24, _), (25, _), (26, _), (27, _), (28, _), (29, _), (30, _), (2, _), (1, _)]) (H' := [(_, _), (_, _), (_, _)]) rfl rfl (det_loadA ty30 rfl (List.Mem.tail _ (List.Mem.tail _ (List.Mem.head _))) rfl)) ?_
  refine Head.norm (k' := 26) (es' := [.det 7 _, .det 8 _, .det 9 _, .det 10 _, .det 11 _, .det 12 _, .det 13 _, .det 14 _, .det 15 _, .det 16 _, .det 17 _, .det 18 _, .det 19 _, .det 20 _, .det 21 _, .det 22 _, .det 23 _, .det 24 _, .fresh 25 _ _ _, .det 26 _, .det 27 _, .det 28 _, .det 29 _, .det 30 _, .det 31 _, .det 32 _]) rfl rfl ?_
  refine Head.yes rfl rfl (fun _ _ => rfl) (fun β hβ => Det.norm (F' := [(7, _), (8, _), (9, _), (10, _), (11, _), (12, _), (13, _), (14, _), (15, _), (16, _), (17, _), (18, _), (19, _), (20, _), (21, _), (22, _), (23, _), (24, _), (25, _), (26, _), (27, _), (28, _), (29, _), (30, _), (32, _), (2, _), (1, _)]) (H' := [(_, _), (_, _), (_, _)]) rfl rfl (det_call en22 rfl (fun w hb ho => PNeg_ok ho.blocks))) ?_
  refine Head.norm (k' := 27) (es' := [.det 7 _, .det 8 _, .det 9 _, .det 10 _, .det 11 _, .det 12 _, .det 13 _, .det 14 _, .det 15 _, .det 16 _, .det 17 _, .det 18 _, .det 19 _, .det 20 _, .det 21 _, .det 22 _, .det 23 _, .det 24 _, .fresh 25 _ _ _, .det 26 _, .det 27 _, .det 28 _, .det 29 _, .det 30 _, .det 31 _, .det 32 _, .det 33 _]) rfl rfl ?_
  refine Head.yes rfl rfl (fun _ _ => rfl) (fun β hβ => Det.norm (F' := [(7, _), (8, _), (9, _), (10, _), (11, _), (12, _), (13, _), (14, _), (15, _), (16, _), (17, _), (18, _), (19, _), (20, _), (21, _), (22, _), (23, _), (24, _), (25, _), (26, _), (27, _), (28, _), (29, _), (30, _), (31, _), (32, _), (33, _), (2, _), (1, _)]) (H' := [(_, _), (_, _), (_, _)]) rfl rfl (det_call en20 rfl (fun w hb ho => PAdd_ok ho.blocks))) ?_
  refine Head.norm (k' := 28) (es' := [.det 7 _, .det 8 _, .det 9 _, .det 10 _, .det 11 _, .det 12 _, .det 13 _, .det 14 _, .det 15 _, .det 16 _, .det 17 _, .det 18 _, .det 19 _, .det 20 _, .det 21 _, .det 22 _, .det 23 _, .det 24 _, .fresh 25 _ _ _, .det 26 _, .det 27 _, .det 28 _, .det 29 _, .det 30 _, .det 31 _, .det 32 _, .det 33 _, .det 34 _]) rfl rfl ?_
  refine Head.yes rfl rfl (fun _ _ => rfl) (fun β hβ => Det.norm (F' := [(7, _), (8, _), (9, _), (10, _), (11, _), (12, _), (13, _), (14, _), (15, _), (16, _), (17, _), (18, _), (19, _), (20, _), (21, _), (22, _), (23, _), (24, _), (25, _), (26, _), (27, _), (28, _), (29, _), (30, _), (2, _), (1, _)]) (H' := [(_, _), (_, _), (_, _)]) rfl rfl (det_zero bz30)) ?_
  refine Head.norm (k' := 29) (es' := [.det 7 _, .det 8 _, .det 9 _, .det 10 _, .det 11 _, .det 12 _, .det 13 _, .det 14 _, .det 15 _, .det 16 _, .det 17 _, .det 18 _, .det 19 _, .det 20 _, .det 21 _, .det 22 _, .det 23 _, .det 24 _, .fresh 25 _ _ _, .det 26 _, .det 27 _, .det 28 _, .det 29 _, .det 30 _, .det 31 _, .det 32 _, .det 33 _, .det 34 _, .det 35 _]) rfl rfl ?_
  refine Head.yes rfl rfl (fun _ _ => rfl) (fun β hβ => Det.norm (F' := ((7, _) :: (8, _) :: (9, _) :: (10, _) :: (11, _) :: (12, _) :: (13, _) :: (14, _) :: (15, _) :: (16, _) :: (17, _) :: (18, _) :: (19, _) :: (20, _) :: (21, _) :: (22, _) :: (23, _) :: (24, _) :: (25, _) :: (26, _) :: (27, _) :: (28, _) :: (29, _) :: (30, _) :: (31, _) :: (32, _) :: (33, _) :: (34, _) :: (35, _) :: (2, _) :: (1, _) :: [])) (H' := [(_, _), (_, _), (_, _)]) rfl rfl ((det_eql30 (a := padd gen (pneg gen)) (b := (0, 0)) rfl rfl).to (congrArg Value.bool hh.h6))) ?_
  refine Head.norm (k' := 30) (es' := (.det 7 _ :: .det 8 _ :: .det 9 _ :: .det 10 _ :: .det 11 _ :: .det 12 _ :: .det 13 _ :: .det 14 _ :: .det 15 _ :: .det 16 _ :: .det 17 _ :: .det 18 _ :: .det 19 _ :: .det 20 _ :: .det 21 _ :: .det 22 _ :: .det 23 _ :: .det 24 _ :: .fresh 25 _ _ _ :: .det 26 _ :: .det 27 _ :: .det 28 _ :: .det 29 _ :: .det 30 _ :: .det 31 _ :: .det 32 _ :: .det 33 _ :: .det 34 _ :: .det 35 _ :: .det 36 _ :: [])) rfl rfl ?_
  refine Head.det rfl (fun β hβ => Det.norm (F' := ((7, _) :: (8, _) :: (9, _) :: (10, _) :: (11, _) :: (12, _) :: (13, _) :: (14, _) :: (15, _) :: (16, _) :: (17, _) :: (18, _) :: (19, _) :: (20, _) :: (21, _) :: (22, _) :: (23, _) :: (24, _) :: (25, _) :: (26, _) :: (27, _) :: (28, _) :: (29, _) :: (30, _) :: (31, _) :: (32, _) :: (33, _) :: (34, _) :: (35, _) :: (36, _) :: (2, _) :: (1, _) :: [])) (H' := [(_, _), (_, _), (_, _)]) rfl rfl (det_pick rfl rfl)) ?_
  refine Head.norm (k' := 31) (es' := (.det 7 _ :: .det 8 _ :: .det 9 _ :: .det 10 _ :: .det 11 _ :: .det 12 _ :: .det 13 _ :: .det 14 _ :: .det 15 _ :: .det 16 _ :: .det 17 _ :: .det 18 _ :: .det 19 _ :: .det 20 _ :: .det 21 _ :: .det 22 _ :: .det 23 _ :: .det 24 _ :: .fresh 25 _ _ _ :: .det 26 _ :: .det 27 _ :: .det 28 _ :: .det 29 _ :: .det 30 _ :: .det 31 _ :: .det 32 _ :: .det 33 _ :: .det 34 _ :: .det 35 _ :: .det 36 _ :: .det 37 _ :: [])) rfl rfl ?_
  refine Head.det rfl (fun β hβ => Det.norm (F' := ((7, _) :: (8, _) :: (9, _) :: (10, _) :: (11, _) :: (12, _) :: (13, _) :: (14, _) :: (15, _) :: (16, _) :: (17, _) :: (18, _) :: (19, _) :: (20, _) :: (21, _) :: (22, _) :: (23, _) :: (24, _) :: (25, _) :: (26, _) :: (27, _) :: (28, _) :: (29, _) :: (30, _) :: (31, _) :: (32, _) :: (33, _) :: (34, _) :: (35, _) :: (36, _) :: (37, _) :: (2, _) :: (1, _) :: [])) (H' := [(_, _), (_, _), (_, _)]) rfl rfl (det_move rfl)) ?_
  refine Head.norm (k' := 32) (es' := (.det 7 _ :: .det 8 _ :: .det 9 _ :: .det 10 _ :: .det 11 _ :: .det 12 _ :: .det 13 _ :: .det 14 _ :: .det 15 _ :: .det 16 _ :: .det 17 _ :: .det 18 _ :: .det 19 _ :: .det 20 _ :: .det 21 _ :: .det 22 _ :: .det 23 _ :: .det 24 _ :: .fresh 25 _ _ _ :: .det 26 _ :: .det 27 _ :: .det 28 _ :: .det 29 _ :: .det 30 _ :: .det 31 _ :: .det 32 _ :: .det 33 _ :: .det 34 _ :: .det 35 _ :: .det 36 _ :: .det 37 _ :: .det 38 _ :: [])) rfl rfl ?_
  refine Head.yes rfl rfl (fun _ _ => rfl) (fun β hβ => Det.norm (F' := ((7, _) :: (8, _) :: (9, _) :: (10, _) :: (11, _) :: (12, _) :: (13, _) :: (14, _) :: (15, _) :: (16, _) :: (17, _) :: (18, _) :: (19, _) :: (20, _) :: (21, _) :: (22, _) :: (23, _) :: (24, _) :: (25, _) :: (26, _) :: (27, _) :: (28, _) :: (29, _) :: (30, _) :: (31, _) :: (32, _) :: (33, _) :: (34, _) :: (35, _) :: (36, _) :: (37, _) :: (38, _) :: (2, _) :: (1, _) :: [])) (H' := [(_, _), (_, _), (_, _)]) rfl rfl (det_fieldAddr fl30_0 rfl)) ?_
  refine Head.norm (k' := 33) (es' := (.det 7 _ :: .det 8 _ :: .det 9 _ :: .det 10 _ :: .det 11 _ :: .det 12 _ :: .det 13 _ :: .det 14 _ :: .det 15 _ :: .det 16 _ :: .det 17 _ :: .det 18 _ :: .det 19 _ :: .det 20 _ :: .det 21 _ :: .det 22 _ :: .det 23 _ :: .det 24 _ :: .fresh 25 _ _ _ :: .det 26 _ :: .det 27 _ :: .det 28 _ :: .det 29 _ :: .det 30 _ :: .det 31 _ :: .det 32 _ :: .det 33 _ :: .det 34 _ :: .det 35 _ :: .det 36 _ :: .det 37 _ :: .det 38 _ :: .det 39 _ :: [])) rfl rfl ?_
  refine Head.yes rfl rfl (fun _ _ => rfl) (fun β hβ => Det.norm (F' := ((7, _) :: (8, _) :: (9, _) :: (10, _) :: (11, _) :: (12, _) :: (13, _) :: (14, _) :: (15, _) :: (16, _) :: (17, _) :: (18, _) :: (19, _) :: (20, _) :: (21, _) :: (22, _) :: (23, _) :: (24, _) :: (25, _) :: (26, _) :: (27, _) :: (28, _) :: (29, _) :: (30, _) :: (31, _) :: (32, _) :: (33, _) :: (34, _) :: (35, _) :: (36, _) :: (37, _) :: (38, _) :: (39, _) :: (2, _) :: (1, _) :: [])) (H' := [(_, _), (_, _), (_, _)]) rfl rfl (det_loadA ty28 rfl (List.Mem.tail _ (List.Mem.tail _ (List.Mem.head _))) rfl)) ?_
  refine Head.norm (k' := 34) (es' := (.det 7 _ :: .det 8 _ :: .det 9 _ :: .det 10 _ :: .det 11 _ :: .det 12 _ :: .det 13 _ :: .det 14 _ :: .det 15 _ :: .det 16 _ :: .det 17 _ :: .det 18 _ :: .det 19 _ :: .det 20 _ :: .det 21 _ :: .det 22 _ :: .det 23 _ :: .det 24 _ :: .fresh 25 _ _ _ :: .det 26 _ :: .det 27 _ :: .det 28 _ :: .det 29 _ :: .det 30 _ :: .det 31 _ :: .det 32 _ :: .det 33 _ :: .det 34 _ :: .det 35 _ :: .det 36 _ :: .det 37 _ :: .det 38 _ :: .det 39 _ :: .det 40 _ :: [])) rfl rfl ?_
  refine Head.yes rfl rfl (fun _ _ => rfl) (fun β hβ => Det.norm (F' := ((7, _) :: (8, _) :: (9, _) :: (10, _) :: (11, _) :: (12, _) :: (13, _) :: (14, _) :: (15, _) :: (16, _) :: (17, _) :: (18, _) :: (19, _) :: (20, _) :: (21, _) :: (22, _) :: (23, _) :: (24, _) :: (25, _) :: (26, _) :: (27, _) :: (28, _) :: (29, _) :: (30, _) :: (31, _) :: (32, _) :: (33, _) :: (34, _) :: (35, _) :: (36, _) :: (37, _) :: (38, _) :: (39, _) :: (40, _) :: (2, _) :: (1, _) :: [])) (H' := [(_, _), (_, _), (_, _)]) rfl rfl ((det_call en48 rfl (fun w hb ho => Odd_ok (x := gen.1) ho.blocks)).to (congrArg Value.bool hh.h7))) ?_
  refine Head.norm (k' := 35) (es' := (.det 7 _ :: .det 8 _ :: .det 9 _ :: .det 10 _ :: .det 11 _ :: .det 12 _ :: .det 13 _ :: .det 14 _ :: .det 15 _ :: .det 16 _ :: .det 17 _ :: .det 18 _ :: .det 19 _ :: .det 20 _ :: .det 21 _ :: .det 22 _ :: .det 23 _ :: .det 24 _ :: .fresh 25 _ _ _ :: .det 26 _ :: .det 27 _ :: .det 28 _ :: .det 29 _ :: .det 30 _ :: .det 31 _ :: .det 32 _ :: .det 33 _ :: .det 34 _ :: .det 35 _ :: .det 36 _ :: .det 37 _ :: .det 38 _ :: .det 39 _ :: .det 40 _ :: .det 41 _ :: [])) rfl rfl ?_
  refine Head.det rfl (fun β hβ => Det.norm (F' := ((7, _) :: (8, _) :: (9, _) :: (10, _) :: (11, _) :: (12, _) :: (13, _) :: (14, _) :: (15, _) :: (16, _) :: (17, _) :: (18, _) :: (19, _) :: (20, _) :: (21, _) :: (22, _) :: (23, _) :: (24, _) :: (25, _) :: (26, _) :: (27, _) :: (28, _) :: (29, _) :: (30, _) :: (31, _) :: (32, _) :: (33, _) :: (34, _) :: (35, _) :: (36, _) :: (37, _) :: (38, _) :: (39, _) :: (40, _) :: (41, _) :: (2, _) :: (1, _) :: [])) (H' := [(_, _), (_, _), (_, _)]) rfl rfl (det_pick rfl rfl)) ?_
  refine Head.norm (k' := 36) (es' := (.det 7 _ :: .det 8 _ :: .det 9 _ :: .det 10 _ :: .det 11 _ :: .det 12 _ :: .det 13 _ :: .det 14 _ :: .det 15 _ :: .det 16 _ :: .det 17 _ :: .det 18 _ :: .det 19 _ :: .det 20 _ :: .det 21 _ :: .det 22 _ :: .det 23 _ :: .det 24 _ :: .fresh 25 _ _ _ :: .det 26 _ :: .det 27 _ :: .det 28 _ :: .det 29 _ :: .det 30 _ :: .det 31 _ :: .det 32 _ :: .det 33 _ :: .det 34 _ :: .det 35 _ :: .det 36 _ :: .det 37 _ :: .det 38 _ :: .det 39 _ :: .det 40 _ :: .det 41 _ :: .det 42 _ :: [])) rfl rfl ?_
  refine Head.det rfl (fun β hβ => Det.norm (F' := ((7, _) :: (8, _) :: (9, _) :: (10, _) :: (11, _) :: (12, _) :: (13, _) :: (14, _) :: (15, _) :: (16, _) :: (17, _) :: (18, _) :: (19, _) :: (20, _) :: (21, _) :: (22, _) :: (23, _) :: (24, _) :: (25, _) :: (26, _) :: (27, _) :: (28, _) :: (29, _) :: (30, _) :: (31, _) :: (32, _) :: (33, _) :: (34, _) :: (35, _) :: (36, _) :: (37, _) :: (38, _) :: (39, _) :: (40, _) :: (41, _) :: (42, _) :: (2, _) :: (1, _) :: [])) (H' := [(_, _), (_, _), (_, _)]) rfl rfl (det_assign rfl)) ?_
  refine Head.norm (k' := 37) (es' := (.det 7 _ :: .det 8 _ :: .det 9 _ :: .det 10 _ :: .det 11 _ :: .det 12 _ :: .det 13 _ :: .det 14 _ :: .det 15 _ :: .det 16 _ :: .det 17 _ :: .det 18 _ :: .det 19 _ :: .det 20 _ :: .det 21 _ :: .det 22 _ :: .det 23 _ :: .det 24 _ :: .fresh 25 _ _ _ :: .det 26 _ :: .det 27 _ :: .det 28 _ :: .det 29 _ :: .det 30 _ :: .det 31 _ :: .det 32 _ :: .det 33 _ :: .det 34 _ :: .det 35 _ :: .det 36 _ :: .det 37 _ :: .det 38 _ :: .det 39 _ :: .det 40 _ :: .det 41 _ :: .det 42 _ :: .det 0 _ :: [])) rfl rfl ?_
  refine Head.done ⟨by kernel_rfl, fun β hβ => ?_⟩
  refine OpsW.norm (F' := ((7, _) :: (8, _) :: (9, _) :: (10, _) :: (11, _) :: (12, _) :: (13, _) :: (14, _) :: (15, _) :: (16, _) :: (17, _) :: (18, _) :: (19, _) :: (20, _) :: (21, _) :: (22, _) :: (23, _) :: (24, _) :: (25, .slice (some ⟨(β 25).1, 0, none⟩) 1 1) :: (26, _) :: (27, _) :: (28, _) :: (29, _) :: (30, _) :: (31, _) :: (32, _) :: (33, _) :: (34, _) :: (35, _) :: (36, _) :: (37, _) :: (38, _) :: (39, _) :: (40, _) :: (41, _) :: (42, _) :: (0, _) :: (2, _) :: (1, _) :: [])) (H' := [(_, _), (_, _), (_, _)]) rfl rfl ?_
  generalize (β 25).1 = b25
  refine sNext ?_
  refine W.keep (F' := [(0, _)]) ⟨rfl, trivial⟩ ?_
  refine sRet ?_
  exact done1 Tryd.results15 (rv_tmp rfl) rfl

end Go.Cu
