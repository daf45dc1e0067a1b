/-
  The first group's laws: what they share: the walks. Conditions: of the generator, what HeadOk says.
-/
import Derived.Test.YtndonmbemehefaaDoorG1e
import Derived.Test.YtndonmbemehefaaDoorFp7
namespace Go.Cu
open Go Go.Vm Go.RowKit Go.Proofs 
attribute [local irreducible] W OpsW Det Fresh New Writes Vm.Pure Makes Changes ExternTo BuildTo ZeroTo FieldTo IndexTo BinTo SliceTo Vm.Enters
set_option linter.unusedVariables false
set_option linter.unusedSimpArgs false
variable {T : Nat → TypeId × Nat × Nat}

theorem Plain_call {x : Fq} {w : World} (hG : Blocks (GH T) w) : Vm.Pure Tryd.prog 17 #[encF x, .agg #[u64 1, .int .u64 0, .int .u64 0, .int .u64 0, .int .u64 0, .int .u64 0]] w (enc6 x.val) := by
  have h := Mul_w_ok (X := mont x) (Y := 1) (mont_lt x) (by decide) hG
  rw [← of_words (n := 1) (by decide)]
  refine h.same (congrArg enc6 ?_)
  unfold mont
  rw [Nat.mul_one, Nat.mod_mul_mod, Nat.mul_assoc, Nat.mul_mod, show R6 * inv_pp % pp = 1 from by decide +kernel, Nat.mul_one, Nat.mod_mod, Nat.mod_eq_of_lt x.lt]
theorem fld28 {a b c d e f : Int} : FieldTo Tryd.prog 29 (.agg #[.int .u64 a, .int .u64 b, .int .u64 c, .int .u64 d, .int .u64 e, .int .u64 f]) 0 (.agg #[.int .u64 a, .int .u64 b, .int .u64 c, .int .u64 d, .int .u64 e, .int .u64 f]) := FieldTo.of fun _ => by kernel_rfl
def oddF (x : Fq) : Bool := ((lim x.val 0 % 2 ^ 1 : Nat) : Int) == 1
def lambdaB (p q r : Pt) : Bool := decide ((p.1 + q.1 + r.1) * ((q.1 - p.1) * (q.1 - p.1)) = (q.2 - p.2) * (q.2 - p.2))
def threeB (p : Pt) : Bool :=
  let s := p.1 * p.1 * (p.1 * p.1)
  let u := p.1 * (p.2 * p.2)
  let n := s + s + s
  let nine := n + n + n
  let v := u + u + u
  let w := v + v
  decide (nine = w + w)
theorem two_sl : SliceTo Tryd.prog 22 1 [(0, .int .u8 2)] (bcells [2] ++ []) 5 := SliceTo.of fun _ => by kernel_rfl
theorem two_small : ∀ c ∈ [2], c < 256 := by decide
/-- What the head asks of the generator. -/
structure HeadOk : Prop where
  h1 : onB gen = true
  h2 : onB (padd gen gen) = true
  h3 : (!decide (padd gen gen = gen)) = true
  h4 : (!decide (padd gen gen = (0, 0))) = true
  h5 : decide (times [2] gen = padd gen gen) = true
  h6 : decide (padd gen (pneg gen) = (0, 0)) = true
  h7 : oddF gen.1 = true


theorem Plain_ok {x : Fq} {w : World} (hG : Blocks (GH T) w)  : Vm.Pure Tryd.prog 61 #[encF x] w (enc6 x.val) := by
  refine pure_of_W (n := 8) (args := [encF x]) Tryd.func61 rfl Tryd.ntmps61 (Nat.le_of_ble_eq_true rfl) hG ?_
  refine sStart ?_
  refine sSeq ?_
  refine W.region ?_
  refine OpsW.fresh (fr_box rfl rfl) rfl fun b1 => ?_
  refine OpsW.fresh (fr_alloc z27) rfl fun b2 => ?_
  refine sNext ?_
  refine W.keep (F' := [(2, _), (1, _)]) ⟨rfl, rfl, trivial⟩ ?_
  refine sSeq ?_
  refine W.region ?_
  refine OpsW.det (det_loadA ty29 rfl (List.Mem.tail _ (List.Mem.head _)) rfl) rfl ?_
  refine OpsW.det (det_build rfl bld27_0) rfl ?_
  refine OpsW.det (det_build rfl bld29) rfl ?_
  refine OpsW.det (det_call en17 rfl (fun w hb ho => Plain_call ho.blocks)) rfl ?_
  refine OpsW.det (det_field rfl fld28) rfl ?_
  refine OpsW.store sz27 rfl rfl rfl rfl rfl (Upd.here) rfl ?_
  refine sNext ?_
  refine W.keep (F' := [(2, _)]) ⟨rfl, trivial⟩ ?_
  refine sRet ?_
  exact done1 Tryd.results61 (rv_cellA ty27 rfl (List.Mem.head _) rfl) rfl

end Go.Cu
