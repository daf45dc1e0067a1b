/-
  NARROWER THAN 'FOR EVERY INPUT', by the rows' own cells (each row's printed sentence says how): G1Rules: laid · G1Counts: laid · G1Lists: laid · G1Adds: laid · G1Scalars: laid · G1Groups: laid · G2Rules: laid · G2Lists: laid · G2Scalars: laid · G2Counts: laid · G2Adds: laid · G2Groups: laid.
  DERIVED. THE GIVEN ROWS OF THIS SEAT. 12 by the template 'for every input the law returns true; each argument reads behind the call as it read before'; 0 by the template 'total and deterministic' (their statements: YtbchpfmfiokbgaaDoorTotals.lean).
  GIVEN WITH THE SEED: the statements are not yours to turn. If you find one false, say at which input.
  Laid BY PROGRAM, IN A SANDBOX (cutbox-rows.mjs): the forced cells as the released guide's own fill.sh prints them over the translation 2ba51a15eced1235… (all of the seat's roots in one cut). By AI agents, Wed Nov 11 2026. No macro, syntax, notation, axiom, sorry.
-/
import Derived.Test.YtbchpfmfiokbgaaDoorChecked
import GoSem.Claim
import GoSem.ClaimJoined
import GoSem.ClaimMapViews
import Derived.JoinedTies
import Derived.KernelRfl
namespace Go.Proofs.YtbchpfmfiokbgaaDoor
/- THE CELL 'sum', in the pinned program and in every row, IS THE sha256 OF THE DUMP (.gsa) THAT YtbchpfmfiokbgaaDoorProg.lean LOADS. Nothing in Lean hashes anything: it is a label: what it is worth is what the hold of that sum in a sandbox is worth. -/
noncomputable def Tryd.pinned : Pinned := { name := "ytbchpfmfiokbgaadoor", sum := "2ba51a15eced12359a6d98d4eb4fd1cb286eb6ef73499a17557d9d34a342ae4e", checked := Tryd.checked }
namespace Rows
def none {H : Type} : Left H := { results := [], args := [] }

/- WHAT THE LISTED PACKAGE-LEVEL VARIABLES READ AS WHEN THE CALL BEGINS. Each datum BY PROGRAM (the guide's laid-datum.mjs) off the statement by which the dump's own 'gosem.cut.vars' lays the variable. In a bare row this is a premise. The card (YtbchpfmfiokbgaaDoorCards.lean) ties it to the program's text. -/
def laid_cresset_fp_modulus {H : Type} : DataW H := .agg [.lit (.int .u64 13402431016077863595), .lit (.int .u64 2210141511517208575), .lit (.int .u64 7435674573564081700), .lit (.int .u64 7239337960414712511), .lit (.int .u64 5412103778470702295), .lit (.int .u64 1873798617647539866)]
def laid_cresset_fp_square {H : Type} : DataW H := .agg [.lit (.int .u64 17644856173732828998), .lit (.int .u64 754043588434789617), .lit (.int .u64 10224657059481499349), .lit (.int .u64 7488229067341005760), .lit (.int .u64 11130996698012816685), .lit (.int .u64 1267921511277847466)]
def laid_cresset_fr_modulus {H : Type} : DataW H := .agg [.lit (.int .u64 18446744069414584321), .lit (.int .u64 6034159408538082302), .lit (.int .u64 3691218898639771653), .lit (.int .u64 8353516859464449352)]
def laid_cresset_fr_square {H : Type} : DataW H := .agg [.lit (.int .u64 14526898881837571181), .lit (.int .u64 3129137299524312099), .lit (.int .u64 419701826671360399), .lit (.int .u64 524908885293268753)]

/-- 'cressetlaw07.G1Rules': WHATEVER THE INPUT: true; the input reads as it did. -/
def g1RulesSpec : ChangeSpec := { name := "g1Rules", fn := fun _ => fun
  | [d1, d2, d3] => { results := [.lit (.bool true)], args := [d1, d2, d3] }
  | _ => none }
def g1RulesRow : OpenClaim := { program := "ytbchpfmfiokbgaadoor", sum := "2ba51a15eced12359a6d98d4eb4fd1cb286eb6ef73499a17557d9d34a342ae4e", func := "cresset/cressetlaw07.G1Rules", spec := "g1Rules", inPlace := ["math/bits.Sub64", "math/bits.Add64"], unfollowed := true, recurses := true, named := ["cresset/fp.square", "cresset/fp.modulus", "cresset/fr.square", "cresset/fr.modulus"], apart := false, laid := [("cresset/fp.modulus", laid_cresset_fp_modulus), ("cresset/fp.square", laid_cresset_fp_square), ("cresset/fr.modulus", laid_cresset_fr_modulus), ("cresset/fr.square", laid_cresset_fr_square)] }
def G1RulesSaid : Prop := g1RulesRow.holds Tryd.pinned (OpenSpec.ofChange g1RulesSpec)

/-- ITS FALSE NEIGHBOUR: 'it returns false'. Refute it at one input. -/
def g1RulesWrong : ChangeSpec := { name := "g1Rules", fn := fun _ => fun
  | [d1, d2, d3] => { results := [.lit (.bool false)], args := [d1, d2, d3] }
  | _ => none }
def G1RulesWrongFalsely : Prop := g1RulesRow.holds Tryd.pinned (OpenSpec.ofChange g1RulesWrong)

/-- 'cressetlaw07.G1Counts': WHATEVER THE INPUT: true; the input reads as it did. -/
def g1CountsSpec : ChangeSpec := { name := "g1Counts", fn := fun _ => fun
  | [d1, d2, d3] => { results := [.lit (.bool true)], args := [d1, d2, d3] }
  | _ => none }
def g1CountsRow : OpenClaim := { program := "ytbchpfmfiokbgaadoor", sum := "2ba51a15eced12359a6d98d4eb4fd1cb286eb6ef73499a17557d9d34a342ae4e", func := "cresset/cressetlaw07.G1Counts", spec := "g1Counts", inPlace := ["math/bits.Sub64", "math/bits.Add64"], unfollowed := true, recurses := true, named := ["cresset/fp.square", "cresset/fp.modulus", "cresset/fr.square", "cresset/fr.modulus"], apart := false, laid := [("cresset/fp.modulus", laid_cresset_fp_modulus), ("cresset/fp.square", laid_cresset_fp_square), ("cresset/fr.modulus", laid_cresset_fr_modulus), ("cresset/fr.square", laid_cresset_fr_square)] }
def G1CountsSaid : Prop := g1CountsRow.holds Tryd.pinned (OpenSpec.ofChange g1CountsSpec)

/-- ITS FALSE NEIGHBOUR: 'it returns false'. Refute it at one input. -/
def g1CountsWrong : ChangeSpec := { name := "g1Counts", fn := fun _ => fun
  | [d1, d2, d3] => { results := [.lit (.bool false)], args := [d1, d2, d3] }
  | _ => none }
def G1CountsWrongFalsely : Prop := g1CountsRow.holds Tryd.pinned (OpenSpec.ofChange g1CountsWrong)

/-- 'cressetlaw07.G1Lists': WHATEVER THE INPUT: true; the input reads as it did. -/
def g1ListsSpec : ChangeSpec := { name := "g1Lists", fn := fun _ => fun
  | [d1, d2] => { results := [.lit (.bool true)], args := [d1, d2] }
  | _ => none }
def g1ListsRow : OpenClaim := { program := "ytbchpfmfiokbgaadoor", sum := "2ba51a15eced12359a6d98d4eb4fd1cb286eb6ef73499a17557d9d34a342ae4e", func := "cresset/cressetlaw07.G1Lists", spec := "g1Lists", inPlace := ["math/bits.Sub64", "math/bits.Add64"], unfollowed := true, recurses := true, named := ["cresset/fp.square", "cresset/fp.modulus", "cresset/fr.square", "cresset/fr.modulus"], apart := false, laid := [("cresset/fp.modulus", laid_cresset_fp_modulus), ("cresset/fp.square", laid_cresset_fp_square), ("cresset/fr.modulus", laid_cresset_fr_modulus), ("cresset/fr.square", laid_cresset_fr_square)] }
def G1ListsSaid : Prop := g1ListsRow.holds Tryd.pinned (OpenSpec.ofChange g1ListsSpec)

/-- ITS FALSE NEIGHBOUR: 'it returns false'. Refute it at one input. -/
def g1ListsWrong : ChangeSpec := { name := "g1Lists", fn := fun _ => fun
  | [d1, d2] => { results := [.lit (.bool false)], args := [d1, d2] }
  | _ => none }
def G1ListsWrongFalsely : Prop := g1ListsRow.holds Tryd.pinned (OpenSpec.ofChange g1ListsWrong)

/-- 'cressetlaw07.G1Adds': WHATEVER THE INPUT: true; the input reads as it did. -/
def g1AddsSpec : ChangeSpec := { name := "g1Adds", fn := fun _ => fun
  | [d1, d2, d3, d4, d5] => { results := [.lit (.bool true)], args := [d1, d2, d3, d4, d5] }
  | _ => none }
def g1AddsRow : OpenClaim := { program := "ytbchpfmfiokbgaadoor", sum := "2ba51a15eced12359a6d98d4eb4fd1cb286eb6ef73499a17557d9d34a342ae4e", func := "cresset/cressetlaw07.G1Adds", spec := "g1Adds", inPlace := ["math/bits.Sub64", "math/bits.Add64"], unfollowed := true, recurses := true, named := ["cresset/fp.square", "cresset/fp.modulus", "cresset/fr.square", "cresset/fr.modulus"], apart := false, laid := [("cresset/fp.modulus", laid_cresset_fp_modulus), ("cresset/fp.square", laid_cresset_fp_square), ("cresset/fr.modulus", laid_cresset_fr_modulus), ("cresset/fr.square", laid_cresset_fr_square)] }
def G1AddsSaid : Prop := g1AddsRow.holds Tryd.pinned (OpenSpec.ofChange g1AddsSpec)

/-- ITS FALSE NEIGHBOUR: 'it returns false'. Refute it at one input. -/
def g1AddsWrong : ChangeSpec := { name := "g1Adds", fn := fun _ => fun
  | [d1, d2, d3, d4, d5] => { results := [.lit (.bool false)], args := [d1, d2, d3, d4, d5] }
  | _ => none }
def G1AddsWrongFalsely : Prop := g1AddsRow.holds Tryd.pinned (OpenSpec.ofChange g1AddsWrong)

/-- 'cressetlaw07.G1Scalars': WHATEVER THE INPUT: true; the input reads as it did. -/
def g1ScalarsSpec : ChangeSpec := { name := "g1Scalars", fn := fun _ => fun
  | [d1, d2, d3] => { results := [.lit (.bool true)], args := [d1, d2, d3] }
  | _ => none }
def g1ScalarsRow : OpenClaim := { program := "ytbchpfmfiokbgaadoor", sum := "2ba51a15eced12359a6d98d4eb4fd1cb286eb6ef73499a17557d9d34a342ae4e", func := "cresset/cressetlaw07.G1Scalars", spec := "g1Scalars", inPlace := ["math/bits.Sub64", "math/bits.Add64"], unfollowed := true, recurses := true, named := ["cresset/fp.square", "cresset/fp.modulus", "cresset/fr.square", "cresset/fr.modulus"], apart := false, laid := [("cresset/fp.modulus", laid_cresset_fp_modulus), ("cresset/fp.square", laid_cresset_fp_square), ("cresset/fr.modulus", laid_cresset_fr_modulus), ("cresset/fr.square", laid_cresset_fr_square)] }
def G1ScalarsSaid : Prop := g1ScalarsRow.holds Tryd.pinned (OpenSpec.ofChange g1ScalarsSpec)

/-- ITS FALSE NEIGHBOUR: 'it returns false'. Refute it at one input. -/
def g1ScalarsWrong : ChangeSpec := { name := "g1Scalars", fn := fun _ => fun
  | [d1, d2, d3] => { results := [.lit (.bool false)], args := [d1, d2, d3] }
  | _ => none }
def G1ScalarsWrongFalsely : Prop := g1ScalarsRow.holds Tryd.pinned (OpenSpec.ofChange g1ScalarsWrong)

/-- 'cressetlaw07.G1Groups': WHATEVER THE INPUT: true; the input reads as it did. -/
def g1GroupsSpec : ChangeSpec := { name := "g1Groups", fn := fun _ => fun
  | [d1, d2] => { results := [.lit (.bool true)], args := [d1, d2] }
  | _ => none }
def g1GroupsRow : OpenClaim := { program := "ytbchpfmfiokbgaadoor", sum := "2ba51a15eced12359a6d98d4eb4fd1cb286eb6ef73499a17557d9d34a342ae4e", func := "cresset/cressetlaw07.G1Groups", spec := "g1Groups", inPlace := ["math/bits.Sub64", "math/bits.Add64"], unfollowed := true, recurses := true, named := ["cresset/fp.square", "cresset/fp.modulus", "cresset/fr.square", "cresset/fr.modulus"], apart := false, laid := [("cresset/fp.modulus", laid_cresset_fp_modulus), ("cresset/fp.square", laid_cresset_fp_square), ("cresset/fr.modulus", laid_cresset_fr_modulus), ("cresset/fr.square", laid_cresset_fr_square)] }
def G1GroupsSaid : Prop := g1GroupsRow.holds Tryd.pinned (OpenSpec.ofChange g1GroupsSpec)

/-- ITS FALSE NEIGHBOUR: 'it returns false'. Refute it at one input. -/
def g1GroupsWrong : ChangeSpec := { name := "g1Groups", fn := fun _ => fun
  | [d1, d2] => { results := [.lit (.bool false)], args := [d1, d2] }
  | _ => none }
def G1GroupsWrongFalsely : Prop := g1GroupsRow.holds Tryd.pinned (OpenSpec.ofChange g1GroupsWrong)

/-- 'cressetlaw08.G2Rules': WHATEVER THE INPUT: true; the input reads as it did. -/
def g2RulesSpec : ChangeSpec := { name := "g2Rules", fn := fun _ => fun
  | [d1, d2, d3] => { results := [.lit (.bool true)], args := [d1, d2, d3] }
  | _ => none }
def g2RulesRow : OpenClaim := { program := "ytbchpfmfiokbgaadoor", sum := "2ba51a15eced12359a6d98d4eb4fd1cb286eb6ef73499a17557d9d34a342ae4e", func := "cresset/cressetlaw08.G2Rules", spec := "g2Rules", inPlace := ["math/bits.Sub64", "math/bits.Add64"], unfollowed := true, recurses := true, named := ["cresset/fp.square", "cresset/fp.modulus", "cresset/fr.square", "cresset/fr.modulus"], apart := false, laid := [("cresset/fp.modulus", laid_cresset_fp_modulus), ("cresset/fp.square", laid_cresset_fp_square), ("cresset/fr.modulus", laid_cresset_fr_modulus), ("cresset/fr.square", laid_cresset_fr_square)] }
def G2RulesSaid : Prop := g2RulesRow.holds Tryd.pinned (OpenSpec.ofChange g2RulesSpec)

/-- ITS FALSE NEIGHBOUR: 'it returns false'. Refute it at one input. -/
def g2RulesWrong : ChangeSpec := { name := "g2Rules", fn := fun _ => fun
  | [d1, d2, d3] => { results := [.lit (.bool false)], args := [d1, d2, d3] }
  | _ => none }
def G2RulesWrongFalsely : Prop := g2RulesRow.holds Tryd.pinned (OpenSpec.ofChange g2RulesWrong)

/-- 'cressetlaw08.G2Lists': WHATEVER THE INPUT: true; the input reads as it did. -/
def g2ListsSpec : ChangeSpec := { name := "g2Lists", fn := fun _ => fun
  | [d1, d2] => { results := [.lit (.bool true)], args := [d1, d2] }
  | _ => none }
def g2ListsRow : OpenClaim := { program := "ytbchpfmfiokbgaadoor", sum := "2ba51a15eced12359a6d98d4eb4fd1cb286eb6ef73499a17557d9d34a342ae4e", func := "cresset/cressetlaw08.G2Lists", spec := "g2Lists", inPlace := ["math/bits.Sub64", "math/bits.Add64"], unfollowed := true, recurses := true, named := ["cresset/fp.square", "cresset/fp.modulus", "cresset/fr.square", "cresset/fr.modulus"], apart := false, laid := [("cresset/fp.modulus", laid_cresset_fp_modulus), ("cresset/fp.square", laid_cresset_fp_square), ("cresset/fr.modulus", laid_cresset_fr_modulus), ("cresset/fr.square", laid_cresset_fr_square)] }
def G2ListsSaid : Prop := g2ListsRow.holds Tryd.pinned (OpenSpec.ofChange g2ListsSpec)

/-- ITS FALSE NEIGHBOUR: 'it returns false'. Refute it at one input. -/
def g2ListsWrong : ChangeSpec := { name := "g2Lists", fn := fun _ => fun
  | [d1, d2] => { results := [.lit (.bool false)], args := [d1, d2] }
  | _ => none }
def G2ListsWrongFalsely : Prop := g2ListsRow.holds Tryd.pinned (OpenSpec.ofChange g2ListsWrong)

/-- 'cressetlaw08.G2Scalars': WHATEVER THE INPUT: true; the input reads as it did. -/
def g2ScalarsSpec : ChangeSpec := { name := "g2Scalars", fn := fun _ => fun
  | [d1, d2, d3] => { results := [.lit (.bool true)], args := [d1, d2, d3] }
  | _ => none }
def g2ScalarsRow : OpenClaim := { program := "ytbchpfmfiokbgaadoor", sum := "2ba51a15eced12359a6d98d4eb4fd1cb286eb6ef73499a17557d9d34a342ae4e", func := "cresset/cressetlaw08.G2Scalars", spec := "g2Scalars", inPlace := ["math/bits.Sub64", "math/bits.Add64"], unfollowed := true, recurses := true, named := ["cresset/fp.square", "cresset/fp.modulus", "cresset/fr.square", "cresset/fr.modulus"], apart := false, laid := [("cresset/fp.modulus", laid_cresset_fp_modulus), ("cresset/fp.square", laid_cresset_fp_square), ("cresset/fr.modulus", laid_cresset_fr_modulus), ("cresset/fr.square", laid_cresset_fr_square)] }
def G2ScalarsSaid : Prop := g2ScalarsRow.holds Tryd.pinned (OpenSpec.ofChange g2ScalarsSpec)

/-- ITS FALSE NEIGHBOUR: 'it returns false'. Refute it at one input. -/
def g2ScalarsWrong : ChangeSpec := { name := "g2Scalars", fn := fun _ => fun
  | [d1, d2, d3] => { results := [.lit (.bool false)], args := [d1, d2, d3] }
  | _ => none }
def G2ScalarsWrongFalsely : Prop := g2ScalarsRow.holds Tryd.pinned (OpenSpec.ofChange g2ScalarsWrong)

/-- 'cressetlaw08.G2Counts': WHATEVER THE INPUT: true; the input reads as it did. -/
def g2CountsSpec : ChangeSpec := { name := "g2Counts", fn := fun _ => fun
  | [d1, d2, d3] => { results := [.lit (.bool true)], args := [d1, d2, d3] }
  | _ => none }
def g2CountsRow : OpenClaim := { program := "ytbchpfmfiokbgaadoor", sum := "2ba51a15eced12359a6d98d4eb4fd1cb286eb6ef73499a17557d9d34a342ae4e", func := "cresset/cressetlaw08.G2Counts", spec := "g2Counts", inPlace := ["math/bits.Sub64", "math/bits.Add64"], unfollowed := true, recurses := true, named := ["cresset/fp.square", "cresset/fp.modulus", "cresset/fr.square", "cresset/fr.modulus"], apart := false, laid := [("cresset/fp.modulus", laid_cresset_fp_modulus), ("cresset/fp.square", laid_cresset_fp_square), ("cresset/fr.modulus", laid_cresset_fr_modulus), ("cresset/fr.square", laid_cresset_fr_square)] }
def G2CountsSaid : Prop := g2CountsRow.holds Tryd.pinned (OpenSpec.ofChange g2CountsSpec)

/-- ITS FALSE NEIGHBOUR: 'it returns false'. Refute it at one input. -/
def g2CountsWrong : ChangeSpec := { name := "g2Counts", fn := fun _ => fun
  | [d1, d2, d3] => { results := [.lit (.bool false)], args := [d1, d2, d3] }
  | _ => none }
def G2CountsWrongFalsely : Prop := g2CountsRow.holds Tryd.pinned (OpenSpec.ofChange g2CountsWrong)

/-- 'cressetlaw08.G2Adds': WHATEVER THE INPUT: true; the input reads as it did. -/
def g2AddsSpec : ChangeSpec := { name := "g2Adds", fn := fun _ => fun
  | [d1, d2, d3, d4, d5] => { results := [.lit (.bool true)], args := [d1, d2, d3, d4, d5] }
  | _ => none }
def g2AddsRow : OpenClaim := { program := "ytbchpfmfiokbgaadoor", sum := "2ba51a15eced12359a6d98d4eb4fd1cb286eb6ef73499a17557d9d34a342ae4e", func := "cresset/cressetlaw08.G2Adds", spec := "g2Adds", inPlace := ["math/bits.Sub64", "math/bits.Add64"], unfollowed := true, recurses := true, named := ["cresset/fp.square", "cresset/fp.modulus", "cresset/fr.square", "cresset/fr.modulus"], apart := false, laid := [("cresset/fp.modulus", laid_cresset_fp_modulus), ("cresset/fp.square", laid_cresset_fp_square), ("cresset/fr.modulus", laid_cresset_fr_modulus), ("cresset/fr.square", laid_cresset_fr_square)] }
def G2AddsSaid : Prop := g2AddsRow.holds Tryd.pinned (OpenSpec.ofChange g2AddsSpec)

/-- ITS FALSE NEIGHBOUR: 'it returns false'. Refute it at one input. -/
def g2AddsWrong : ChangeSpec := { name := "g2Adds", fn := fun _ => fun
  | [d1, d2, d3, d4, d5] => { results := [.lit (.bool false)], args := [d1, d2, d3, d4, d5] }
  | _ => none }
def G2AddsWrongFalsely : Prop := g2AddsRow.holds Tryd.pinned (OpenSpec.ofChange g2AddsWrong)

/-- 'cressetlaw08.G2Groups': WHATEVER THE INPUT: true; the input reads as it did. -/
def g2GroupsSpec : ChangeSpec := { name := "g2Groups", fn := fun _ => fun
  | [d1, d2] => { results := [.lit (.bool true)], args := [d1, d2] }
  | _ => none }
def g2GroupsRow : OpenClaim := { program := "ytbchpfmfiokbgaadoor", sum := "2ba51a15eced12359a6d98d4eb4fd1cb286eb6ef73499a17557d9d34a342ae4e", func := "cresset/cressetlaw08.G2Groups", spec := "g2Groups", inPlace := ["math/bits.Sub64", "math/bits.Add64"], unfollowed := true, recurses := true, named := ["cresset/fp.square", "cresset/fp.modulus", "cresset/fr.square", "cresset/fr.modulus"], apart := false, laid := [("cresset/fp.modulus", laid_cresset_fp_modulus), ("cresset/fp.square", laid_cresset_fp_square), ("cresset/fr.modulus", laid_cresset_fr_modulus), ("cresset/fr.square", laid_cresset_fr_square)] }
def G2GroupsSaid : Prop := g2GroupsRow.holds Tryd.pinned (OpenSpec.ofChange g2GroupsSpec)

/-- ITS FALSE NEIGHBOUR: 'it returns false'. Refute it at one input. -/
def g2GroupsWrong : ChangeSpec := { name := "g2Groups", fn := fun _ => fun
  | [d1, d2] => { results := [.lit (.bool false)], args := [d1, d2] }
  | _ => none }
def G2GroupsWrongFalsely : Prop := g2GroupsRow.holds Tryd.pinned (OpenSpec.ofChange g2GroupsWrong)

/- THE SECOND FORM. 'bulk': how many values and letters a reading holds, each counted each time it is reached (what is shared counts as often as it is met; a slice's spare places count too). A statement '..UptoSaid' is the law's where the arguments, and the package variables that the reading takes, are together of bulk at most 1048576: NARROWER than '..Said'. Prove '..Said' where nothing that the law and all that it calls make is longer than what came in: it says more and counts as full. Else prove '..UptoSaid'. A law counts once. -/
mutual
def uptoBulk {H : Type} : DataW H → Nat
  | .lit (.string bytes) => bytes.length + 1
  | .lit _ => 1
  | .nil => 1
  | .ptr d => uptoBulk d + 1
  | .slice elems spare => uptoBulkAll elems + uptoBulkAll spare + 1
  | .agg parts => uptoBulkAll parts + 1
  | .iface _ d => uptoBulk d + 1
  | .map entries => uptoBulkEntries entries + 1
  | .held _ => 1
def uptoBulkAll {H : Type} : List (DataW H) → Nat
  | [] => 0
  | d :: r => uptoBulk d + uptoBulkAll r
def uptoBulkEntries {H : Type} : List (Lit × DataW H) → Nat
  | [] => 0
  | x :: r => uptoBulkEntry x + uptoBulkEntries r
def uptoBulkEntry {H : Type} : Lit × DataW H → Nat
  | (.string bytes, d) => bytes.length + uptoBulk d + 1
  | (_, d) => uptoBulk d + 1
 end
def uptoSmall : (H : Type) → List (DataW H) → Bool := fun _ ds => decide (uptoBulkAll ds ≤ 1048576)
def OpenSpec.upto (s : _root_.Go.ChangeSpec) : _root_.Go.OpenSpec := { _root_.Go.OpenSpec.ofChange s with cond := some uptoSmall }

/-- 'cressetlaw07.G1Rules', WHERE WHAT IT READS IS OF BULK AT MOST 1048576: true; the input reads as it did. -/
def g1RulesUptoRow : OpenClaim := { program := "ytbchpfmfiokbgaadoor", sum := "2ba51a15eced12359a6d98d4eb4fd1cb286eb6ef73499a17557d9d34a342ae4e", func := "cresset/cressetlaw07.G1Rules", spec := "g1Rules", inPlace := ["math/bits.Sub64", "math/bits.Add64"], unfollowed := true, recurses := true, named := ["cresset/fp.square", "cresset/fp.modulus", "cresset/fr.square", "cresset/fr.modulus"], apart := false, laid := [("cresset/fp.modulus", laid_cresset_fp_modulus), ("cresset/fp.square", laid_cresset_fp_square), ("cresset/fr.modulus", laid_cresset_fr_modulus), ("cresset/fr.square", laid_cresset_fr_square)], narrowed := true }
def G1RulesUptoSaid : Prop := g1RulesUptoRow.holds Tryd.pinned (OpenSpec.upto g1RulesSpec)

/-- 'cressetlaw07.G1Counts', WHERE WHAT IT READS IS OF BULK AT MOST 1048576: true; the input reads as it did. -/
def g1CountsUptoRow : OpenClaim := { program := "ytbchpfmfiokbgaadoor", sum := "2ba51a15eced12359a6d98d4eb4fd1cb286eb6ef73499a17557d9d34a342ae4e", func := "cresset/cressetlaw07.G1Counts", spec := "g1Counts", inPlace := ["math/bits.Sub64", "math/bits.Add64"], unfollowed := true, recurses := true, named := ["cresset/fp.square", "cresset/fp.modulus", "cresset/fr.square", "cresset/fr.modulus"], apart := false, laid := [("cresset/fp.modulus", laid_cresset_fp_modulus), ("cresset/fp.square", laid_cresset_fp_square), ("cresset/fr.modulus", laid_cresset_fr_modulus), ("cresset/fr.square", laid_cresset_fr_square)], narrowed := true }
def G1CountsUptoSaid : Prop := g1CountsUptoRow.holds Tryd.pinned (OpenSpec.upto g1CountsSpec)

/-- 'cressetlaw07.G1Lists', WHERE WHAT IT READS IS OF BULK AT MOST 1048576: true; the input reads as it did. -/
def g1ListsUptoRow : OpenClaim := { program := "ytbchpfmfiokbgaadoor", sum := "2ba51a15eced12359a6d98d4eb4fd1cb286eb6ef73499a17557d9d34a342ae4e", func := "cresset/cressetlaw07.G1Lists", spec := "g1Lists", inPlace := ["math/bits.Sub64", "math/bits.Add64"], unfollowed := true, recurses := true, named := ["cresset/fp.square", "cresset/fp.modulus", "cresset/fr.square", "cresset/fr.modulus"], apart := false, laid := [("cresset/fp.modulus", laid_cresset_fp_modulus), ("cresset/fp.square", laid_cresset_fp_square), ("cresset/fr.modulus", laid_cresset_fr_modulus), ("cresset/fr.square", laid_cresset_fr_square)], narrowed := true }
def G1ListsUptoSaid : Prop := g1ListsUptoRow.holds Tryd.pinned (OpenSpec.upto g1ListsSpec)

/-- 'cressetlaw07.G1Adds', WHERE WHAT IT READS IS OF BULK AT MOST 1048576: true; the input reads as it did. -/
def g1AddsUptoRow : OpenClaim := { program := "ytbchpfmfiokbgaadoor", sum := "2ba51a15eced12359a6d98d4eb4fd1cb286eb6ef73499a17557d9d34a342ae4e", func := "cresset/cressetlaw07.G1Adds", spec := "g1Adds", inPlace := ["math/bits.Sub64", "math/bits.Add64"], unfollowed := true, recurses := true, named := ["cresset/fp.square", "cresset/fp.modulus", "cresset/fr.square", "cresset/fr.modulus"], apart := false, laid := [("cresset/fp.modulus", laid_cresset_fp_modulus), ("cresset/fp.square", laid_cresset_fp_square), ("cresset/fr.modulus", laid_cresset_fr_modulus), ("cresset/fr.square", laid_cresset_fr_square)], narrowed := true }
def G1AddsUptoSaid : Prop := g1AddsUptoRow.holds Tryd.pinned (OpenSpec.upto g1AddsSpec)

/-- 'cressetlaw07.G1Scalars', WHERE WHAT IT READS IS OF BULK AT MOST 1048576: true; the input reads as it did. -/
def g1ScalarsUptoRow : OpenClaim := { program := "ytbchpfmfiokbgaadoor", sum := "2ba51a15eced12359a6d98d4eb4fd1cb286eb6ef73499a17557d9d34a342ae4e", func := "cresset/cressetlaw07.G1Scalars", spec := "g1Scalars", inPlace := ["math/bits.Sub64", "math/bits.Add64"], unfollowed := true, recurses := true, named := ["cresset/fp.square", "cresset/fp.modulus", "cresset/fr.square", "cresset/fr.modulus"], apart := false, laid := [("cresset/fp.modulus", laid_cresset_fp_modulus), ("cresset/fp.square", laid_cresset_fp_square), ("cresset/fr.modulus", laid_cresset_fr_modulus), ("cresset/fr.square", laid_cresset_fr_square)], narrowed := true }
def G1ScalarsUptoSaid : Prop := g1ScalarsUptoRow.holds Tryd.pinned (OpenSpec.upto g1ScalarsSpec)

/-- 'cressetlaw07.G1Groups', WHERE WHAT IT READS IS OF BULK AT MOST 1048576: true; the input reads as it did. -/
def g1GroupsUptoRow : OpenClaim := { program := "ytbchpfmfiokbgaadoor", sum := "2ba51a15eced12359a6d98d4eb4fd1cb286eb6ef73499a17557d9d34a342ae4e", func := "cresset/cressetlaw07.G1Groups", spec := "g1Groups", inPlace := ["math/bits.Sub64", "math/bits.Add64"], unfollowed := true, recurses := true, named := ["cresset/fp.square", "cresset/fp.modulus", "cresset/fr.square", "cresset/fr.modulus"], apart := false, laid := [("cresset/fp.modulus", laid_cresset_fp_modulus), ("cresset/fp.square", laid_cresset_fp_square), ("cresset/fr.modulus", laid_cresset_fr_modulus), ("cresset/fr.square", laid_cresset_fr_square)], narrowed := true }
def G1GroupsUptoSaid : Prop := g1GroupsUptoRow.holds Tryd.pinned (OpenSpec.upto g1GroupsSpec)

/-- 'cressetlaw08.G2Rules', WHERE WHAT IT READS IS OF BULK AT MOST 1048576: true; the input reads as it did. -/
def g2RulesUptoRow : OpenClaim := { program := "ytbchpfmfiokbgaadoor", sum := "2ba51a15eced12359a6d98d4eb4fd1cb286eb6ef73499a17557d9d34a342ae4e", func := "cresset/cressetlaw08.G2Rules", spec := "g2Rules", inPlace := ["math/bits.Sub64", "math/bits.Add64"], unfollowed := true, recurses := true, named := ["cresset/fp.square", "cresset/fp.modulus", "cresset/fr.square", "cresset/fr.modulus"], apart := false, laid := [("cresset/fp.modulus", laid_cresset_fp_modulus), ("cresset/fp.square", laid_cresset_fp_square), ("cresset/fr.modulus", laid_cresset_fr_modulus), ("cresset/fr.square", laid_cresset_fr_square)], narrowed := true }
def G2RulesUptoSaid : Prop := g2RulesUptoRow.holds Tryd.pinned (OpenSpec.upto g2RulesSpec)

/-- 'cressetlaw08.G2Lists', WHERE WHAT IT READS IS OF BULK AT MOST 1048576: true; the input reads as it did. -/
def g2ListsUptoRow : OpenClaim := { program := "ytbchpfmfiokbgaadoor", sum := "2ba51a15eced12359a6d98d4eb4fd1cb286eb6ef73499a17557d9d34a342ae4e", func := "cresset/cressetlaw08.G2Lists", spec := "g2Lists", inPlace := ["math/bits.Sub64", "math/bits.Add64"], unfollowed := true, recurses := true, named := ["cresset/fp.square", "cresset/fp.modulus", "cresset/fr.square", "cresset/fr.modulus"], apart := false, laid := [("cresset/fp.modulus", laid_cresset_fp_modulus), ("cresset/fp.square", laid_cresset_fp_square), ("cresset/fr.modulus", laid_cresset_fr_modulus), ("cresset/fr.square", laid_cresset_fr_square)], narrowed := true }
def G2ListsUptoSaid : Prop := g2ListsUptoRow.holds Tryd.pinned (OpenSpec.upto g2ListsSpec)

/-- 'cressetlaw08.G2Scalars', WHERE WHAT IT READS IS OF BULK AT MOST 1048576: true; the input reads as it did. -/
def g2ScalarsUptoRow : OpenClaim := { program := "ytbchpfmfiokbgaadoor", sum := "2ba51a15eced12359a6d98d4eb4fd1cb286eb6ef73499a17557d9d34a342ae4e", func := "cresset/cressetlaw08.G2Scalars", spec := "g2Scalars", inPlace := ["math/bits.Sub64", "math/bits.Add64"], unfollowed := true, recurses := true, named := ["cresset/fp.square", "cresset/fp.modulus", "cresset/fr.square", "cresset/fr.modulus"], apart := false, laid := [("cresset/fp.modulus", laid_cresset_fp_modulus), ("cresset/fp.square", laid_cresset_fp_square), ("cresset/fr.modulus", laid_cresset_fr_modulus), ("cresset/fr.square", laid_cresset_fr_square)], narrowed := true }
def G2ScalarsUptoSaid : Prop := g2ScalarsUptoRow.holds Tryd.pinned (OpenSpec.upto g2ScalarsSpec)

/-- 'cressetlaw08.G2Counts', WHERE WHAT IT READS IS OF BULK AT MOST 1048576: true; the input reads as it did. -/
def g2CountsUptoRow : OpenClaim := { program := "ytbchpfmfiokbgaadoor", sum := "2ba51a15eced12359a6d98d4eb4fd1cb286eb6ef73499a17557d9d34a342ae4e", func := "cresset/cressetlaw08.G2Counts", spec := "g2Counts", inPlace := ["math/bits.Sub64", "math/bits.Add64"], unfollowed := true, recurses := true, named := ["cresset/fp.square", "cresset/fp.modulus", "cresset/fr.square", "cresset/fr.modulus"], apart := false, laid := [("cresset/fp.modulus", laid_cresset_fp_modulus), ("cresset/fp.square", laid_cresset_fp_square), ("cresset/fr.modulus", laid_cresset_fr_modulus), ("cresset/fr.square", laid_cresset_fr_square)], narrowed := true }
def G2CountsUptoSaid : Prop := g2CountsUptoRow.holds Tryd.pinned (OpenSpec.upto g2CountsSpec)

/-- 'cressetlaw08.G2Adds', WHERE WHAT IT READS IS OF BULK AT MOST 1048576: true; the input reads as it did. -/
def g2AddsUptoRow : OpenClaim := { program := "ytbchpfmfiokbgaadoor", sum := "2ba51a15eced12359a6d98d4eb4fd1cb286eb6ef73499a17557d9d34a342ae4e", func := "cresset/cressetlaw08.G2Adds", spec := "g2Adds", inPlace := ["math/bits.Sub64", "math/bits.Add64"], unfollowed := true, recurses := true, named := ["cresset/fp.square", "cresset/fp.modulus", "cresset/fr.square", "cresset/fr.modulus"], apart := false, laid := [("cresset/fp.modulus", laid_cresset_fp_modulus), ("cresset/fp.square", laid_cresset_fp_square), ("cresset/fr.modulus", laid_cresset_fr_modulus), ("cresset/fr.square", laid_cresset_fr_square)], narrowed := true }
def G2AddsUptoSaid : Prop := g2AddsUptoRow.holds Tryd.pinned (OpenSpec.upto g2AddsSpec)

/-- 'cressetlaw08.G2Groups', WHERE WHAT IT READS IS OF BULK AT MOST 1048576: true; the input reads as it did. -/
def g2GroupsUptoRow : OpenClaim := { program := "ytbchpfmfiokbgaadoor", sum := "2ba51a15eced12359a6d98d4eb4fd1cb286eb6ef73499a17557d9d34a342ae4e", func := "cresset/cressetlaw08.G2Groups", spec := "g2Groups", inPlace := ["math/bits.Sub64", "math/bits.Add64"], unfollowed := true, recurses := true, named := ["cresset/fp.square", "cresset/fp.modulus", "cresset/fr.square", "cresset/fr.modulus"], apart := false, laid := [("cresset/fp.modulus", laid_cresset_fp_modulus), ("cresset/fp.square", laid_cresset_fp_square), ("cresset/fr.modulus", laid_cresset_fr_modulus), ("cresset/fr.square", laid_cresset_fr_square)], narrowed := true }
def G2GroupsUptoSaid : Prop := g2GroupsUptoRow.holds Tryd.pinned (OpenSpec.upto g2GroupsSpec)

end Rows
end Go.Proofs.YtbchpfmfiokbgaaDoor
