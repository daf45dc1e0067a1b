/-
  NARROWER THAN 'FOR EVERY INPUT', by the rows' own cells (each row's printed sentence says how): CodecReads1: laid · CodecReads2: laid · CodecOneForm: laid · CodecBack: laid · CodecMarks: laid · DealSetups: laid.
  DERIVED. THE GIVEN ROWS OF THIS SEAT. 6 by the template 'for every input the law returns true; each argument reads behind the call as it read before'; 0 by the template 'total and deterministic' (their statements: YtndonmbemehefaaDoorTotals.lean).
  GIVEN WITH THE SEED: the statements are not yours to turn. If you find one false, say at which input.
  Laid BY PROGRAM, IN A SANDBOX (cutbox-rows.mjs): the forced cells as the released guide's own fill.sh prints them over the translation e3778154ba5d2906… (all of the seat's roots in one cut). By AI agents, Wed Nov 11 2026. No macro, syntax, notation, axiom, sorry.
-/
import Derived.Test.YtndonmbemehefaaDoorChecked
import GoSem.Claim
import GoSem.ClaimJoined
import GoSem.ClaimMapViews
import Derived.JoinedTies
import Derived.KernelRfl
namespace Go.Proofs.YtndonmbemehefaaDoor
/- THE CELL 'sum', in the pinned program and in every row, IS THE sha256 OF THE DUMP (.gsa) THAT YtndonmbemehefaaDoorProg.lean LOADS. Nothing in Lean hashes anything: it is a label: what it is worth is what the hold of that sum in a sandbox is worth. -/
noncomputable def Tryd.pinned : Pinned := { name := "ytndonmbemehefaadoor", sum := "e3778154ba5d290674069e79e5f4e73bae953e0b5c3c404fb13e3452a1570624", checked := Tryd.checked }
namespace Rows
def none {H : Type} : Left H := { results := [], args := [] }

/- WHAT THE LISTED PACKAGE-LEVEL VARIABLES READ AS WHEN THE CALL BEGINS. Each datum BY PROGRAM (the guide's laid-datum.mjs) off the statement by which the dump's own 'gosem.cut.vars' lays the variable. In a bare row this is a premise. The card (YtndonmbemehefaaDoorCards.lean) ties it to the program's text. -/
def laid_cresset_fp_modulus {H : Type} : DataW H := .agg [.lit (.int .u64 13402431016077863595), .lit (.int .u64 2210141511517208575), .lit (.int .u64 7435674573564081700), .lit (.int .u64 7239337960414712511), .lit (.int .u64 5412103778470702295), .lit (.int .u64 1873798617647539866)]
def laid_cresset_fp_square {H : Type} : DataW H := .agg [.lit (.int .u64 17644856173732828998), .lit (.int .u64 754043588434789617), .lit (.int .u64 10224657059481499349), .lit (.int .u64 7488229067341005760), .lit (.int .u64 11130996698012816685), .lit (.int .u64 1267921511277847466)]
def laid_cresset_fr_modulus {H : Type} : DataW H := .agg [.lit (.int .u64 18446744069414584321), .lit (.int .u64 6034159408538082302), .lit (.int .u64 3691218898639771653), .lit (.int .u64 8353516859464449352)]
def laid_cresset_fr_square {H : Type} : DataW H := .agg [.lit (.int .u64 14526898881837571181), .lit (.int .u64 3129137299524312099), .lit (.int .u64 419701826671360399), .lit (.int .u64 524908885293268753)]

/-- 'cressetlaw09.CodecReads1': WHATEVER THE INPUT: true; the input reads as it did. -/
def codecReads1Spec : ChangeSpec := { name := "codecReads1", fn := fun _ => fun
  | [d] => { results := [.lit (.bool true)], args := [d] }
  | _ => none }
def codecReads1Row : OpenClaim := { program := "ytndonmbemehefaadoor", sum := "e3778154ba5d290674069e79e5f4e73bae953e0b5c3c404fb13e3452a1570624", func := "cresset/cressetlaw09.CodecReads1", spec := "codecReads1", inPlace := ["math/bits.Add64", "math/bits.Sub64"], unfollowed := true, recurses := true, named := ["cresset/fp.square", "cresset/fp.modulus"], apart := false, laid := [("cresset/fp.modulus", laid_cresset_fp_modulus), ("cresset/fp.square", laid_cresset_fp_square)] }
def CodecReads1Said : Prop := codecReads1Row.holds Tryd.pinned (OpenSpec.ofChange codecReads1Spec)

/-- ITS FALSE NEIGHBOUR: 'it returns false'. Refute it at one input. -/
def codecReads1Wrong : ChangeSpec := { name := "codecReads1", fn := fun _ => fun
  | [d] => { results := [.lit (.bool false)], args := [d] }
  | _ => none }
def CodecReads1WrongFalsely : Prop := codecReads1Row.holds Tryd.pinned (OpenSpec.ofChange codecReads1Wrong)

/-- 'cressetlaw09.CodecReads2': WHATEVER THE INPUT: true; the input reads as it did. -/
def codecReads2Spec : ChangeSpec := { name := "codecReads2", fn := fun _ => fun
  | [d] => { results := [.lit (.bool true)], args := [d] }
  | _ => none }
def codecReads2Row : OpenClaim := { program := "ytndonmbemehefaadoor", sum := "e3778154ba5d290674069e79e5f4e73bae953e0b5c3c404fb13e3452a1570624", func := "cresset/cressetlaw09.CodecReads2", spec := "codecReads2", inPlace := ["math/bits.Add64", "math/bits.Sub64"], unfollowed := true, recurses := true, named := ["cresset/fp.square", "cresset/fp.modulus"], apart := false, laid := [("cresset/fp.modulus", laid_cresset_fp_modulus), ("cresset/fp.square", laid_cresset_fp_square)] }
def CodecReads2Said : Prop := codecReads2Row.holds Tryd.pinned (OpenSpec.ofChange codecReads2Spec)

/-- ITS FALSE NEIGHBOUR: 'it returns false'. Refute it at one input. -/
def codecReads2Wrong : ChangeSpec := { name := "codecReads2", fn := fun _ => fun
  | [d] => { results := [.lit (.bool false)], args := [d] }
  | _ => none }
def CodecReads2WrongFalsely : Prop := codecReads2Row.holds Tryd.pinned (OpenSpec.ofChange codecReads2Wrong)

/-- 'cressetlaw09.CodecOneForm': WHATEVER THE INPUT: true; the input reads as it did. -/
def codecOneFormSpec : ChangeSpec := { name := "codecOneForm", fn := fun _ => fun
  | [d1, d2] => { results := [.lit (.bool true)], args := [d1, d2] }
  | _ => none }
def codecOneFormRow : OpenClaim := { program := "ytndonmbemehefaadoor", sum := "e3778154ba5d290674069e79e5f4e73bae953e0b5c3c404fb13e3452a1570624", func := "cresset/cressetlaw09.CodecOneForm", spec := "codecOneForm", inPlace := ["math/bits.Add64", "math/bits.Sub64"], unfollowed := true, recurses := true, named := ["cresset/fp.square", "cresset/fp.modulus"], apart := false, laid := [("cresset/fp.modulus", laid_cresset_fp_modulus), ("cresset/fp.square", laid_cresset_fp_square)] }
def CodecOneFormSaid : Prop := codecOneFormRow.holds Tryd.pinned (OpenSpec.ofChange codecOneFormSpec)

/-- ITS FALSE NEIGHBOUR: 'it returns false'. Refute it at one input. -/
def codecOneFormWrong : ChangeSpec := { name := "codecOneForm", fn := fun _ => fun
  | [d1, d2] => { results := [.lit (.bool false)], args := [d1, d2] }
  | _ => none }
def CodecOneFormWrongFalsely : Prop := codecOneFormRow.holds Tryd.pinned (OpenSpec.ofChange codecOneFormWrong)

/-- 'cressetlaw09.CodecBack': WHATEVER THE INPUT: true; the input reads as it did. -/
def codecBackSpec : ChangeSpec := { name := "codecBack", fn := fun _ => fun
  | [d] => { results := [.lit (.bool true)], args := [d] }
  | _ => none }
def codecBackRow : OpenClaim := { program := "ytndonmbemehefaadoor", sum := "e3778154ba5d290674069e79e5f4e73bae953e0b5c3c404fb13e3452a1570624", func := "cresset/cressetlaw09.CodecBack", spec := "codecBack", inPlace := ["math/bits.Add64", "math/bits.Sub64"], unfollowed := true, recurses := true, named := ["cresset/fp.square", "cresset/fp.modulus", "cresset/fr.square", "cresset/fr.modulus"], apart := false, laid := [("cresset/fp.modulus", laid_cresset_fp_modulus), ("cresset/fp.square", laid_cresset_fp_square), ("cresset/fr.modulus", laid_cresset_fr_modulus), ("cresset/fr.square", laid_cresset_fr_square)] }
def CodecBackSaid : Prop := codecBackRow.holds Tryd.pinned (OpenSpec.ofChange codecBackSpec)

/-- ITS FALSE NEIGHBOUR: 'it returns false'. Refute it at one input. -/
def codecBackWrong : ChangeSpec := { name := "codecBack", fn := fun _ => fun
  | [d] => { results := [.lit (.bool false)], args := [d] }
  | _ => none }
def CodecBackWrongFalsely : Prop := codecBackRow.holds Tryd.pinned (OpenSpec.ofChange codecBackWrong)

/-- 'cressetlaw09.CodecMarks': WHATEVER THE INPUT: true; the input reads as it did. -/
def codecMarksSpec : ChangeSpec := { name := "codecMarks", fn := fun _ => fun
  | [d1, d2] => { results := [.lit (.bool true)], args := [d1, d2] }
  | _ => none }
def codecMarksRow : OpenClaim := { program := "ytndonmbemehefaadoor", sum := "e3778154ba5d290674069e79e5f4e73bae953e0b5c3c404fb13e3452a1570624", func := "cresset/cressetlaw09.CodecMarks", spec := "codecMarks", inPlace := ["math/bits.Add64", "math/bits.Sub64"], unfollowed := true, recurses := true, named := ["cresset/fp.square", "cresset/fp.modulus", "cresset/fr.square", "cresset/fr.modulus"], apart := false, laid := [("cresset/fp.modulus", laid_cresset_fp_modulus), ("cresset/fp.square", laid_cresset_fp_square), ("cresset/fr.modulus", laid_cresset_fr_modulus), ("cresset/fr.square", laid_cresset_fr_square)] }
def CodecMarksSaid : Prop := codecMarksRow.holds Tryd.pinned (OpenSpec.ofChange codecMarksSpec)

/-- ITS FALSE NEIGHBOUR: 'it returns false'. Refute it at one input. -/
def codecMarksWrong : ChangeSpec := { name := "codecMarks", fn := fun _ => fun
  | [d1, d2] => { results := [.lit (.bool false)], args := [d1, d2] }
  | _ => none }
def CodecMarksWrongFalsely : Prop := codecMarksRow.holds Tryd.pinned (OpenSpec.ofChange codecMarksWrong)

/-- 'cressetlaw22.DealSetups': WHATEVER THE INPUT: true; the input reads as it did. -/
def dealSetupsSpec : ChangeSpec := { name := "dealSetups", fn := fun _ => fun
  | [d1, d2, d3, d4] => { results := [.lit (.bool true)], args := [d1, d2, d3, d4] }
  | _ => none }
def dealSetupsRow : OpenClaim := { program := "ytndonmbemehefaadoor", sum := "e3778154ba5d290674069e79e5f4e73bae953e0b5c3c404fb13e3452a1570624", func := "cresset/cressetlaw22.DealSetups", spec := "dealSetups", inPlace := ["math/bits.Sub64", "math/bits.Add64"], named := ["cresset/fp.square", "cresset/fp.modulus"], apart := false, laid := [("cresset/fp.modulus", laid_cresset_fp_modulus), ("cresset/fp.square", laid_cresset_fp_square)] }
def DealSetupsSaid : Prop := dealSetupsRow.holds Tryd.pinned (OpenSpec.ofChange dealSetupsSpec)

/-- ITS FALSE NEIGHBOUR: 'it returns false'. Refute it at one input. -/
def dealSetupsWrong : ChangeSpec := { name := "dealSetups", fn := fun _ => fun
  | [d1, d2, d3, d4] => { results := [.lit (.bool false)], args := [d1, d2, d3, d4] }
  | _ => none }
def DealSetupsWrongFalsely : Prop := dealSetupsRow.holds Tryd.pinned (OpenSpec.ofChange dealSetupsWrong)

/- THE SECOND FORM. 'bulk': how many values and letters a reading holds, each counted each time it is reached (what is shared counts as often as it is met; a slice's spare places count too). A statement '..UptoSaid' is the law's where the arguments, and the package variables that the reading takes, are together of bulk at most 1048576: NARROWER than '..Said'. Prove '..Said' where nothing that the law and all that it calls make is longer than what came in: it says more and counts as full. Else prove '..UptoSaid'. A law counts once. -/
mutual
def uptoBulk {H : Type} : DataW H → Nat
  | .lit (.string bytes) => bytes.length + 1
  | .lit _ => 1
  | .nil => 1
  | .ptr d => uptoBulk d + 1
  | .slice elems spare => uptoBulkAll elems + uptoBulkAll spare + 1
  | .agg parts => uptoBulkAll parts + 1
  | .iface _ d => uptoBulk d + 1
  | .map entries => uptoBulkEntries entries + 1
  | .held _ => 1
def uptoBulkAll {H : Type} : List (DataW H) → Nat
  | [] => 0
  | d :: r => uptoBulk d + uptoBulkAll r
def uptoBulkEntries {H : Type} : List (Lit × DataW H) → Nat
  | [] => 0
  | x :: r => uptoBulkEntry x + uptoBulkEntries r
def uptoBulkEntry {H : Type} : Lit × DataW H → Nat
  | (.string bytes, d) => bytes.length + uptoBulk d + 1
  | (_, d) => uptoBulk d + 1
 end
def uptoSmall : (H : Type) → List (DataW H) → Bool := fun _ ds => decide (uptoBulkAll ds ≤ 1048576)
def OpenSpec.upto (s : _root_.Go.ChangeSpec) : _root_.Go.OpenSpec := { _root_.Go.OpenSpec.ofChange s with cond := some uptoSmall }

/-- 'cressetlaw09.CodecReads1', WHERE WHAT IT READS IS OF BULK AT MOST 1048576: true; the input reads as it did. -/
def codecReads1UptoRow : OpenClaim := { program := "ytndonmbemehefaadoor", sum := "e3778154ba5d290674069e79e5f4e73bae953e0b5c3c404fb13e3452a1570624", func := "cresset/cressetlaw09.CodecReads1", spec := "codecReads1", inPlace := ["math/bits.Add64", "math/bits.Sub64"], unfollowed := true, recurses := true, named := ["cresset/fp.square", "cresset/fp.modulus"], apart := false, laid := [("cresset/fp.modulus", laid_cresset_fp_modulus), ("cresset/fp.square", laid_cresset_fp_square)], narrowed := true }
def CodecReads1UptoSaid : Prop := codecReads1UptoRow.holds Tryd.pinned (OpenSpec.upto codecReads1Spec)

/-- 'cressetlaw09.CodecReads2', WHERE WHAT IT READS IS OF BULK AT MOST 1048576: true; the input reads as it did. -/
def codecReads2UptoRow : OpenClaim := { program := "ytndonmbemehefaadoor", sum := "e3778154ba5d290674069e79e5f4e73bae953e0b5c3c404fb13e3452a1570624", func := "cresset/cressetlaw09.CodecReads2", spec := "codecReads2", inPlace := ["math/bits.Add64", "math/bits.Sub64"], unfollowed := true, recurses := true, named := ["cresset/fp.square", "cresset/fp.modulus"], apart := false, laid := [("cresset/fp.modulus", laid_cresset_fp_modulus), ("cresset/fp.square", laid_cresset_fp_square)], narrowed := true }
def CodecReads2UptoSaid : Prop := codecReads2UptoRow.holds Tryd.pinned (OpenSpec.upto codecReads2Spec)

/-- 'cressetlaw09.CodecOneForm', WHERE WHAT IT READS IS OF BULK AT MOST 1048576: true; the input reads as it did. -/
def codecOneFormUptoRow : OpenClaim := { program := "ytndonmbemehefaadoor", sum := "e3778154ba5d290674069e79e5f4e73bae953e0b5c3c404fb13e3452a1570624", func := "cresset/cressetlaw09.CodecOneForm", spec := "codecOneForm", inPlace := ["math/bits.Add64", "math/bits.Sub64"], unfollowed := true, recurses := true, named := ["cresset/fp.square", "cresset/fp.modulus"], apart := false, laid := [("cresset/fp.modulus", laid_cresset_fp_modulus), ("cresset/fp.square", laid_cresset_fp_square)], narrowed := true }
def CodecOneFormUptoSaid : Prop := codecOneFormUptoRow.holds Tryd.pinned (OpenSpec.upto codecOneFormSpec)

/-- 'cressetlaw09.CodecBack', WHERE WHAT IT READS IS OF BULK AT MOST 1048576: true; the input reads as it did. -/
def codecBackUptoRow : OpenClaim := { program := "ytndonmbemehefaadoor", sum := "e3778154ba5d290674069e79e5f4e73bae953e0b5c3c404fb13e3452a1570624", func := "cresset/cressetlaw09.CodecBack", spec := "codecBack", inPlace := ["math/bits.Add64", "math/bits.Sub64"], unfollowed := true, recurses := true, named := ["cresset/fp.square", "cresset/fp.modulus", "cresset/fr.square", "cresset/fr.modulus"], apart := false, laid := [("cresset/fp.modulus", laid_cresset_fp_modulus), ("cresset/fp.square", laid_cresset_fp_square), ("cresset/fr.modulus", laid_cresset_fr_modulus), ("cresset/fr.square", laid_cresset_fr_square)], narrowed := true }
def CodecBackUptoSaid : Prop := codecBackUptoRow.holds Tryd.pinned (OpenSpec.upto codecBackSpec)

/-- 'cressetlaw09.CodecMarks', WHERE WHAT IT READS IS OF BULK AT MOST 1048576: true; the input reads as it did. -/
def codecMarksUptoRow : OpenClaim := { program := "ytndonmbemehefaadoor", sum := "e3778154ba5d290674069e79e5f4e73bae953e0b5c3c404fb13e3452a1570624", func := "cresset/cressetlaw09.CodecMarks", spec := "codecMarks", inPlace := ["math/bits.Add64", "math/bits.Sub64"], unfollowed := true, recurses := true, named := ["cresset/fp.square", "cresset/fp.modulus", "cresset/fr.square", "cresset/fr.modulus"], apart := false, laid := [("cresset/fp.modulus", laid_cresset_fp_modulus), ("cresset/fp.square", laid_cresset_fp_square), ("cresset/fr.modulus", laid_cresset_fr_modulus), ("cresset/fr.square", laid_cresset_fr_square)], narrowed := true }
def CodecMarksUptoSaid : Prop := codecMarksUptoRow.holds Tryd.pinned (OpenSpec.upto codecMarksSpec)

/-- 'cressetlaw22.DealSetups', WHERE WHAT IT READS IS OF BULK AT MOST 1048576: true; the input reads as it did. -/
def dealSetupsUptoRow : OpenClaim := { program := "ytndonmbemehefaadoor", sum := "e3778154ba5d290674069e79e5f4e73bae953e0b5c3c404fb13e3452a1570624", func := "cresset/cressetlaw22.DealSetups", spec := "dealSetups", inPlace := ["math/bits.Sub64", "math/bits.Add64"], named := ["cresset/fp.square", "cresset/fp.modulus"], apart := false, laid := [("cresset/fp.modulus", laid_cresset_fp_modulus), ("cresset/fp.square", laid_cresset_fp_square)], narrowed := true }
def DealSetupsUptoSaid : Prop := dealSetupsUptoRow.holds Tryd.pinned (OpenSpec.upto dealSetupsSpec)

end Rows
end Go.Proofs.YtndonmbemehefaaDoor
