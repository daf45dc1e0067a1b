/-
  DERIVED. GIVEN WITH THE SEED: THE CARDS: each row of YtndonmbemehefaaDoorRows.lean that lists a variable, with what it lists TIED to the program's text (the seventh form; the later family's looks); each row that meets fmt, with fmt's text TOLD by the authors' own Lean function (tested against real Go, not proved from fmt's source: count such statements apart). THE CARD IS WHAT COUNTS. Prove the row's statement (the work); the ties are given (YtndonmbemehefaaDoorTie.lean); close each card by the builder's one call (the guide's Derived/Test/ToyasCard.lean, 'card_holds'). Laid BY PROGRAM, IN A SANDBOX (cutbox-door.mjs). By AI agents, Wed Nov 11 2026. No macro, syntax, notation, axiom, sorry.
-/
import Derived.Test.YtndonmbemehefaaDoorRows
import GoSem.ClaimSeven
namespace Go.Proofs.YtndonmbemehefaaDoor
namespace Rows

/-- THE TIED CARD OF 'cressetlaw09.CodecReads1'. -/
def codecReads1Card : Claim7 := { stood := { row := codecReads1Row, standIns := [], harness := (true, "d2645c74daffa094c44475ecd46f4f066ac5b7aef25936a46e74fb75a39a6898"), looks := false }, kinds := [], alts := [], laidByText := true, laidKinds := [.data, .data], laidTests := true, laidLooks := .later }
def CodecReads1CardSaid : Prop := Claim7.holds Tryd.pinned (.plain (OpenSpec.ofChange codecReads1Spec)) codecReads1Card

/-- THE TIED CARD OF 'cressetlaw09.CodecReads2'. -/
def codecReads2Card : Claim7 := { stood := { row := codecReads2Row, standIns := [], harness := (true, "d2645c74daffa094c44475ecd46f4f066ac5b7aef25936a46e74fb75a39a6898"), looks := false }, kinds := [], alts := [], laidByText := true, laidKinds := [.data, .data], laidTests := true, laidLooks := .later }
def CodecReads2CardSaid : Prop := Claim7.holds Tryd.pinned (.plain (OpenSpec.ofChange codecReads2Spec)) codecReads2Card

/-- THE TIED CARD OF 'cressetlaw09.CodecOneForm'. -/
def codecOneFormCard : Claim7 := { stood := { row := codecOneFormRow, standIns := [], harness := (true, "d2645c74daffa094c44475ecd46f4f066ac5b7aef25936a46e74fb75a39a6898"), looks := false }, kinds := [], alts := [], laidByText := true, laidKinds := [.data, .data], laidTests := true, laidLooks := .later }
def CodecOneFormCardSaid : Prop := Claim7.holds Tryd.pinned (.plain (OpenSpec.ofChange codecOneFormSpec)) codecOneFormCard

/-- THE TIED CARD OF 'cressetlaw09.CodecBack'. -/
def codecBackCard : Claim7 := { stood := { row := codecBackRow, standIns := [], harness := (true, "d2645c74daffa094c44475ecd46f4f066ac5b7aef25936a46e74fb75a39a6898"), looks := false }, kinds := [], alts := [], laidByText := true, laidKinds := [.data, .data, .data, .data], laidTests := true, laidLooks := .later }
def CodecBackCardSaid : Prop := Claim7.holds Tryd.pinned (.plain (OpenSpec.ofChange codecBackSpec)) codecBackCard

/-- THE TIED CARD OF 'cressetlaw09.CodecMarks'. -/
def codecMarksCard : Claim7 := { stood := { row := codecMarksRow, standIns := [], harness := (true, "d2645c74daffa094c44475ecd46f4f066ac5b7aef25936a46e74fb75a39a6898"), looks := false }, kinds := [], alts := [], laidByText := true, laidKinds := [.data, .data, .data, .data], laidTests := true, laidLooks := .later }
def CodecMarksCardSaid : Prop := Claim7.holds Tryd.pinned (.plain (OpenSpec.ofChange codecMarksSpec)) codecMarksCard

/-- THE TIED CARD OF 'cressetlaw22.DealSetups'. -/
def dealSetupsCard : Claim7 := { stood := { row := dealSetupsRow, standIns := [], harness := (true, "d2645c74daffa094c44475ecd46f4f066ac5b7aef25936a46e74fb75a39a6898"), looks := false }, kinds := [], alts := [], laidByText := true, laidKinds := [.data, .data], laidTests := true, laidLooks := .later }
def DealSetupsCardSaid : Prop := Claim7.holds Tryd.pinned (.plain (OpenSpec.ofChange dealSetupsSpec)) dealSetupsCard

/-- THE SECOND FORM's CARD OF 'cressetlaw09.CodecReads1'. -/
def codecReads1UptoCard : Claim7 := { stood := { row := codecReads1UptoRow, standIns := [], harness := (true, "d2645c74daffa094c44475ecd46f4f066ac5b7aef25936a46e74fb75a39a6898"), looks := false }, kinds := [], alts := [], laidByText := true, laidKinds := [.data, .data], laidTests := true, laidLooks := .later }
def CodecReads1UptoCardSaid : Prop := Claim7.holds Tryd.pinned (.plain (OpenSpec.upto codecReads1Spec)) codecReads1UptoCard

/-- THE SECOND FORM's CARD OF 'cressetlaw09.CodecReads2'. -/
def codecReads2UptoCard : Claim7 := { stood := { row := codecReads2UptoRow, standIns := [], harness := (true, "d2645c74daffa094c44475ecd46f4f066ac5b7aef25936a46e74fb75a39a6898"), looks := false }, kinds := [], alts := [], laidByText := true, laidKinds := [.data, .data], laidTests := true, laidLooks := .later }
def CodecReads2UptoCardSaid : Prop := Claim7.holds Tryd.pinned (.plain (OpenSpec.upto codecReads2Spec)) codecReads2UptoCard

/-- THE SECOND FORM's CARD OF 'cressetlaw09.CodecOneForm'. -/
def codecOneFormUptoCard : Claim7 := { stood := { row := codecOneFormUptoRow, standIns := [], harness := (true, "d2645c74daffa094c44475ecd46f4f066ac5b7aef25936a46e74fb75a39a6898"), looks := false }, kinds := [], alts := [], laidByText := true, laidKinds := [.data, .data], laidTests := true, laidLooks := .later }
def CodecOneFormUptoCardSaid : Prop := Claim7.holds Tryd.pinned (.plain (OpenSpec.upto codecOneFormSpec)) codecOneFormUptoCard

/-- THE SECOND FORM's CARD OF 'cressetlaw09.CodecBack'. -/
def codecBackUptoCard : Claim7 := { stood := { row := codecBackUptoRow, standIns := [], harness := (true, "d2645c74daffa094c44475ecd46f4f066ac5b7aef25936a46e74fb75a39a6898"), looks := false }, kinds := [], alts := [], laidByText := true, laidKinds := [.data, .data, .data, .data], laidTests := true, laidLooks := .later }
def CodecBackUptoCardSaid : Prop := Claim7.holds Tryd.pinned (.plain (OpenSpec.upto codecBackSpec)) codecBackUptoCard

/-- THE SECOND FORM's CARD OF 'cressetlaw09.CodecMarks'. -/
def codecMarksUptoCard : Claim7 := { stood := { row := codecMarksUptoRow, standIns := [], harness := (true, "d2645c74daffa094c44475ecd46f4f066ac5b7aef25936a46e74fb75a39a6898"), looks := false }, kinds := [], alts := [], laidByText := true, laidKinds := [.data, .data, .data, .data], laidTests := true, laidLooks := .later }
def CodecMarksUptoCardSaid : Prop := Claim7.holds Tryd.pinned (.plain (OpenSpec.upto codecMarksSpec)) codecMarksUptoCard

/-- THE SECOND FORM's CARD OF 'cressetlaw22.DealSetups'. -/
def dealSetupsUptoCard : Claim7 := { stood := { row := dealSetupsUptoRow, standIns := [], harness := (true, "d2645c74daffa094c44475ecd46f4f066ac5b7aef25936a46e74fb75a39a6898"), looks := false }, kinds := [], alts := [], laidByText := true, laidKinds := [.data, .data], laidTests := true, laidLooks := .later }
def DealSetupsUptoCardSaid : Prop := Claim7.holds Tryd.pinned (.plain (OpenSpec.upto dealSetupsSpec)) dealSetupsUptoCard
end Rows
end Go.Proofs.YtndonmbemehefaaDoor
