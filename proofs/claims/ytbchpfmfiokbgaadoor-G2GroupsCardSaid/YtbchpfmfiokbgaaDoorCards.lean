/-
  DERIVED. GIVEN WITH THE SEED: THE CARDS: each row of YtbchpfmfiokbgaaDoorRows.lean that lists a variable, with what it lists TIED to the program's text (the seventh form; the later family's looks); each row that meets fmt, with fmt's text TOLD by the authors' own Lean function (tested against real Go, not proved from fmt's source: count such statements apart). THE CARD IS WHAT COUNTS. Prove the row's statement (the work); the ties are given (YtbchpfmfiokbgaaDoorTie.lean); close each card by the builder's one call (the guide's Derived/Test/ToyasCard.lean, 'card_holds'). Laid BY PROGRAM, IN A SANDBOX (cutbox-door.mjs). By AI agents, Wed Nov 11 2026. No macro, syntax, notation, axiom, sorry.
-/
import Derived.Test.YtbchpfmfiokbgaaDoorRows
import GoSem.ClaimSeven
namespace Go.Proofs.YtbchpfmfiokbgaaDoor
namespace Rows

/-- THE TIED CARD OF 'cressetlaw07.G1Rules'. -/
def g1RulesCard : Claim7 := { stood := { row := g1RulesRow, standIns := [], harness := (true, "94cb37f3e6b16b3b884cf3cc2974e7f32966c56f737d5d9aa5f88fb68c3800da"), looks := false }, kinds := [], alts := [], laidByText := true, laidKinds := [.data, .data, .data, .data], laidTests := true, laidLooks := .later }
def G1RulesCardSaid : Prop := Claim7.holds Tryd.pinned (.plain (OpenSpec.ofChange g1RulesSpec)) g1RulesCard

/-- THE TIED CARD OF 'cressetlaw07.G1Counts'. -/
def g1CountsCard : Claim7 := { stood := { row := g1CountsRow, standIns := [], harness := (true, "94cb37f3e6b16b3b884cf3cc2974e7f32966c56f737d5d9aa5f88fb68c3800da"), looks := false }, kinds := [], alts := [], laidByText := true, laidKinds := [.data, .data, .data, .data], laidTests := true, laidLooks := .later }
def G1CountsCardSaid : Prop := Claim7.holds Tryd.pinned (.plain (OpenSpec.ofChange g1CountsSpec)) g1CountsCard

/-- THE TIED CARD OF 'cressetlaw07.G1Lists'. -/
def g1ListsCard : Claim7 := { stood := { row := g1ListsRow, standIns := [], harness := (true, "94cb37f3e6b16b3b884cf3cc2974e7f32966c56f737d5d9aa5f88fb68c3800da"), looks := false }, kinds := [], alts := [], laidByText := true, laidKinds := [.data, .data, .data, .data], laidTests := true, laidLooks := .later }
def G1ListsCardSaid : Prop := Claim7.holds Tryd.pinned (.plain (OpenSpec.ofChange g1ListsSpec)) g1ListsCard

/-- THE TIED CARD OF 'cressetlaw07.G1Adds'. -/
def g1AddsCard : Claim7 := { stood := { row := g1AddsRow, standIns := [], harness := (true, "94cb37f3e6b16b3b884cf3cc2974e7f32966c56f737d5d9aa5f88fb68c3800da"), looks := false }, kinds := [], alts := [], laidByText := true, laidKinds := [.data, .data, .data, .data], laidTests := true, laidLooks := .later }
def G1AddsCardSaid : Prop := Claim7.holds Tryd.pinned (.plain (OpenSpec.ofChange g1AddsSpec)) g1AddsCard

/-- THE TIED CARD OF 'cressetlaw07.G1Scalars'. -/
def g1ScalarsCard : Claim7 := { stood := { row := g1ScalarsRow, standIns := [], harness := (true, "94cb37f3e6b16b3b884cf3cc2974e7f32966c56f737d5d9aa5f88fb68c3800da"), looks := false }, kinds := [], alts := [], laidByText := true, laidKinds := [.data, .data, .data, .data], laidTests := true, laidLooks := .later }
def G1ScalarsCardSaid : Prop := Claim7.holds Tryd.pinned (.plain (OpenSpec.ofChange g1ScalarsSpec)) g1ScalarsCard

/-- THE TIED CARD OF 'cressetlaw07.G1Groups'. -/
def g1GroupsCard : Claim7 := { stood := { row := g1GroupsRow, standIns := [], harness := (true, "94cb37f3e6b16b3b884cf3cc2974e7f32966c56f737d5d9aa5f88fb68c3800da"), looks := false }, kinds := [], alts := [], laidByText := true, laidKinds := [.data, .data, .data, .data], laidTests := true, laidLooks := .later }
def G1GroupsCardSaid : Prop := Claim7.holds Tryd.pinned (.plain (OpenSpec.ofChange g1GroupsSpec)) g1GroupsCard

/-- THE TIED CARD OF 'cressetlaw08.G2Rules'. -/
def g2RulesCard : Claim7 := { stood := { row := g2RulesRow, standIns := [], harness := (true, "94cb37f3e6b16b3b884cf3cc2974e7f32966c56f737d5d9aa5f88fb68c3800da"), looks := false }, kinds := [], alts := [], laidByText := true, laidKinds := [.data, .data, .data, .data], laidTests := true, laidLooks := .later }
def G2RulesCardSaid : Prop := Claim7.holds Tryd.pinned (.plain (OpenSpec.ofChange g2RulesSpec)) g2RulesCard

/-- THE TIED CARD OF 'cressetlaw08.G2Lists'. -/
def g2ListsCard : Claim7 := { stood := { row := g2ListsRow, standIns := [], harness := (true, "94cb37f3e6b16b3b884cf3cc2974e7f32966c56f737d5d9aa5f88fb68c3800da"), looks := false }, kinds := [], alts := [], laidByText := true, laidKinds := [.data, .data, .data, .data], laidTests := true, laidLooks := .later }
def G2ListsCardSaid : Prop := Claim7.holds Tryd.pinned (.plain (OpenSpec.ofChange g2ListsSpec)) g2ListsCard

/-- THE TIED CARD OF 'cressetlaw08.G2Scalars'. -/
def g2ScalarsCard : Claim7 := { stood := { row := g2ScalarsRow, standIns := [], harness := (true, "94cb37f3e6b16b3b884cf3cc2974e7f32966c56f737d5d9aa5f88fb68c3800da"), looks := false }, kinds := [], alts := [], laidByText := true, laidKinds := [.data, .data, .data, .data], laidTests := true, laidLooks := .later }
def G2ScalarsCardSaid : Prop := Claim7.holds Tryd.pinned (.plain (OpenSpec.ofChange g2ScalarsSpec)) g2ScalarsCard

/-- THE TIED CARD OF 'cressetlaw08.G2Counts'. -/
def g2CountsCard : Claim7 := { stood := { row := g2CountsRow, standIns := [], harness := (true, "94cb37f3e6b16b3b884cf3cc2974e7f32966c56f737d5d9aa5f88fb68c3800da"), looks := false }, kinds := [], alts := [], laidByText := true, laidKinds := [.data, .data, .data, .data], laidTests := true, laidLooks := .later }
def G2CountsCardSaid : Prop := Claim7.holds Tryd.pinned (.plain (OpenSpec.ofChange g2CountsSpec)) g2CountsCard

/-- THE TIED CARD OF 'cressetlaw08.G2Adds'. -/
def g2AddsCard : Claim7 := { stood := { row := g2AddsRow, standIns := [], harness := (true, "94cb37f3e6b16b3b884cf3cc2974e7f32966c56f737d5d9aa5f88fb68c3800da"), looks := false }, kinds := [], alts := [], laidByText := true, laidKinds := [.data, .data, .data, .data], laidTests := true, laidLooks := .later }
def G2AddsCardSaid : Prop := Claim7.holds Tryd.pinned (.plain (OpenSpec.ofChange g2AddsSpec)) g2AddsCard

/-- THE TIED CARD OF 'cressetlaw08.G2Groups'. -/
def g2GroupsCard : Claim7 := { stood := { row := g2GroupsRow, standIns := [], harness := (true, "94cb37f3e6b16b3b884cf3cc2974e7f32966c56f737d5d9aa5f88fb68c3800da"), looks := false }, kinds := [], alts := [], laidByText := true, laidKinds := [.data, .data, .data, .data], laidTests := true, laidLooks := .later }
def G2GroupsCardSaid : Prop := Claim7.holds Tryd.pinned (.plain (OpenSpec.ofChange g2GroupsSpec)) g2GroupsCard

/-- THE SECOND FORM's CARD OF 'cressetlaw07.G1Rules'. -/
def g1RulesUptoCard : Claim7 := { stood := { row := g1RulesUptoRow, standIns := [], harness := (true, "94cb37f3e6b16b3b884cf3cc2974e7f32966c56f737d5d9aa5f88fb68c3800da"), looks := false }, kinds := [], alts := [], laidByText := true, laidKinds := [.data, .data, .data, .data], laidTests := true, laidLooks := .later }
def G1RulesUptoCardSaid : Prop := Claim7.holds Tryd.pinned (.plain (OpenSpec.upto g1RulesSpec)) g1RulesUptoCard

/-- THE SECOND FORM's CARD OF 'cressetlaw07.G1Counts'. -/
def g1CountsUptoCard : Claim7 := { stood := { row := g1CountsUptoRow, standIns := [], harness := (true, "94cb37f3e6b16b3b884cf3cc2974e7f32966c56f737d5d9aa5f88fb68c3800da"), looks := false }, kinds := [], alts := [], laidByText := true, laidKinds := [.data, .data, .data, .data], laidTests := true, laidLooks := .later }
def G1CountsUptoCardSaid : Prop := Claim7.holds Tryd.pinned (.plain (OpenSpec.upto g1CountsSpec)) g1CountsUptoCard

/-- THE SECOND FORM's CARD OF 'cressetlaw07.G1Lists'. -/
def g1ListsUptoCard : Claim7 := { stood := { row := g1ListsUptoRow, standIns := [], harness := (true, "94cb37f3e6b16b3b884cf3cc2974e7f32966c56f737d5d9aa5f88fb68c3800da"), looks := false }, kinds := [], alts := [], laidByText := true, laidKinds := [.data, .data, .data, .data], laidTests := true, laidLooks := .later }
def G1ListsUptoCardSaid : Prop := Claim7.holds Tryd.pinned (.plain (OpenSpec.upto g1ListsSpec)) g1ListsUptoCard

/-- THE SECOND FORM's CARD OF 'cressetlaw07.G1Adds'. -/
def g1AddsUptoCard : Claim7 := { stood := { row := g1AddsUptoRow, standIns := [], harness := (true, "94cb37f3e6b16b3b884cf3cc2974e7f32966c56f737d5d9aa5f88fb68c3800da"), looks := false }, kinds := [], alts := [], laidByText := true, laidKinds := [.data, .data, .data, .data], laidTests := true, laidLooks := .later }
def G1AddsUptoCardSaid : Prop := Claim7.holds Tryd.pinned (.plain (OpenSpec.upto g1AddsSpec)) g1AddsUptoCard

/-- THE SECOND FORM's CARD OF 'cressetlaw07.G1Scalars'. -/
def g1ScalarsUptoCard : Claim7 := { stood := { row := g1ScalarsUptoRow, standIns := [], harness := (true, "94cb37f3e6b16b3b884cf3cc2974e7f32966c56f737d5d9aa5f88fb68c3800da"), looks := false }, kinds := [], alts := [], laidByText := true, laidKinds := [.data, .data, .data, .data], laidTests := true, laidLooks := .later }
def G1ScalarsUptoCardSaid : Prop := Claim7.holds Tryd.pinned (.plain (OpenSpec.upto g1ScalarsSpec)) g1ScalarsUptoCard

/-- THE SECOND FORM's CARD OF 'cressetlaw07.G1Groups'. -/
def g1GroupsUptoCard : Claim7 := { stood := { row := g1GroupsUptoRow, standIns := [], harness := (true, "94cb37f3e6b16b3b884cf3cc2974e7f32966c56f737d5d9aa5f88fb68c3800da"), looks := false }, kinds := [], alts := [], laidByText := true, laidKinds := [.data, .data, .data, .data], laidTests := true, laidLooks := .later }
def G1GroupsUptoCardSaid : Prop := Claim7.holds Tryd.pinned (.plain (OpenSpec.upto g1GroupsSpec)) g1GroupsUptoCard

/-- THE SECOND FORM's CARD OF 'cressetlaw08.G2Rules'. -/
def g2RulesUptoCard : Claim7 := { stood := { row := g2RulesUptoRow, standIns := [], harness := (true, "94cb37f3e6b16b3b884cf3cc2974e7f32966c56f737d5d9aa5f88fb68c3800da"), looks := false }, kinds := [], alts := [], laidByText := true, laidKinds := [.data, .data, .data, .data], laidTests := true, laidLooks := .later }
def G2RulesUptoCardSaid : Prop := Claim7.holds Tryd.pinned (.plain (OpenSpec.upto g2RulesSpec)) g2RulesUptoCard

/-- THE SECOND FORM's CARD OF 'cressetlaw08.G2Lists'. -/
def g2ListsUptoCard : Claim7 := { stood := { row := g2ListsUptoRow, standIns := [], harness := (true, "94cb37f3e6b16b3b884cf3cc2974e7f32966c56f737d5d9aa5f88fb68c3800da"), looks := false }, kinds := [], alts := [], laidByText := true, laidKinds := [.data, .data, .data, .data], laidTests := true, laidLooks := .later }
def G2ListsUptoCardSaid : Prop := Claim7.holds Tryd.pinned (.plain (OpenSpec.upto g2ListsSpec)) g2ListsUptoCard

/-- THE SECOND FORM's CARD OF 'cressetlaw08.G2Scalars'. -/
def g2ScalarsUptoCard : Claim7 := { stood := { row := g2ScalarsUptoRow, standIns := [], harness := (true, "94cb37f3e6b16b3b884cf3cc2974e7f32966c56f737d5d9aa5f88fb68c3800da"), looks := false }, kinds := [], alts := [], laidByText := true, laidKinds := [.data, .data, .data, .data], laidTests := true, laidLooks := .later }
def G2ScalarsUptoCardSaid : Prop := Claim7.holds Tryd.pinned (.plain (OpenSpec.upto g2ScalarsSpec)) g2ScalarsUptoCard

/-- THE SECOND FORM's CARD OF 'cressetlaw08.G2Counts'. -/
def g2CountsUptoCard : Claim7 := { stood := { row := g2CountsUptoRow, standIns := [], harness := (true, "94cb37f3e6b16b3b884cf3cc2974e7f32966c56f737d5d9aa5f88fb68c3800da"), looks := false }, kinds := [], alts := [], laidByText := true, laidKinds := [.data, .data, .data, .data], laidTests := true, laidLooks := .later }
def G2CountsUptoCardSaid : Prop := Claim7.holds Tryd.pinned (.plain (OpenSpec.upto g2CountsSpec)) g2CountsUptoCard

/-- THE SECOND FORM's CARD OF 'cressetlaw08.G2Adds'. -/
def g2AddsUptoCard : Claim7 := { stood := { row := g2AddsUptoRow, standIns := [], harness := (true, "94cb37f3e6b16b3b884cf3cc2974e7f32966c56f737d5d9aa5f88fb68c3800da"), looks := false }, kinds := [], alts := [], laidByText := true, laidKinds := [.data, .data, .data, .data], laidTests := true, laidLooks := .later }
def G2AddsUptoCardSaid : Prop := Claim7.holds Tryd.pinned (.plain (OpenSpec.upto g2AddsSpec)) g2AddsUptoCard

/-- THE SECOND FORM's CARD OF 'cressetlaw08.G2Groups'. -/
def g2GroupsUptoCard : Claim7 := { stood := { row := g2GroupsUptoRow, standIns := [], harness := (true, "94cb37f3e6b16b3b884cf3cc2974e7f32966c56f737d5d9aa5f88fb68c3800da"), looks := false }, kinds := [], alts := [], laidByText := true, laidKinds := [.data, .data, .data, .data], laidTests := true, laidLooks := .later }
def G2GroupsUptoCardSaid : Prop := Claim7.holds Tryd.pinned (.plain (OpenSpec.upto g2GroupsSpec)) g2GroupsUptoCard
end Rows
end Go.Proofs.YtbchpfmfiokbgaaDoor
