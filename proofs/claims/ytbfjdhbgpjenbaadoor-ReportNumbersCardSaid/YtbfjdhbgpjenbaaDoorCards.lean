/-
  DERIVED. GIVEN WITH THE SEED: THE CARDS: each row of YtbfjdhbgpjenbaaDoorRows.lean that lists a variable, with what it lists TIED to the program's text (the seventh form; the later family's looks); each row that meets fmt, with fmt's text TOLD by the authors' own Lean function (tested against real Go, not proved from fmt's source: count such statements apart). THE CARD IS WHAT COUNTS. Prove the row's statement (the work); the ties are given (YtbfjdhbgpjenbaaDoorTie.lean); close each card by the builder's one call (the guide's Derived/Test/ToyasCard.lean, 'card_holds'). Laid BY PROGRAM, IN A SANDBOX (cutbox-door.mjs). By AI agents, Wed Nov 11 2026. No macro, syntax, notation, axiom, sorry.
-/
import Derived.Test.YtbfjdhbgpjenbaaDoorRows
import GoSem.ClaimSeven
namespace Go.Proofs.YtbfjdhbgpjenbaaDoor
namespace Rows

/-- THE TIED CARD OF 'cornhilllaw7.ReportWords'. -/
def reportWordsCard : Claim7 := { stood := { row := reportWordsRow, standIns := [], harness := (true, "ccb224229c736857fc1397e807a182d184ecf3000106a58f61c9832e9c619914"), looks := false }, kinds := [], alts := [], laidByText := true, laidKinds := [.data, .data, .data], laidTests := true, laidLooks := .later }
def ReportWordsCardSaid : Prop := Claim7.holds Tryd.pinned (.plain (OpenSpec.ofChange reportWordsSpec)) reportWordsCard

/-- THE TIED CARD OF 'cornhilllaw7.ReportNumbers'. -/
def reportNumbersCard : Claim7 := { stood := { row := reportNumbersRow, standIns := [], harness := (true, "ccb224229c736857fc1397e807a182d184ecf3000106a58f61c9832e9c619914"), looks := false }, kinds := [], alts := [], laidByText := true, laidKinds := [.data, .data, .data], laidTests := true, laidLooks := .later }
def ReportNumbersCardSaid : Prop := Claim7.holds Tryd.pinned (.plain (OpenSpec.ofChange reportNumbersSpec)) reportNumbersCard

/-- THE TIED CARD OF 'cornhilllaw7.ReportTells'. -/
def reportTellsCard : Claim7 := { stood := { row := reportTellsRow, standIns := [], harness := (true, "ccb224229c736857fc1397e807a182d184ecf3000106a58f61c9832e9c619914"), looks := false }, kinds := [], alts := [], laidByText := true, laidKinds := [.data, .data, .data], laidTests := true, laidLooks := .later }
def ReportTellsCardSaid : Prop := Claim7.holds Tryd.pinned (.plain (OpenSpec.ofChange reportTellsSpec)) reportTellsCard

/-- THE TIED CARD OF 'cornhilllaw7.ReportBack'. -/
def reportBackCard : Claim7 := { stood := { row := reportBackRow, standIns := [], harness := (true, "ccb224229c736857fc1397e807a182d184ecf3000106a58f61c9832e9c619914"), looks := false }, kinds := [], alts := [], laidByText := true, laidKinds := [.data, .data, .data], laidTests := true, laidLooks := .later }
def ReportBackCardSaid : Prop := Claim7.holds Tryd.pinned (.plain (OpenSpec.ofChange reportBackSpec)) reportBackCard

/-- THE TIED CARD OF 'cornhilllaw7.ReportFrames'. -/
def reportFramesCard : Claim7 := { stood := { row := reportFramesRow, standIns := [], harness := (true, "ccb224229c736857fc1397e807a182d184ecf3000106a58f61c9832e9c619914"), looks := false }, kinds := [], alts := [], laidByText := true, laidKinds := [.data, .data, .data], laidTests := true, laidLooks := .later }
def ReportFramesCardSaid : Prop := Claim7.holds Tryd.pinned (.plain (OpenSpec.ofChange reportFramesSpec)) reportFramesCard

/-- THE SECOND FORM's CARD OF 'cornhilllaw7.ReportWords'. -/
def reportWordsUptoCard : Claim7 := { stood := { row := reportWordsUptoRow, standIns := [], harness := (true, "ccb224229c736857fc1397e807a182d184ecf3000106a58f61c9832e9c619914"), looks := false }, kinds := [], alts := [], laidByText := true, laidKinds := [.data, .data, .data], laidTests := true, laidLooks := .later }
def ReportWordsUptoCardSaid : Prop := Claim7.holds Tryd.pinned (.plain (OpenSpec.upto reportWordsSpec)) reportWordsUptoCard

/-- THE SECOND FORM's CARD OF 'cornhilllaw7.ReportNumbers'. -/
def reportNumbersUptoCard : Claim7 := { stood := { row := reportNumbersUptoRow, standIns := [], harness := (true, "ccb224229c736857fc1397e807a182d184ecf3000106a58f61c9832e9c619914"), looks := false }, kinds := [], alts := [], laidByText := true, laidKinds := [.data, .data, .data], laidTests := true, laidLooks := .later }
def ReportNumbersUptoCardSaid : Prop := Claim7.holds Tryd.pinned (.plain (OpenSpec.upto reportNumbersSpec)) reportNumbersUptoCard

/-- THE SECOND FORM's CARD OF 'cornhilllaw7.ReportTells'. -/
def reportTellsUptoCard : Claim7 := { stood := { row := reportTellsUptoRow, standIns := [], harness := (true, "ccb224229c736857fc1397e807a182d184ecf3000106a58f61c9832e9c619914"), looks := false }, kinds := [], alts := [], laidByText := true, laidKinds := [.data, .data, .data], laidTests := true, laidLooks := .later }
def ReportTellsUptoCardSaid : Prop := Claim7.holds Tryd.pinned (.plain (OpenSpec.upto reportTellsSpec)) reportTellsUptoCard

/-- THE SECOND FORM's CARD OF 'cornhilllaw7.ReportBack'. -/
def reportBackUptoCard : Claim7 := { stood := { row := reportBackUptoRow, standIns := [], harness := (true, "ccb224229c736857fc1397e807a182d184ecf3000106a58f61c9832e9c619914"), looks := false }, kinds := [], alts := [], laidByText := true, laidKinds := [.data, .data, .data], laidTests := true, laidLooks := .later }
def ReportBackUptoCardSaid : Prop := Claim7.holds Tryd.pinned (.plain (OpenSpec.upto reportBackSpec)) reportBackUptoCard

/-- THE SECOND FORM's CARD OF 'cornhilllaw7.ReportFrames'. -/
def reportFramesUptoCard : Claim7 := { stood := { row := reportFramesUptoRow, standIns := [], harness := (true, "ccb224229c736857fc1397e807a182d184ecf3000106a58f61c9832e9c619914"), looks := false }, kinds := [], alts := [], laidByText := true, laidKinds := [.data, .data, .data], laidTests := true, laidLooks := .later }
def ReportFramesUptoCardSaid : Prop := Claim7.holds Tryd.pinned (.plain (OpenSpec.upto reportFramesSpec)) reportFramesUptoCard
end Rows
end Go.Proofs.YtbfjdhbgpjenbaaDoor
