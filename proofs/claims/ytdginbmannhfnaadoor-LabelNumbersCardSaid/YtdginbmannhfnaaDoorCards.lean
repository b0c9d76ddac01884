/-
  DERIVED. GIVEN WITH THE SEED: THE CARDS: each row of YtdginbmannhfnaaDoorRows.lean that lists a variable, with what it lists TIED to the program's text (the seventh form; the later family's looks); each row that meets fmt, with fmt's text TOLD by the authors' own Lean function (tested against real Go, not proved from fmt's source: count such statements apart). THE CARD IS WHAT COUNTS. Prove the row's statement (the work); the ties are given (YtdginbmannhfnaaDoorTie.lean); close each card by the builder's one call (the guide's Derived/Test/ToyasCard.lean, 'card_holds'). Laid BY PROGRAM, IN A SANDBOX (cutbox-door.mjs). By AI agents, Wed Nov 11 2026. No macro, syntax, notation, axiom, sorry.
-/
import Derived.Test.YtdginbmannhfnaaDoorRows
import GoSem.ClaimSeven
namespace Go.Proofs.YtdginbmannhfnaaDoor
namespace Rows

/-- THE TIED CARD OF 'cornhilllaw2.LabelPads'. -/
def labelPadsCard : Claim7 := { stood := { row := labelPadsRow, standIns := [], harness := (true, "659047050df581389810b0028065da8af93779aafd130548f4035c641d1932f1"), looks := false }, kinds := [], alts := [], laidByText := true, laidKinds := [.data, .pinned], laidTests := true, laidLooks := .later }
def LabelPadsCardSaid : Prop := Claim7.holds Tryd.pinned (.plain (OpenSpec.ofChange labelPadsSpec)) labelPadsCard

/-- THE TIED CARD OF 'cornhilllaw2.LabelNumbers'. -/
def labelNumbersCard : Claim7 := { stood := { row := labelNumbersRow, standIns := [], harness := (true, "659047050df581389810b0028065da8af93779aafd130548f4035c641d1932f1"), looks := false }, kinds := [], alts := [], laidByText := true, laidKinds := [.data, .pinned], laidTests := true, laidLooks := .later }
def LabelNumbersCardSaid : Prop := Claim7.holds Tryd.pinned (.plain (OpenSpec.ofChange labelNumbersSpec)) labelNumbersCard

/-- THE TIED CARD OF 'cornhilllaw2.LabelTells'. -/
def labelTellsCard : Claim7 := { stood := { row := labelTellsRow, standIns := [], harness := (true, "659047050df581389810b0028065da8af93779aafd130548f4035c641d1932f1"), looks := false }, kinds := [], alts := [], laidByText := true, laidKinds := [.data, .pinned], laidTests := true, laidLooks := .later }
def LabelTellsCardSaid : Prop := Claim7.holds Tryd.pinned (.plain (OpenSpec.ofChange labelTellsSpec)) labelTellsCard

/-- THE TIED CARD OF 'cornhilllaw2.LabelRules'. -/
def labelRulesCard : Claim7 := { stood := { row := labelRulesRow, standIns := [], harness := (true, "659047050df581389810b0028065da8af93779aafd130548f4035c641d1932f1"), looks := false }, kinds := [], alts := [], laidByText := true, laidKinds := [.data, .pinned], laidTests := true, laidLooks := .later }
def LabelRulesCardSaid : Prop := Claim7.holds Tryd.pinned (.plain (OpenSpec.ofChange labelRulesSpec)) labelRulesCard

/-- THE TIED CARD OF 'cornhilllaw2.LabelJoins'. -/
def labelJoinsCard : Claim7 := { stood := { row := labelJoinsRow, standIns := [], harness := (true, "659047050df581389810b0028065da8af93779aafd130548f4035c641d1932f1"), looks := false }, kinds := [], alts := [], laidByText := true, laidKinds := [.data, .pinned], laidTests := true, laidLooks := .later }
def LabelJoinsCardSaid : Prop := Claim7.holds Tryd.pinned (.plain (OpenSpec.ofChange labelJoinsSpec)) labelJoinsCard

/-- THE TIED CARD OF 'cornhilllaw2.LabelCuts'. -/
def labelCutsCard : Claim7 := { stood := { row := labelCutsRow, standIns := [], harness := (true, "659047050df581389810b0028065da8af93779aafd130548f4035c641d1932f1"), looks := false }, kinds := [], alts := [], laidByText := true, laidKinds := [.data, .pinned], laidTests := true, laidLooks := .later }
def LabelCutsCardSaid : Prop := Claim7.holds Tryd.pinned (.plain (OpenSpec.ofChange labelCutsSpec)) labelCutsCard

/-- THE SECOND FORM's CARD OF 'cornhilllaw2.LabelPads'. -/
def labelPadsUptoCard : Claim7 := { stood := { row := labelPadsUptoRow, standIns := [], harness := (true, "659047050df581389810b0028065da8af93779aafd130548f4035c641d1932f1"), looks := false }, kinds := [], alts := [], laidByText := true, laidKinds := [.data, .pinned], laidTests := true, laidLooks := .later }
def LabelPadsUptoCardSaid : Prop := Claim7.holds Tryd.pinned (.plain (OpenSpec.upto labelPadsSpec)) labelPadsUptoCard

/-- THE SECOND FORM's CARD OF 'cornhilllaw2.LabelNumbers'. -/
def labelNumbersUptoCard : Claim7 := { stood := { row := labelNumbersUptoRow, standIns := [], harness := (true, "659047050df581389810b0028065da8af93779aafd130548f4035c641d1932f1"), looks := false }, kinds := [], alts := [], laidByText := true, laidKinds := [.data, .pinned], laidTests := true, laidLooks := .later }
def LabelNumbersUptoCardSaid : Prop := Claim7.holds Tryd.pinned (.plain (OpenSpec.upto labelNumbersSpec)) labelNumbersUptoCard

/-- THE SECOND FORM's CARD OF 'cornhilllaw2.LabelTells'. -/
def labelTellsUptoCard : Claim7 := { stood := { row := labelTellsUptoRow, standIns := [], harness := (true, "659047050df581389810b0028065da8af93779aafd130548f4035c641d1932f1"), looks := false }, kinds := [], alts := [], laidByText := true, laidKinds := [.data, .pinned], laidTests := true, laidLooks := .later }
def LabelTellsUptoCardSaid : Prop := Claim7.holds Tryd.pinned (.plain (OpenSpec.upto labelTellsSpec)) labelTellsUptoCard

/-- THE SECOND FORM's CARD OF 'cornhilllaw2.LabelRules'. -/
def labelRulesUptoCard : Claim7 := { stood := { row := labelRulesUptoRow, standIns := [], harness := (true, "659047050df581389810b0028065da8af93779aafd130548f4035c641d1932f1"), looks := false }, kinds := [], alts := [], laidByText := true, laidKinds := [.data, .pinned], laidTests := true, laidLooks := .later }
def LabelRulesUptoCardSaid : Prop := Claim7.holds Tryd.pinned (.plain (OpenSpec.upto labelRulesSpec)) labelRulesUptoCard

/-- THE SECOND FORM's CARD OF 'cornhilllaw2.LabelJoins'. -/
def labelJoinsUptoCard : Claim7 := { stood := { row := labelJoinsUptoRow, standIns := [], harness := (true, "659047050df581389810b0028065da8af93779aafd130548f4035c641d1932f1"), looks := false }, kinds := [], alts := [], laidByText := true, laidKinds := [.data, .pinned], laidTests := true, laidLooks := .later }
def LabelJoinsUptoCardSaid : Prop := Claim7.holds Tryd.pinned (.plain (OpenSpec.upto labelJoinsSpec)) labelJoinsUptoCard

/-- THE SECOND FORM's CARD OF 'cornhilllaw2.LabelCuts'. -/
def labelCutsUptoCard : Claim7 := { stood := { row := labelCutsUptoRow, standIns := [], harness := (true, "659047050df581389810b0028065da8af93779aafd130548f4035c641d1932f1"), looks := false }, kinds := [], alts := [], laidByText := true, laidKinds := [.data, .pinned], laidTests := true, laidLooks := .later }
def LabelCutsUptoCardSaid : Prop := Claim7.holds Tryd.pinned (.plain (OpenSpec.upto labelCutsSpec)) labelCutsUptoCard
end Rows
end Go.Proofs.YtdginbmannhfnaaDoor
