/-
  DERIVED. GIVEN WITH THE SEED: THE CARDS: each row of YtenigkhfldafaaaDoorRows.lean that lists a variable, with what it lists TIED to the program's text (the seventh form; the later family's looks); each row that meets fmt, with fmt's text TOLD by the authors' own Lean function (tested against real Go, not proved from fmt's source: count such statements apart). THE CARD IS WHAT COUNTS. Prove the row's statement (the work); the ties are given (YtenigkhfldafaaaDoorTie.lean); close each card by the builder's one call (the guide's Derived/Test/ToyasCard.lean, 'card_holds'). Laid BY PROGRAM, IN A SANDBOX (cutbox-door.mjs). By AI agents, Wed Nov 11 2026. No macro, syntax, notation, axiom, sorry.
-/
import Derived.Test.YtenigkhfldafaaaDoorRows
import GoSem.ClaimSeven
namespace Go.Proofs.YtenigkhfldafaaaDoor
namespace Rows

/-- THE TIED CARD OF 'grapnellaw21.ShellNeeds'. -/
def shellNeedsCard : Claim7 := { stood := { row := shellNeedsRow, standIns := [], harness := (true, "dc7e01a04dba16b99ee2574bc5ec8e7bd91e8552837bb9d5e628ad44b2aa8d0a"), looks := false }, kinds := [], alts := [], laidByText := true, laidKinds := [.data, .pinned], laidTests := true, laidLooks := .later }
def ShellNeedsCardSaid : Prop := Claim7.holds Tryd.pinned (.plain (OpenSpec.ofChange shellNeedsSpec)) shellNeedsCard

/-- THE TIED CARD OF 'grapnellaw21.ShellSays'. -/
def shellSaysCard : Claim7 := { stood := { row := shellSaysRow, standIns := [], harness := (true, "dc7e01a04dba16b99ee2574bc5ec8e7bd91e8552837bb9d5e628ad44b2aa8d0a"), looks := false }, kinds := [], alts := [], laidByText := true, laidKinds := [.data, .data, .data, .data, .pinned], laidTests := true, laidLooks := .later }
def ShellSaysCardSaid : Prop := Claim7.holds Tryd.pinned (.plain (OpenSpec.ofChange shellSaysSpec)) shellSaysCard

/-- THE TIED CARD OF 'grapnellaw21.ShellLines'. -/
def shellLinesCard : Claim7 := { stood := { row := shellLinesRow, standIns := [], harness := (true, "dc7e01a04dba16b99ee2574bc5ec8e7bd91e8552837bb9d5e628ad44b2aa8d0a"), looks := false }, kinds := [], alts := [], laidByText := true, laidKinds := [.data, .data, .data, .data, .pinned], laidTests := true, laidLooks := .later }
def ShellLinesCardSaid : Prop := Claim7.holds Tryd.pinned (.plain (OpenSpec.ofChange shellLinesSpec)) shellLinesCard

/-- THE TIED CARD OF 'grapnellaw21.ShellBlanks'. -/
def shellBlanksCard : Claim7 := { stood := { row := shellBlanksRow, standIns := [], harness := (true, "dc7e01a04dba16b99ee2574bc5ec8e7bd91e8552837bb9d5e628ad44b2aa8d0a"), looks := false }, kinds := [], alts := [], laidByText := true, laidKinds := [.data, .data, .data, .data, .pinned], laidTests := true, laidLooks := .later }
def ShellBlanksCardSaid : Prop := Claim7.holds Tryd.pinned (.plain (OpenSpec.ofChange shellBlanksSpec)) shellBlanksCard

/-- THE TIED CARD OF 'grapnellaw21.ShellPrints'. -/
def shellPrintsCard : Claim7 := { stood := { row := shellPrintsRow, standIns := [], harness := (true, "dc7e01a04dba16b99ee2574bc5ec8e7bd91e8552837bb9d5e628ad44b2aa8d0a"), looks := false }, kinds := [], alts := [], laidByText := true, laidKinds := [.data, .data, .data, .data, .pinned], laidTests := true, laidLooks := .later }
def ShellPrintsCardSaid : Prop := Claim7.holds Tryd.pinned (.plain (OpenSpec.ofChange shellPrintsSpec)) shellPrintsCard

/-- THE TIED CARD OF 'grapnellaw21.ShellBack'. -/
def shellBackCard : Claim7 := { stood := { row := shellBackRow, standIns := [], harness := (true, "dc7e01a04dba16b99ee2574bc5ec8e7bd91e8552837bb9d5e628ad44b2aa8d0a"), looks := false }, kinds := [], alts := [], laidByText := true, laidKinds := [.data, .data, .data, .data, .pinned], laidTests := true, laidLooks := .later }
def ShellBackCardSaid : Prop := Claim7.holds Tryd.pinned (.plain (OpenSpec.ofChange shellBackSpec)) shellBackCard

/-- THE TIED CARD OF 'grapnellaw21.ShellTwice'. -/
def shellTwiceCard : Claim7 := { stood := { row := shellTwiceRow, standIns := [], harness := (true, "dc7e01a04dba16b99ee2574bc5ec8e7bd91e8552837bb9d5e628ad44b2aa8d0a"), looks := false }, kinds := [], alts := [], laidByText := true, laidKinds := [.data, .data, .data, .data, .pinned], laidTests := true, laidLooks := .later }
def ShellTwiceCardSaid : Prop := Claim7.holds Tryd.pinned (.plain (OpenSpec.ofChange shellTwiceSpec)) shellTwiceCard

/-- THE TIED CARD OF 'grapnellaw21.ShellMany'. -/
def shellManyCard : Claim7 := { stood := { row := shellManyRow, standIns := [], harness := (true, "dc7e01a04dba16b99ee2574bc5ec8e7bd91e8552837bb9d5e628ad44b2aa8d0a"), looks := false }, kinds := [], alts := [], laidByText := true, laidKinds := [.data, .data, .data, .data, .pinned], laidTests := true, laidLooks := .later }
def ShellManyCardSaid : Prop := Claim7.holds Tryd.pinned (.plain (OpenSpec.ofChange shellManySpec)) shellManyCard

/-- THE SECOND FORM's CARD OF 'grapnellaw21.ShellNeeds'. -/
def shellNeedsUptoCard : Claim7 := { stood := { row := shellNeedsUptoRow, standIns := [], harness := (true, "dc7e01a04dba16b99ee2574bc5ec8e7bd91e8552837bb9d5e628ad44b2aa8d0a"), looks := false }, kinds := [], alts := [], laidByText := true, laidKinds := [.data, .pinned], laidTests := true, laidLooks := .later }
def ShellNeedsUptoCardSaid : Prop := Claim7.holds Tryd.pinned (.plain (OpenSpec.upto shellNeedsSpec)) shellNeedsUptoCard

/-- THE SECOND FORM's CARD OF 'grapnellaw21.ShellSays'. -/
def shellSaysUptoCard : Claim7 := { stood := { row := shellSaysUptoRow, standIns := [], harness := (true, "dc7e01a04dba16b99ee2574bc5ec8e7bd91e8552837bb9d5e628ad44b2aa8d0a"), looks := false }, kinds := [], alts := [], laidByText := true, laidKinds := [.data, .data, .data, .data, .pinned], laidTests := true, laidLooks := .later }
def ShellSaysUptoCardSaid : Prop := Claim7.holds Tryd.pinned (.plain (OpenSpec.upto shellSaysSpec)) shellSaysUptoCard

/-- THE SECOND FORM's CARD OF 'grapnellaw21.ShellLines'. -/
def shellLinesUptoCard : Claim7 := { stood := { row := shellLinesUptoRow, standIns := [], harness := (true, "dc7e01a04dba16b99ee2574bc5ec8e7bd91e8552837bb9d5e628ad44b2aa8d0a"), looks := false }, kinds := [], alts := [], laidByText := true, laidKinds := [.data, .data, .data, .data, .pinned], laidTests := true, laidLooks := .later }
def ShellLinesUptoCardSaid : Prop := Claim7.holds Tryd.pinned (.plain (OpenSpec.upto shellLinesSpec)) shellLinesUptoCard

/-- THE SECOND FORM's CARD OF 'grapnellaw21.ShellBlanks'. -/
def shellBlanksUptoCard : Claim7 := { stood := { row := shellBlanksUptoRow, standIns := [], harness := (true, "dc7e01a04dba16b99ee2574bc5ec8e7bd91e8552837bb9d5e628ad44b2aa8d0a"), looks := false }, kinds := [], alts := [], laidByText := true, laidKinds := [.data, .data, .data, .data, .pinned], laidTests := true, laidLooks := .later }
def ShellBlanksUptoCardSaid : Prop := Claim7.holds Tryd.pinned (.plain (OpenSpec.upto shellBlanksSpec)) shellBlanksUptoCard

/-- THE SECOND FORM's CARD OF 'grapnellaw21.ShellPrints'. -/
def shellPrintsUptoCard : Claim7 := { stood := { row := shellPrintsUptoRow, standIns := [], harness := (true, "dc7e01a04dba16b99ee2574bc5ec8e7bd91e8552837bb9d5e628ad44b2aa8d0a"), looks := false }, kinds := [], alts := [], laidByText := true, laidKinds := [.data, .data, .data, .data, .pinned], laidTests := true, laidLooks := .later }
def ShellPrintsUptoCardSaid : Prop := Claim7.holds Tryd.pinned (.plain (OpenSpec.upto shellPrintsSpec)) shellPrintsUptoCard

/-- THE SECOND FORM's CARD OF 'grapnellaw21.ShellBack'. -/
def shellBackUptoCard : Claim7 := { stood := { row := shellBackUptoRow, standIns := [], harness := (true, "dc7e01a04dba16b99ee2574bc5ec8e7bd91e8552837bb9d5e628ad44b2aa8d0a"), looks := false }, kinds := [], alts := [], laidByText := true, laidKinds := [.data, .data, .data, .data, .pinned], laidTests := true, laidLooks := .later }
def ShellBackUptoCardSaid : Prop := Claim7.holds Tryd.pinned (.plain (OpenSpec.upto shellBackSpec)) shellBackUptoCard

/-- THE SECOND FORM's CARD OF 'grapnellaw21.ShellTwice'. -/
def shellTwiceUptoCard : Claim7 := { stood := { row := shellTwiceUptoRow, standIns := [], harness := (true, "dc7e01a04dba16b99ee2574bc5ec8e7bd91e8552837bb9d5e628ad44b2aa8d0a"), looks := false }, kinds := [], alts := [], laidByText := true, laidKinds := [.data, .data, .data, .data, .pinned], laidTests := true, laidLooks := .later }
def ShellTwiceUptoCardSaid : Prop := Claim7.holds Tryd.pinned (.plain (OpenSpec.upto shellTwiceSpec)) shellTwiceUptoCard

/-- THE SECOND FORM's CARD OF 'grapnellaw21.ShellMany'. -/
def shellManyUptoCard : Claim7 := { stood := { row := shellManyUptoRow, standIns := [], harness := (true, "dc7e01a04dba16b99ee2574bc5ec8e7bd91e8552837bb9d5e628ad44b2aa8d0a"), looks := false }, kinds := [], alts := [], laidByText := true, laidKinds := [.data, .data, .data, .data, .pinned], laidTests := true, laidLooks := .later }
def ShellManyUptoCardSaid : Prop := Claim7.holds Tryd.pinned (.plain (OpenSpec.upto shellManySpec)) shellManyUptoCard
end Rows
end Go.Proofs.YtenigkhfldafaaaDoor
