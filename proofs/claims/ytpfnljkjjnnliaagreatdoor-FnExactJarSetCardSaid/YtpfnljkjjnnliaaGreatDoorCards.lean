/-
  DERIVED. GIVEN WITH THE SEED: THE CARDS: each row of YtpfnljkjjnnliaaGreatDoorRows.lean that lists a variable, with what it lists TIED to the program's text (the seventh form; the later family's looks); each row that meets fmt, with fmt's text TOLD by the authors' own Lean function (tested against real Go, not proved from fmt's source: count such statements apart). THE CARD IS WHAT COUNTS. Prove the row's statement (the work); the ties are given (YtpfnljkjjnnliaaGreatDoorTie.lean); close each card by the builder's one call (the guide's Derived/Test/ToyasCard.lean, 'card_holds'). Laid BY PROGRAM, IN A SANDBOX (cutbox-door.mjs). By AI agents, Wed Nov 11 2026. No macro, syntax, notation, axiom, sorry.
-/
import Derived.Test.YtpfnljkjjnnliaaGreatDoorRows
import GoSem.ClaimSeven
namespace Go.Proofs.YtpfnljkjjnnliaaGreatDoor
namespace Rows

/-- THE TIED CARD OF 'laws.FnJarClean'. -/
def fnJarCleanCard : Claim7 := { stood := { row := fnJarCleanRow, standIns := [], harness := (true, "33a1b4e558697a2928ed0e538af9229ebed3996754099f3d5103e142249a1bd4"), looks := true }, kinds := [], alts := [], laidByText := true, laidKinds := [.data, .data, .data, .data, .pinned], laidTests := true, laidLooks := .later }
def FnJarCleanCardSaid : Prop := Claim7.holds Tryz.pinned (.plain (OpenSpec.ofChange fnJarCleanSpec)) fnJarCleanCard

/-- THE TIED CARD OF 'laws.FnJarSet'. -/
def fnJarSetCard : Claim7 := { stood := { row := fnJarSetRow, standIns := [], harness := (true, "33a1b4e558697a2928ed0e538af9229ebed3996754099f3d5103e142249a1bd4"), looks := true }, kinds := [], alts := [], laidByText := true, laidKinds := [.data, .data, .data, .data, .sentinel, .sentinel, .data, .pinned], laidTests := true, laidLooks := .later }
def FnJarSetCardSaid : Prop := Claim7.holds Tryz.pinned (.plain (OpenSpec.ofChange fnJarSetSpec)) fnJarSetCard

/-- THE TIED CARD OF 'laws.FnJarPut'. -/
def fnJarPutCard : Claim7 := { stood := { row := fnJarPutRow, standIns := [], harness := (true, "33a1b4e558697a2928ed0e538af9229ebed3996754099f3d5103e142249a1bd4"), looks := true }, kinds := [], alts := [], laidByText := true, laidKinds := [.data, .data, .data, .data, .pinned], laidTests := true, laidLooks := .later }
def FnJarPutCardSaid : Prop := Claim7.holds Tryz.pinned (.plain (OpenSpec.ofChange fnJarPutSpec)) fnJarPutCard

/-- THE TIED CARD OF 'laws.FnExactJarSet'. -/
def fnExactJarSetCard : Claim7 := { stood := { row := fnExactJarSetRow, standIns := [], harness := (true, "33a1b4e558697a2928ed0e538af9229ebed3996754099f3d5103e142249a1bd4"), looks := true }, kinds := [], alts := [], laidByText := true, laidKinds := [.data, .data, .data, .data, .sentinel, .sentinel, .data, .pinned], laidTests := true, laidLooks := .later }
def FnExactJarSetCardSaid : Prop := Claim7.holds Tryz.pinned (.plain (OpenSpec.ofChange fnExactJarSetSpec)) fnExactJarSetCard

/-- THE TIED CARD OF 'laws.FnJarFor'. -/
def fnJarForCard : Claim7 := { stood := { row := fnJarForRow, standIns := [], harness := (true, "33a1b4e558697a2928ed0e538af9229ebed3996754099f3d5103e142249a1bd4"), looks := true }, kinds := [], alts := [], laidByText := true, laidKinds := [.data, .data, .data, .data, .data, .pinned], laidTests := true, laidLooks := .later }
def FnJarForCardSaid : Prop := Claim7.holds Tryz.pinned (.plain (OpenSpec.ofChange fnJarForSpec)) fnJarForCard

/-- THE SECOND FORM's CARD OF 'laws.FnJarClean'. -/
def fnJarCleanUptoCard : Claim7 := { stood := { row := fnJarCleanUptoRow, standIns := [], harness := (true, "33a1b4e558697a2928ed0e538af9229ebed3996754099f3d5103e142249a1bd4"), looks := true }, kinds := [], alts := [], laidByText := true, laidKinds := [.data, .data, .data, .data, .pinned], laidTests := true, laidLooks := .later }
def FnJarCleanUptoCardSaid : Prop := Claim7.holds Tryz.pinned (.plain (OpenSpec.upto fnJarCleanSpec)) fnJarCleanUptoCard

/-- THE SECOND FORM's CARD OF 'laws.FnJarSet'. -/
def fnJarSetUptoCard : Claim7 := { stood := { row := fnJarSetUptoRow, standIns := [], harness := (true, "33a1b4e558697a2928ed0e538af9229ebed3996754099f3d5103e142249a1bd4"), looks := true }, kinds := [], alts := [], laidByText := true, laidKinds := [.data, .data, .data, .data, .sentinel, .sentinel, .data, .pinned], laidTests := true, laidLooks := .later }
def FnJarSetUptoCardSaid : Prop := Claim7.holds Tryz.pinned (.plain (OpenSpec.upto fnJarSetSpec)) fnJarSetUptoCard

/-- THE SECOND FORM's CARD OF 'laws.FnJarPut'. -/
def fnJarPutUptoCard : Claim7 := { stood := { row := fnJarPutUptoRow, standIns := [], harness := (true, "33a1b4e558697a2928ed0e538af9229ebed3996754099f3d5103e142249a1bd4"), looks := true }, kinds := [], alts := [], laidByText := true, laidKinds := [.data, .data, .data, .data, .pinned], laidTests := true, laidLooks := .later }
def FnJarPutUptoCardSaid : Prop := Claim7.holds Tryz.pinned (.plain (OpenSpec.upto fnJarPutSpec)) fnJarPutUptoCard

/-- THE SECOND FORM's CARD OF 'laws.FnExactJarSet'. -/
def fnExactJarSetUptoCard : Claim7 := { stood := { row := fnExactJarSetUptoRow, standIns := [], harness := (true, "33a1b4e558697a2928ed0e538af9229ebed3996754099f3d5103e142249a1bd4"), looks := true }, kinds := [], alts := [], laidByText := true, laidKinds := [.data, .data, .data, .data, .sentinel, .sentinel, .data, .pinned], laidTests := true, laidLooks := .later }
def FnExactJarSetUptoCardSaid : Prop := Claim7.holds Tryz.pinned (.plain (OpenSpec.upto fnExactJarSetSpec)) fnExactJarSetUptoCard

/-- THE SECOND FORM's CARD OF 'laws.FnJarFor'. -/
def fnJarForUptoCard : Claim7 := { stood := { row := fnJarForUptoRow, standIns := [], harness := (true, "33a1b4e558697a2928ed0e538af9229ebed3996754099f3d5103e142249a1bd4"), looks := true }, kinds := [], alts := [], laidByText := true, laidKinds := [.data, .data, .data, .data, .data, .pinned], laidTests := true, laidLooks := .later }
def FnJarForUptoCardSaid : Prop := Claim7.holds Tryz.pinned (.plain (OpenSpec.upto fnJarForSpec)) fnJarForUptoCard
end Rows
end Go.Proofs.YtpfnljkjjnnliaaGreatDoor
