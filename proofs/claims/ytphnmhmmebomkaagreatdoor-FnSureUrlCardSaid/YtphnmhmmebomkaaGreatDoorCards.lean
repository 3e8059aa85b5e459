/-
  DERIVED. GIVEN WITH THE SEED: THE CARDS: each row of YtphnmhmmebomkaaGreatDoorRows.lean that lists a variable, with what it lists TIED to the program's text (the seventh form; the later family's looks); each row that meets fmt, with fmt's text TOLD by the authors' own Lean function (tested against real Go, not proved from fmt's source: count such statements apart). THE CARD IS WHAT COUNTS. Prove the row's statement (the work); the ties are given (YtphnmhmmebomkaaGreatDoorTie.lean); close each card by the builder's one call (the guide's Derived/Test/ToyasCard.lean, 'card_holds'). Laid BY PROGRAM, IN A SANDBOX (cutbox-door.mjs). By AI agents, Wed Nov 11 2026. No macro, syntax, notation, axiom, sorry.
-/
import Derived.Test.YtphnmhmmebomkaaGreatDoorRows
import GoSem.ClaimSeven
namespace Go.Proofs.YtphnmhmmebomkaaGreatDoor
namespace Rows

/-- THE TIED CARD OF 'laws.FnJarText'. -/
def fnJarTextCard : Claim7 := { stood := { row := fnJarTextRow, standIns := [], harness := (true, "0c039a3cf54ee2e57a2a5b26c5d237c3aaf0831eb64bacc9177835f9ad77acf8"), looks := false }, kinds := [], alts := [], laidByText := true, laidKinds := [.data, .data, .data, .data, .pinned], laidTests := true, laidLooks := .later }
def FnJarTextCardSaid : Prop := Claim7.holds Tryz.pinned (.plain (OpenSpec.ofChange fnJarTextSpec)) fnJarTextCard

/-- THE TIED CARD OF 'laws.FnSurePut'. -/
def fnSurePutCard : Claim7 := { stood := { row := fnSurePutRow, standIns := [], harness := (true, "0c039a3cf54ee2e57a2a5b26c5d237c3aaf0831eb64bacc9177835f9ad77acf8"), looks := false }, kinds := [], alts := [], laidByText := true, laidKinds := [.data, .data, .data, .data, .data, .pinned], laidTests := true, laidLooks := .later }
def FnSurePutCardSaid : Prop := Claim7.holds Tryz.pinned (.plain (OpenSpec.ofChange fnSurePutSpec)) fnSurePutCard

/-- THE TIED CARD OF 'laws.FnJarClean'. -/
def fnJarCleanCard : Claim7 := { stood := { row := fnJarCleanRow, standIns := [], harness := (true, "0c039a3cf54ee2e57a2a5b26c5d237c3aaf0831eb64bacc9177835f9ad77acf8"), looks := false }, kinds := [], alts := [], laidByText := true, laidKinds := [.data, .data, .data, .data, .pinned], laidTests := true, laidLooks := .later }
def FnJarCleanCardSaid : Prop := Claim7.holds Tryz.pinned (.plain (OpenSpec.ofChange fnJarCleanSpec)) fnJarCleanCard

/-- THE TIED CARD OF 'laws.FnJarPut'. -/
def fnJarPutCard : Claim7 := { stood := { row := fnJarPutRow, standIns := [], harness := (true, "0c039a3cf54ee2e57a2a5b26c5d237c3aaf0831eb64bacc9177835f9ad77acf8"), looks := false }, kinds := [], alts := [], laidByText := true, laidKinds := [.data, .data, .data, .data, .pinned], laidTests := true, laidLooks := .later }
def FnJarPutCardSaid : Prop := Claim7.holds Tryz.pinned (.plain (OpenSpec.ofChange fnJarPutSpec)) fnJarPutCard

/-- THE TIED CARD OF 'laws.FnNetAt'. -/
def fnNetAtCard : Claim7 := { stood := { row := fnNetAtRow, standIns := [], harness := (true, "0c039a3cf54ee2e57a2a5b26c5d237c3aaf0831eb64bacc9177835f9ad77acf8"), looks := false }, kinds := [], alts := [], laidByText := true, laidKinds := [.data, .data, .data, .data, .data, .pinned], laidTests := true, laidLooks := .later }
def FnNetAtCardSaid : Prop := Claim7.holds Tryz.pinned (.plain (OpenSpec.ofChange fnNetAtSpec)) fnNetAtCard

/-- THE TIED CARD OF 'laws.FnSureUrl'. -/
def fnSureUrlCard : Claim7 := { stood := { row := fnSureUrlRow, standIns := [], harness := (true, "0c039a3cf54ee2e57a2a5b26c5d237c3aaf0831eb64bacc9177835f9ad77acf8"), looks := false }, kinds := [], alts := [], laidByText := true, laidKinds := [.data, .data, .data, .data, .data, .pinned], laidTests := true, laidLooks := .later }
def FnSureUrlCardSaid : Prop := Claim7.holds Tryz.pinned (.plain (OpenSpec.ofChange fnSureUrlSpec)) fnSureUrlCard

/-- THE TIED CARD OF 'laws.FnHistCut'. -/
def fnHistCutCard : Claim7 := { stood := { row := fnHistCutRow, standIns := [], harness := (true, "0c039a3cf54ee2e57a2a5b26c5d237c3aaf0831eb64bacc9177835f9ad77acf8"), looks := false }, kinds := [], alts := [], laidByText := true, laidKinds := [.data, .data, .data, .data, .data, .pinned], laidTests := true, laidLooks := .later }
def FnHistCutCardSaid : Prop := Claim7.holds Tryz.pinned (.plain (OpenSpec.ofChange fnHistCutSpec)) fnHistCutCard

/-- THE TIED CARD OF 'laws.FnHistPut'. -/
def fnHistPutCard : Claim7 := { stood := { row := fnHistPutRow, standIns := [], harness := (true, "0c039a3cf54ee2e57a2a5b26c5d237c3aaf0831eb64bacc9177835f9ad77acf8"), looks := false }, kinds := [], alts := [], laidByText := true, laidKinds := [.data, .data, .data, .data, .data, .pinned], laidTests := true, laidLooks := .later }
def FnHistPutCardSaid : Prop := Claim7.holds Tryz.pinned (.plain (OpenSpec.ofChange fnHistPutSpec)) fnHistPutCard

/-- THE TIED CARD OF 'laws.FnHistNear'. -/
def fnHistNearCard : Claim7 := { stood := { row := fnHistNearRow, standIns := [], harness := (true, "0c039a3cf54ee2e57a2a5b26c5d237c3aaf0831eb64bacc9177835f9ad77acf8"), looks := false }, kinds := [], alts := [], laidByText := true, laidKinds := [.data, .data, .data, .data, .data, .pinned], laidTests := true, laidLooks := .later }
def FnHistNearCardSaid : Prop := Claim7.holds Tryz.pinned (.plain (OpenSpec.ofChange fnHistNearSpec)) fnHistNearCard

/-- THE TIED CARD OF 'laws.FnHistBehind'. -/
def fnHistBehindCard : Claim7 := { stood := { row := fnHistBehindRow, standIns := [], harness := (true, "0c039a3cf54ee2e57a2a5b26c5d237c3aaf0831eb64bacc9177835f9ad77acf8"), looks := false }, kinds := [], alts := [], laidByText := true, laidKinds := [.data, .data, .data, .data, .data, .pinned], laidTests := true, laidLooks := .later }
def FnHistBehindCardSaid : Prop := Claim7.holds Tryz.pinned (.plain (OpenSpec.ofChange fnHistBehindSpec)) fnHistBehindCard

/-- THE TIED CARD OF 'laws.FnCookieGoes'. -/
def fnCookieGoesCard : Claim7 := { stood := { row := fnCookieGoesRow, standIns := [], harness := (true, "0c039a3cf54ee2e57a2a5b26c5d237c3aaf0831eb64bacc9177835f9ad77acf8"), looks := false }, kinds := [], alts := [], laidByText := true, laidKinds := [.data, .data, .data, .data, .data, .pinned], laidTests := true, laidLooks := .later }
def FnCookieGoesCardSaid : Prop := Claim7.holds Tryz.pinned (.plain (OpenSpec.ofChange fnCookieGoesSpec)) fnCookieGoesCard

/-- THE TIED CARD OF 'laws.FnJarFor'. -/
def fnJarForCard : Claim7 := { stood := { row := fnJarForRow, standIns := [], harness := (true, "0c039a3cf54ee2e57a2a5b26c5d237c3aaf0831eb64bacc9177835f9ad77acf8"), looks := false }, kinds := [], alts := [], laidByText := true, laidKinds := [.data, .data, .data, .data, .data, .pinned], laidTests := true, laidLooks := .later }
def FnJarForCardSaid : Prop := Claim7.holds Tryz.pinned (.plain (OpenSpec.ofChange fnJarForSpec)) fnJarForCard

/-- THE SECOND FORM's CARD OF 'laws.FnJarText'. -/
def fnJarTextUptoCard : Claim7 := { stood := { row := fnJarTextUptoRow, standIns := [], harness := (true, "0c039a3cf54ee2e57a2a5b26c5d237c3aaf0831eb64bacc9177835f9ad77acf8"), looks := false }, kinds := [], alts := [], laidByText := true, laidKinds := [.data, .data, .data, .data, .pinned], laidTests := true, laidLooks := .later }
def FnJarTextUptoCardSaid : Prop := Claim7.holds Tryz.pinned (.plain (OpenSpec.upto fnJarTextSpec)) fnJarTextUptoCard

/-- THE SECOND FORM's CARD OF 'laws.FnSurePut'. -/
def fnSurePutUptoCard : Claim7 := { stood := { row := fnSurePutUptoRow, standIns := [], harness := (true, "0c039a3cf54ee2e57a2a5b26c5d237c3aaf0831eb64bacc9177835f9ad77acf8"), looks := false }, kinds := [], alts := [], laidByText := true, laidKinds := [.data, .data, .data, .data, .data, .pinned], laidTests := true, laidLooks := .later }
def FnSurePutUptoCardSaid : Prop := Claim7.holds Tryz.pinned (.plain (OpenSpec.upto fnSurePutSpec)) fnSurePutUptoCard

/-- THE SECOND FORM's CARD OF 'laws.FnJarClean'. -/
def fnJarCleanUptoCard : Claim7 := { stood := { row := fnJarCleanUptoRow, standIns := [], harness := (true, "0c039a3cf54ee2e57a2a5b26c5d237c3aaf0831eb64bacc9177835f9ad77acf8"), looks := false }, kinds := [], alts := [], laidByText := true, laidKinds := [.data, .data, .data, .data, .pinned], laidTests := true, laidLooks := .later }
def FnJarCleanUptoCardSaid : Prop := Claim7.holds Tryz.pinned (.plain (OpenSpec.upto fnJarCleanSpec)) fnJarCleanUptoCard

/-- THE SECOND FORM's CARD OF 'laws.FnJarPut'. -/
def fnJarPutUptoCard : Claim7 := { stood := { row := fnJarPutUptoRow, standIns := [], harness := (true, "0c039a3cf54ee2e57a2a5b26c5d237c3aaf0831eb64bacc9177835f9ad77acf8"), looks := false }, kinds := [], alts := [], laidByText := true, laidKinds := [.data, .data, .data, .data, .pinned], laidTests := true, laidLooks := .later }
def FnJarPutUptoCardSaid : Prop := Claim7.holds Tryz.pinned (.plain (OpenSpec.upto fnJarPutSpec)) fnJarPutUptoCard

/-- THE SECOND FORM's CARD OF 'laws.FnNetAt'. -/
def fnNetAtUptoCard : Claim7 := { stood := { row := fnNetAtUptoRow, standIns := [], harness := (true, "0c039a3cf54ee2e57a2a5b26c5d237c3aaf0831eb64bacc9177835f9ad77acf8"), looks := false }, kinds := [], alts := [], laidByText := true, laidKinds := [.data, .data, .data, .data, .data, .pinned], laidTests := true, laidLooks := .later }
def FnNetAtUptoCardSaid : Prop := Claim7.holds Tryz.pinned (.plain (OpenSpec.upto fnNetAtSpec)) fnNetAtUptoCard

/-- THE SECOND FORM's CARD OF 'laws.FnSureUrl'. -/
def fnSureUrlUptoCard : Claim7 := { stood := { row := fnSureUrlUptoRow, standIns := [], harness := (true, "0c039a3cf54ee2e57a2a5b26c5d237c3aaf0831eb64bacc9177835f9ad77acf8"), looks := false }, kinds := [], alts := [], laidByText := true, laidKinds := [.data, .data, .data, .data, .data, .pinned], laidTests := true, laidLooks := .later }
def FnSureUrlUptoCardSaid : Prop := Claim7.holds Tryz.pinned (.plain (OpenSpec.upto fnSureUrlSpec)) fnSureUrlUptoCard

/-- THE SECOND FORM's CARD OF 'laws.FnHistCut'. -/
def fnHistCutUptoCard : Claim7 := { stood := { row := fnHistCutUptoRow, standIns := [], harness := (true, "0c039a3cf54ee2e57a2a5b26c5d237c3aaf0831eb64bacc9177835f9ad77acf8"), looks := false }, kinds := [], alts := [], laidByText := true, laidKinds := [.data, .data, .data, .data, .data, .pinned], laidTests := true, laidLooks := .later }
def FnHistCutUptoCardSaid : Prop := Claim7.holds Tryz.pinned (.plain (OpenSpec.upto fnHistCutSpec)) fnHistCutUptoCard

/-- THE SECOND FORM's CARD OF 'laws.FnHistPut'. -/
def fnHistPutUptoCard : Claim7 := { stood := { row := fnHistPutUptoRow, standIns := [], harness := (true, "0c039a3cf54ee2e57a2a5b26c5d237c3aaf0831eb64bacc9177835f9ad77acf8"), looks := false }, kinds := [], alts := [], laidByText := true, laidKinds := [.data, .data, .data, .data, .data, .pinned], laidTests := true, laidLooks := .later }
def FnHistPutUptoCardSaid : Prop := Claim7.holds Tryz.pinned (.plain (OpenSpec.upto fnHistPutSpec)) fnHistPutUptoCard

/-- THE SECOND FORM's CARD OF 'laws.FnHistNear'. -/
def fnHistNearUptoCard : Claim7 := { stood := { row := fnHistNearUptoRow, standIns := [], harness := (true, "0c039a3cf54ee2e57a2a5b26c5d237c3aaf0831eb64bacc9177835f9ad77acf8"), looks := false }, kinds := [], alts := [], laidByText := true, laidKinds := [.data, .data, .data, .data, .data, .pinned], laidTests := true, laidLooks := .later }
def FnHistNearUptoCardSaid : Prop := Claim7.holds Tryz.pinned (.plain (OpenSpec.upto fnHistNearSpec)) fnHistNearUptoCard

/-- THE SECOND FORM's CARD OF 'laws.FnHistBehind'. -/
def fnHistBehindUptoCard : Claim7 := { stood := { row := fnHistBehindUptoRow, standIns := [], harness := (true, "0c039a3cf54ee2e57a2a5b26c5d237c3aaf0831eb64bacc9177835f9ad77acf8"), looks := false }, kinds := [], alts := [], laidByText := true, laidKinds := [.data, .data, .data, .data, .data, .pinned], laidTests := true, laidLooks := .later }
def FnHistBehindUptoCardSaid : Prop := Claim7.holds Tryz.pinned (.plain (OpenSpec.upto fnHistBehindSpec)) fnHistBehindUptoCard

/-- THE SECOND FORM's CARD OF 'laws.FnCookieGoes'. -/
def fnCookieGoesUptoCard : Claim7 := { stood := { row := fnCookieGoesUptoRow, standIns := [], harness := (true, "0c039a3cf54ee2e57a2a5b26c5d237c3aaf0831eb64bacc9177835f9ad77acf8"), looks := false }, kinds := [], alts := [], laidByText := true, laidKinds := [.data, .data, .data, .data, .data, .pinned], laidTests := true, laidLooks := .later }
def FnCookieGoesUptoCardSaid : Prop := Claim7.holds Tryz.pinned (.plain (OpenSpec.upto fnCookieGoesSpec)) fnCookieGoesUptoCard

/-- THE SECOND FORM's CARD OF 'laws.FnJarFor'. -/
def fnJarForUptoCard : Claim7 := { stood := { row := fnJarForUptoRow, standIns := [], harness := (true, "0c039a3cf54ee2e57a2a5b26c5d237c3aaf0831eb64bacc9177835f9ad77acf8"), looks := false }, kinds := [], alts := [], laidByText := true, laidKinds := [.data, .data, .data, .data, .data, .pinned], laidTests := true, laidLooks := .later }
def FnJarForUptoCardSaid : Prop := Claim7.holds Tryz.pinned (.plain (OpenSpec.upto fnJarForSpec)) fnJarForUptoCard
end Rows
end Go.Proofs.YtphnmhmmebomkaaGreatDoor
