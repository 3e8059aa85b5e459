/-
  DERIVED. GIVEN WITH THE SEED: THE CARDS: each row of YtbpkjhlbfjofhaaGreatDoorRows.lean that lists a variable, with what it lists TIED to the program's text (the seventh form; the later family's looks); each row that meets fmt, with fmt's text TOLD by the authors' own Lean function (tested against real Go, not proved from fmt's source: count such statements apart). THE CARD IS WHAT COUNTS. Prove the row's statement (the work); the ties are given (YtbpkjhlbfjofhaaGreatDoorTie.lean); close each card by the builder's one call (the guide's Derived/Test/ToyasCard.lean, 'card_holds'). Laid BY PROGRAM, IN A SANDBOX (cutbox-door.mjs). By AI agents, Wed Nov 11 2026. No macro, syntax, notation, axiom, sorry.
-/
import Derived.Test.YtbpkjhlbfjofhaaGreatDoorRows
import GoSem.ClaimSeven
namespace Go.Proofs.YtbpkjhlbfjofhaaGreatDoor
namespace Rows

/-- THE TIED CARD OF 'laws.FnSurePut'. -/
def fnSurePutCard : Claim7 := { stood := { row := fnSurePutRow, standIns := [], harness := (true, "6f9a782c42d11fcc5abc9da748f872bb44dba15f10382d68d6b9bcf32e33ba03"), looks := false }, kinds := [], alts := [], laidByText := true, laidKinds := [.data, .data, .data, .data, .data, .pinned], laidTests := true, laidLooks := .later }
def FnSurePutCardSaid : Prop := Claim7.holds Tryz.pinned (.plain (OpenSpec.ofChange fnSurePutSpec)) fnSurePutCard

/-- THE TIED CARD OF 'laws.FnExactUrlBase'. -/
def fnExactUrlBaseCard : Claim7 := { stood := { row := fnExactUrlBaseRow, standIns := [], harness := (true, "6f9a782c42d11fcc5abc9da748f872bb44dba15f10382d68d6b9bcf32e33ba03"), looks := false }, kinds := [], alts := [], laidByText := true, laidKinds := [.data, .data, .data, .data, .data, .pinned], laidTests := true, laidLooks := .later }
def FnExactUrlBaseCardSaid : Prop := Claim7.holds Tryz.pinned (.plain (OpenSpec.ofChange fnExactUrlBaseSpec)) fnExactUrlBaseCard

/-- THE TIED CARD OF 'laws.FnNetAt'. -/
def fnNetAtCard : Claim7 := { stood := { row := fnNetAtRow, standIns := [], harness := (true, "6f9a782c42d11fcc5abc9da748f872bb44dba15f10382d68d6b9bcf32e33ba03"), looks := false }, kinds := [], alts := [], laidByText := true, laidKinds := [.data, .data, .data, .data, .data, .pinned], laidTests := true, laidLooks := .later }
def FnNetAtCardSaid : Prop := Claim7.holds Tryz.pinned (.plain (OpenSpec.ofChange fnNetAtSpec)) fnNetAtCard

/-- THE TIED CARD OF 'laws.FnExactSureUrl'. -/
def fnExactSureUrlCard : Claim7 := { stood := { row := fnExactSureUrlRow, standIns := [], harness := (true, "6f9a782c42d11fcc5abc9da748f872bb44dba15f10382d68d6b9bcf32e33ba03"), looks := false }, kinds := [], alts := [], laidByText := true, laidKinds := [.data, .data, .data, .data, .data, .pinned], laidTests := true, laidLooks := .later }
def FnExactSureUrlCardSaid : Prop := Claim7.holds Tryz.pinned (.plain (OpenSpec.ofChange fnExactSureUrlSpec)) fnExactSureUrlCard

/-- THE SECOND FORM's CARD OF 'laws.FnSurePut'. -/
def fnSurePutUptoCard : Claim7 := { stood := { row := fnSurePutUptoRow, standIns := [], harness := (true, "6f9a782c42d11fcc5abc9da748f872bb44dba15f10382d68d6b9bcf32e33ba03"), looks := false }, kinds := [], alts := [], laidByText := true, laidKinds := [.data, .data, .data, .data, .data, .pinned], laidTests := true, laidLooks := .later }
def FnSurePutUptoCardSaid : Prop := Claim7.holds Tryz.pinned (.plain (OpenSpec.upto fnSurePutSpec)) fnSurePutUptoCard

/-- THE SECOND FORM's CARD OF 'laws.FnExactUrlBase'. -/
def fnExactUrlBaseUptoCard : Claim7 := { stood := { row := fnExactUrlBaseUptoRow, standIns := [], harness := (true, "6f9a782c42d11fcc5abc9da748f872bb44dba15f10382d68d6b9bcf32e33ba03"), looks := false }, kinds := [], alts := [], laidByText := true, laidKinds := [.data, .data, .data, .data, .data, .pinned], laidTests := true, laidLooks := .later }
def FnExactUrlBaseUptoCardSaid : Prop := Claim7.holds Tryz.pinned (.plain (OpenSpec.upto fnExactUrlBaseSpec)) fnExactUrlBaseUptoCard

/-- THE SECOND FORM's CARD OF 'laws.FnNetAt'. -/
def fnNetAtUptoCard : Claim7 := { stood := { row := fnNetAtUptoRow, standIns := [], harness := (true, "6f9a782c42d11fcc5abc9da748f872bb44dba15f10382d68d6b9bcf32e33ba03"), looks := false }, kinds := [], alts := [], laidByText := true, laidKinds := [.data, .data, .data, .data, .data, .pinned], laidTests := true, laidLooks := .later }
def FnNetAtUptoCardSaid : Prop := Claim7.holds Tryz.pinned (.plain (OpenSpec.upto fnNetAtSpec)) fnNetAtUptoCard

/-- THE SECOND FORM's CARD OF 'laws.FnExactSureUrl'. -/
def fnExactSureUrlUptoCard : Claim7 := { stood := { row := fnExactSureUrlUptoRow, standIns := [], harness := (true, "6f9a782c42d11fcc5abc9da748f872bb44dba15f10382d68d6b9bcf32e33ba03"), looks := false }, kinds := [], alts := [], laidByText := true, laidKinds := [.data, .data, .data, .data, .data, .pinned], laidTests := true, laidLooks := .later }
def FnExactSureUrlUptoCardSaid : Prop := Claim7.holds Tryz.pinned (.plain (OpenSpec.upto fnExactSureUrlSpec)) fnExactSureUrlUptoCard
end Rows
end Go.Proofs.YtbpkjhlbfjofhaaGreatDoor
