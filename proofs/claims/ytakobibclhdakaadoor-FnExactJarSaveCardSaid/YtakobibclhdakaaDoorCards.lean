/-
  DERIVED. GIVEN WITH THE SEED: THE CARDS: each row of YtakobibclhdakaaDoorRows.lean that lists a variable, with what it lists TIED to the program's text (the seventh form; the later family's looks); each row that meets fmt, with fmt's text TOLD by the authors' own Lean function (tested against real Go, not proved from fmt's source: count such statements apart). THE CARD IS WHAT COUNTS. Prove the row's statement (the work); the ties are given (YtakobibclhdakaaDoorTie.lean); close each card by the builder's one call (the guide's Derived/Test/ToyasCard.lean, 'card_holds'). Laid BY PROGRAM, IN A SANDBOX (cutbox-door.mjs). By AI agents, Wed Nov 11 2026. No macro, syntax, notation, axiom, sorry.
-/
import Derived.Test.YtakobibclhdakaaDoorRows
import GoSem.ClaimSeven
namespace Go.Proofs.YtakobibclhdakaaDoor
namespace Rows

/-- THE TIED CARD OF 'laws.FnExactSureOk'. -/
def fnExactSureOkCard : Claim7 := { stood := { row := fnExactSureOkRow, standIns := [], harness := (true, "fe475bb59310d5edbe9b068c3e9971012cd9055819734bd9b1bd9af798a17fe1"), looks := false }, kinds := [], alts := [], laidByText := true, laidKinds := [.data, .pinned], laidTests := true, laidLooks := .later }
def FnExactSureOkCardSaid : Prop := Claim7.holds Tryd.pinned (.plain (OpenSpec.ofChange fnExactSureOkSpec)) fnExactSureOkCard

/-- THE TIED CARD OF 'laws.FnExactSurePut'. -/
def fnExactSurePutCard : Claim7 := { stood := { row := fnExactSurePutRow, standIns := [], harness := (true, "fe475bb59310d5edbe9b068c3e9971012cd9055819734bd9b1bd9af798a17fe1"), looks := false }, kinds := [], alts := [], laidByText := true, laidKinds := [.data, .pinned], laidTests := true, laidLooks := .later }
def FnExactSurePutCardSaid : Prop := Claim7.holds Tryd.pinned (.plain (OpenSpec.ofChange fnExactSurePutSpec)) fnExactSurePutCard

/-- THE TIED CARD OF 'laws.FnExactCookieOk'. -/
def fnExactCookieOkCard : Claim7 := { stood := { row := fnExactCookieOkRow, standIns := [], harness := (true, "fe475bb59310d5edbe9b068c3e9971012cd9055819734bd9b1bd9af798a17fe1"), looks := false }, kinds := [], alts := [], laidByText := true, laidKinds := [.data, .data, .data, .data, .pinned], laidTests := true, laidLooks := .later }
def FnExactCookieOkCardSaid : Prop := Claim7.holds Tryd.pinned (.plain (OpenSpec.ofChange fnExactCookieOkSpec)) fnExactCookieOkCard

/-- THE TIED CARD OF 'laws.FnExactJarOk'. -/
def fnExactJarOkCard : Claim7 := { stood := { row := fnExactJarOkRow, standIns := [], harness := (true, "fe475bb59310d5edbe9b068c3e9971012cd9055819734bd9b1bd9af798a17fe1"), looks := false }, kinds := [], alts := [], laidByText := true, laidKinds := [.data, .data, .data, .data, .pinned], laidTests := true, laidLooks := .later }
def FnExactJarOkCardSaid : Prop := Claim7.holds Tryd.pinned (.plain (OpenSpec.ofChange fnExactJarOkSpec)) fnExactJarOkCard

/-- THE TIED CARD OF 'laws.FnExactJarText'. -/
def fnExactJarTextCard : Claim7 := { stood := { row := fnExactJarTextRow, standIns := [], harness := (true, "fe475bb59310d5edbe9b068c3e9971012cd9055819734bd9b1bd9af798a17fe1"), looks := false }, kinds := [], alts := [], laidByText := true, laidKinds := [.data, .data, .data, .data, .pinned], laidTests := true, laidLooks := .later }
def FnExactJarTextCardSaid : Prop := Claim7.holds Tryd.pinned (.plain (OpenSpec.ofChange fnExactJarTextSpec)) fnExactJarTextCard

/-- THE TIED CARD OF 'laws.FnExactJarSave'. -/
def fnExactJarSaveCard : Claim7 := { stood := { row := fnExactJarSaveRow, standIns := [], harness := (true, "fe475bb59310d5edbe9b068c3e9971012cd9055819734bd9b1bd9af798a17fe1"), looks := false }, kinds := [], alts := [], laidByText := true, laidKinds := [.data, .data, .data, .data, .pinned], laidTests := true, laidLooks := .later }
def FnExactJarSaveCardSaid : Prop := Claim7.holds Tryd.pinned (.plain (OpenSpec.ofChange fnExactJarSaveSpec)) fnExactJarSaveCard

/-- THE SECOND FORM's CARD OF 'laws.FnExactSureOk'. -/
def fnExactSureOkUptoCard : Claim7 := { stood := { row := fnExactSureOkUptoRow, standIns := [], harness := (true, "fe475bb59310d5edbe9b068c3e9971012cd9055819734bd9b1bd9af798a17fe1"), looks := false }, kinds := [], alts := [], laidByText := true, laidKinds := [.data, .pinned], laidTests := true, laidLooks := .later }
def FnExactSureOkUptoCardSaid : Prop := Claim7.holds Tryd.pinned (.plain (OpenSpec.upto fnExactSureOkSpec)) fnExactSureOkUptoCard

/-- THE SECOND FORM's CARD OF 'laws.FnExactSurePut'. -/
def fnExactSurePutUptoCard : Claim7 := { stood := { row := fnExactSurePutUptoRow, standIns := [], harness := (true, "fe475bb59310d5edbe9b068c3e9971012cd9055819734bd9b1bd9af798a17fe1"), looks := false }, kinds := [], alts := [], laidByText := true, laidKinds := [.data, .pinned], laidTests := true, laidLooks := .later }
def FnExactSurePutUptoCardSaid : Prop := Claim7.holds Tryd.pinned (.plain (OpenSpec.upto fnExactSurePutSpec)) fnExactSurePutUptoCard

/-- THE SECOND FORM's CARD OF 'laws.FnExactCookieOk'. -/
def fnExactCookieOkUptoCard : Claim7 := { stood := { row := fnExactCookieOkUptoRow, standIns := [], harness := (true, "fe475bb59310d5edbe9b068c3e9971012cd9055819734bd9b1bd9af798a17fe1"), looks := false }, kinds := [], alts := [], laidByText := true, laidKinds := [.data, .data, .data, .data, .pinned], laidTests := true, laidLooks := .later }
def FnExactCookieOkUptoCardSaid : Prop := Claim7.holds Tryd.pinned (.plain (OpenSpec.upto fnExactCookieOkSpec)) fnExactCookieOkUptoCard

/-- THE SECOND FORM's CARD OF 'laws.FnExactJarOk'. -/
def fnExactJarOkUptoCard : Claim7 := { stood := { row := fnExactJarOkUptoRow, standIns := [], harness := (true, "fe475bb59310d5edbe9b068c3e9971012cd9055819734bd9b1bd9af798a17fe1"), looks := false }, kinds := [], alts := [], laidByText := true, laidKinds := [.data, .data, .data, .data, .pinned], laidTests := true, laidLooks := .later }
def FnExactJarOkUptoCardSaid : Prop := Claim7.holds Tryd.pinned (.plain (OpenSpec.upto fnExactJarOkSpec)) fnExactJarOkUptoCard

/-- THE SECOND FORM's CARD OF 'laws.FnExactJarText'. -/
def fnExactJarTextUptoCard : Claim7 := { stood := { row := fnExactJarTextUptoRow, standIns := [], harness := (true, "fe475bb59310d5edbe9b068c3e9971012cd9055819734bd9b1bd9af798a17fe1"), looks := false }, kinds := [], alts := [], laidByText := true, laidKinds := [.data, .data, .data, .data, .pinned], laidTests := true, laidLooks := .later }
def FnExactJarTextUptoCardSaid : Prop := Claim7.holds Tryd.pinned (.plain (OpenSpec.upto fnExactJarTextSpec)) fnExactJarTextUptoCard

/-- THE SECOND FORM's CARD OF 'laws.FnExactJarSave'. -/
def fnExactJarSaveUptoCard : Claim7 := { stood := { row := fnExactJarSaveUptoRow, standIns := [], harness := (true, "fe475bb59310d5edbe9b068c3e9971012cd9055819734bd9b1bd9af798a17fe1"), looks := false }, kinds := [], alts := [], laidByText := true, laidKinds := [.data, .data, .data, .data, .pinned], laidTests := true, laidLooks := .later }
def FnExactJarSaveUptoCardSaid : Prop := Claim7.holds Tryd.pinned (.plain (OpenSpec.upto fnExactJarSaveSpec)) fnExactJarSaveUptoCard
end Rows
end Go.Proofs.YtakobibclhdakaaDoor
