/-
  DERIVED. GIVEN WITH THE SEED: THE CARDS: each row of YtikanhlbhlcbjaaGreatDoorRows.lean that lists a variable, with what it lists TIED to the program's text (the seventh form; the later family's looks); each row that meets fmt, with fmt's text TOLD by the authors' own Lean function (tested against real Go, not proved from fmt's source: count such statements apart). THE CARD IS WHAT COUNTS. Prove the row's statement (the work); the ties are given (YtikanhlbhlcbjaaGreatDoorTie.lean); close each card by the builder's one call (the guide's Derived/Test/ToyasCard.lean, 'card_holds'). Laid BY PROGRAM, IN A SANDBOX (cutbox-door.mjs). By AI agents, Wed Nov 11 2026. No macro, syntax, notation, axiom, sorry.
-/
import Derived.Test.YtikanhlbhlcbjaaGreatDoorRows
import GoSem.ClaimSeven
namespace Go.Proofs.YtikanhlbhlcbjaaGreatDoor
namespace Rows

/-- THE TIED CARD OF 'laws.FnExactCookieGet'. -/
def fnExactCookieGetCard : Claim7 := { stood := { row := fnExactCookieGetRow, standIns := [], harness := (true, "3ef5a09ab754bc38ca864fbacdfd319faa441a91f47d2ad2af919e05df01677f"), looks := true }, kinds := [], alts := [], laidByText := true, laidKinds := [.data, .data, .data, .data, .sentinel, .sentinel, .data, .pinned], laidTests := true, laidLooks := .later }
def FnExactCookieGetCardSaid : Prop := Claim7.holds Tryz.pinned (.plain (OpenSpec.ofChange fnExactCookieGetSpec)) fnExactCookieGetCard

/-- THE TIED CARD OF 'laws.FnExactJarLoad'. -/
def fnExactJarLoadCard : Claim7 := { stood := { row := fnExactJarLoadRow, standIns := [], harness := (true, "3ef5a09ab754bc38ca864fbacdfd319faa441a91f47d2ad2af919e05df01677f"), looks := true }, kinds := [], alts := [], laidByText := true, laidKinds := [.data, .data, .data, .data, .sentinel, .sentinel, .pinned], laidTests := true, laidLooks := .later }
def FnExactJarLoadCardSaid : Prop := Claim7.holds Tryz.pinned (.plain (OpenSpec.ofChange fnExactJarLoadSpec)) fnExactJarLoadCard

/-- THE TIED CARD OF 'laws.FnJarSave'. -/
def fnJarSaveCard : Claim7 := { stood := { row := fnJarSaveRow, standIns := [], harness := (true, "3ef5a09ab754bc38ca864fbacdfd319faa441a91f47d2ad2af919e05df01677f"), looks := true }, kinds := [], alts := [], laidByText := true, laidKinds := [.data, .data, .data, .data, .sentinel, .sentinel, .pinned], laidTests := true, laidLooks := .later }
def FnJarSaveCardSaid : Prop := Claim7.holds Tryz.pinned (.plain (OpenSpec.ofChange fnJarSaveSpec)) fnJarSaveCard

/-- THE TIED CARD OF 'laws.FnCookieDomain'. -/
def fnCookieDomainCard : Claim7 := { stood := { row := fnCookieDomainRow, standIns := [], harness := (true, "3ef5a09ab754bc38ca864fbacdfd319faa441a91f47d2ad2af919e05df01677f"), looks := true }, kinds := [], alts := [], laidByText := true, laidKinds := [.data, .data, .data, .data, .sentinel, .sentinel, .data, .pinned], laidTests := true, laidLooks := .later }
def FnCookieDomainCardSaid : Prop := Claim7.holds Tryz.pinned (.plain (OpenSpec.ofChange fnCookieDomainSpec)) fnCookieDomainCard

/-- THE TIED CARD OF 'laws.FnCookieGet'. -/
def fnCookieGetCard : Claim7 := { stood := { row := fnCookieGetRow, standIns := [], harness := (true, "3ef5a09ab754bc38ca864fbacdfd319faa441a91f47d2ad2af919e05df01677f"), looks := true }, kinds := [], alts := [], laidByText := true, laidKinds := [.data, .data, .data, .data, .sentinel, .sentinel, .data, .pinned], laidTests := true, laidLooks := .later }
def FnCookieGetCardSaid : Prop := Claim7.holds Tryz.pinned (.plain (OpenSpec.ofChange fnCookieGetSpec)) fnCookieGetCard

/-- THE SECOND FORM's CARD OF 'laws.FnExactCookieGet'. -/
def fnExactCookieGetUptoCard : Claim7 := { stood := { row := fnExactCookieGetUptoRow, standIns := [], harness := (true, "3ef5a09ab754bc38ca864fbacdfd319faa441a91f47d2ad2af919e05df01677f"), looks := true }, kinds := [], alts := [], laidByText := true, laidKinds := [.data, .data, .data, .data, .sentinel, .sentinel, .data, .pinned], laidTests := true, laidLooks := .later }
def FnExactCookieGetUptoCardSaid : Prop := Claim7.holds Tryz.pinned (.plain (OpenSpec.upto fnExactCookieGetSpec)) fnExactCookieGetUptoCard

/-- THE SECOND FORM's CARD OF 'laws.FnExactJarLoad'. -/
def fnExactJarLoadUptoCard : Claim7 := { stood := { row := fnExactJarLoadUptoRow, standIns := [], harness := (true, "3ef5a09ab754bc38ca864fbacdfd319faa441a91f47d2ad2af919e05df01677f"), looks := true }, kinds := [], alts := [], laidByText := true, laidKinds := [.data, .data, .data, .data, .sentinel, .sentinel, .pinned], laidTests := true, laidLooks := .later }
def FnExactJarLoadUptoCardSaid : Prop := Claim7.holds Tryz.pinned (.plain (OpenSpec.upto fnExactJarLoadSpec)) fnExactJarLoadUptoCard

/-- THE SECOND FORM's CARD OF 'laws.FnJarSave'. -/
def fnJarSaveUptoCard : Claim7 := { stood := { row := fnJarSaveUptoRow, standIns := [], harness := (true, "3ef5a09ab754bc38ca864fbacdfd319faa441a91f47d2ad2af919e05df01677f"), looks := true }, kinds := [], alts := [], laidByText := true, laidKinds := [.data, .data, .data, .data, .sentinel, .sentinel, .pinned], laidTests := true, laidLooks := .later }
def FnJarSaveUptoCardSaid : Prop := Claim7.holds Tryz.pinned (.plain (OpenSpec.upto fnJarSaveSpec)) fnJarSaveUptoCard

/-- THE SECOND FORM's CARD OF 'laws.FnCookieDomain'. -/
def fnCookieDomainUptoCard : Claim7 := { stood := { row := fnCookieDomainUptoRow, standIns := [], harness := (true, "3ef5a09ab754bc38ca864fbacdfd319faa441a91f47d2ad2af919e05df01677f"), looks := true }, kinds := [], alts := [], laidByText := true, laidKinds := [.data, .data, .data, .data, .sentinel, .sentinel, .data, .pinned], laidTests := true, laidLooks := .later }
def FnCookieDomainUptoCardSaid : Prop := Claim7.holds Tryz.pinned (.plain (OpenSpec.upto fnCookieDomainSpec)) fnCookieDomainUptoCard

/-- THE SECOND FORM's CARD OF 'laws.FnCookieGet'. -/
def fnCookieGetUptoCard : Claim7 := { stood := { row := fnCookieGetUptoRow, standIns := [], harness := (true, "3ef5a09ab754bc38ca864fbacdfd319faa441a91f47d2ad2af919e05df01677f"), looks := true }, kinds := [], alts := [], laidByText := true, laidKinds := [.data, .data, .data, .data, .sentinel, .sentinel, .data, .pinned], laidTests := true, laidLooks := .later }
def FnCookieGetUptoCardSaid : Prop := Claim7.holds Tryz.pinned (.plain (OpenSpec.upto fnCookieGetSpec)) fnCookieGetUptoCard
end Rows
end Go.Proofs.YtikanhlbhlcbjaaGreatDoor
