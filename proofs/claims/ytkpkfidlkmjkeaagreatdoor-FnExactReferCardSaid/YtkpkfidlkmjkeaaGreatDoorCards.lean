/-
  DERIVED. GIVEN WITH THE SEED: THE CARDS: each row of YtkpkfidlkmjkeaaGreatDoorRows.lean that lists a variable, with what it lists TIED to the program's text (the seventh form; the later family's looks); each row that meets fmt, with fmt's text TOLD by the authors' own Lean function (tested against real Go, not proved from fmt's source: count such statements apart). THE CARD IS WHAT COUNTS. Prove the row's statement (the work); the ties are given (YtkpkfidlkmjkeaaGreatDoorTie.lean); close each card by the builder's one call (the guide's Derived/Test/ToyasCard.lean, 'card_holds'). Laid BY PROGRAM, IN A SANDBOX (cutbox-door.mjs). By AI agents, Wed Nov 11 2026. No macro, syntax, notation, axiom, sorry.
-/
import Derived.Test.YtkpkfidlkmjkeaaGreatDoorRows
import GoSem.ClaimSeven
namespace Go.Proofs.YtkpkfidlkmjkeaaGreatDoor
namespace Rows

/-- THE TIED CARD OF 'laws.FnExactCookieGet'. -/
def fnExactCookieGetCard : Claim7 := { stood := { row := fnExactCookieGetRow, standIns := [], harness := (true, "e51c92c2219d3b8cc1b3cd6c7e810b5c5496a0cf6d6aa9457cb93640a3ae32d5"), looks := true }, kinds := [], alts := [], laidByText := true, laidKinds := [.data, .data, .data, .data, .sentinel, .sentinel, .data, .pinned], laidTests := true, laidLooks := .later }
def FnExactCookieGetCardSaid : Prop := Claim7.holds Tryz.pinned (.plain (OpenSpec.ofChange fnExactCookieGetSpec)) fnExactCookieGetCard

/-- THE TIED CARD OF 'laws.FnExactJarLoad'. -/
def fnExactJarLoadCard : Claim7 := { stood := { row := fnExactJarLoadRow, standIns := [], harness := (true, "e51c92c2219d3b8cc1b3cd6c7e810b5c5496a0cf6d6aa9457cb93640a3ae32d5"), looks := true }, kinds := [], alts := [], laidByText := true, laidKinds := [.data, .data, .data, .data, .sentinel, .sentinel, .pinned], laidTests := true, laidLooks := .later }
def FnExactJarLoadCardSaid : Prop := Claim7.holds Tryz.pinned (.plain (OpenSpec.ofChange fnExactJarLoadSpec)) fnExactJarLoadCard

/-- THE TIED CARD OF 'laws.FnExactUrlSame'. -/
def fnExactUrlSameCard : Claim7 := { stood := { row := fnExactUrlSameRow, standIns := [], harness := (true, "e51c92c2219d3b8cc1b3cd6c7e810b5c5496a0cf6d6aa9457cb93640a3ae32d5"), looks := true }, kinds := [], alts := [], laidByText := true, laidKinds := [.data, .data, .data, .data, .data, .pinned], laidTests := true, laidLooks := .later }
def FnExactUrlSameCardSaid : Prop := Claim7.holds Tryz.pinned (.plain (OpenSpec.ofChange fnExactUrlSameSpec)) fnExactUrlSameCard

/-- THE TIED CARD OF 'laws.FnExactPathOf'. -/
def fnExactPathOfCard : Claim7 := { stood := { row := fnExactPathOfRow, standIns := [], harness := (true, "e51c92c2219d3b8cc1b3cd6c7e810b5c5496a0cf6d6aa9457cb93640a3ae32d5"), looks := true }, kinds := [], alts := [], laidByText := true, laidKinds := [.data, .data, .data, .data, .data, .pinned], laidTests := true, laidLooks := .later }
def FnExactPathOfCardSaid : Prop := Claim7.holds Tryz.pinned (.plain (OpenSpec.ofChange fnExactPathOfSpec)) fnExactPathOfCard

/-- THE TIED CARD OF 'laws.FnExactJarSet'. -/
def fnExactJarSetCard : Claim7 := { stood := { row := fnExactJarSetRow, standIns := [], harness := (true, "e51c92c2219d3b8cc1b3cd6c7e810b5c5496a0cf6d6aa9457cb93640a3ae32d5"), looks := true }, kinds := [], alts := [], laidByText := true, laidKinds := [.data, .data, .data, .data, .sentinel, .sentinel, .data, .pinned], laidTests := true, laidLooks := .later }
def FnExactJarSetCardSaid : Prop := Claim7.holds Tryz.pinned (.plain (OpenSpec.ofChange fnExactJarSetSpec)) fnExactJarSetCard

/-- THE TIED CARD OF 'laws.FnExactUrlLess'. -/
def fnExactUrlLessCard : Claim7 := { stood := { row := fnExactUrlLessRow, standIns := [], harness := (true, "e51c92c2219d3b8cc1b3cd6c7e810b5c5496a0cf6d6aa9457cb93640a3ae32d5"), looks := true }, kinds := [], alts := [], laidByText := true, laidKinds := [.data, .data, .data, .data, .data, .pinned], laidTests := true, laidLooks := .later }
def FnExactUrlLessCardSaid : Prop := Claim7.holds Tryz.pinned (.plain (OpenSpec.ofChange fnExactUrlLessSpec)) fnExactUrlLessCard

/-- THE TIED CARD OF 'laws.FnExactUrlBase'. -/
def fnExactUrlBaseCard : Claim7 := { stood := { row := fnExactUrlBaseRow, standIns := [], harness := (true, "e51c92c2219d3b8cc1b3cd6c7e810b5c5496a0cf6d6aa9457cb93640a3ae32d5"), looks := true }, kinds := [], alts := [], laidByText := true, laidKinds := [.data, .data, .data, .data, .data, .pinned], laidTests := true, laidLooks := .later }
def FnExactUrlBaseCardSaid : Prop := Claim7.holds Tryz.pinned (.plain (OpenSpec.ofChange fnExactUrlBaseSpec)) fnExactUrlBaseCard

/-- THE TIED CARD OF 'laws.FnExactRefer'. -/
def fnExactReferCard : Claim7 := { stood := { row := fnExactReferRow, standIns := [], harness := (true, "e51c92c2219d3b8cc1b3cd6c7e810b5c5496a0cf6d6aa9457cb93640a3ae32d5"), looks := true }, kinds := [], alts := [], laidByText := true, laidKinds := [.data, .data, .data, .data, .data, .pinned], laidTests := true, laidLooks := .later }
def FnExactReferCardSaid : Prop := Claim7.holds Tryz.pinned (.plain (OpenSpec.ofChange fnExactReferSpec)) fnExactReferCard

/-- THE TIED CARD OF 'laws.FnExactNetOk'. -/
def fnExactNetOkCard : Claim7 := { stood := { row := fnExactNetOkRow, standIns := [], harness := (true, "e51c92c2219d3b8cc1b3cd6c7e810b5c5496a0cf6d6aa9457cb93640a3ae32d5"), looks := true }, kinds := [], alts := [], laidByText := true, laidKinds := [.data, .data, .data, .data, .data, .pinned], laidTests := true, laidLooks := .later }
def FnExactNetOkCardSaid : Prop := Claim7.holds Tryz.pinned (.plain (OpenSpec.ofChange fnExactNetOkSpec)) fnExactNetOkCard

/-- THE TIED CARD OF 'laws.FnExactNetAt'. -/
def fnExactNetAtCard : Claim7 := { stood := { row := fnExactNetAtRow, standIns := [], harness := (true, "e51c92c2219d3b8cc1b3cd6c7e810b5c5496a0cf6d6aa9457cb93640a3ae32d5"), looks := true }, kinds := [], alts := [], laidByText := true, laidKinds := [.data, .data, .data, .data, .data, .pinned], laidTests := true, laidLooks := .later }
def FnExactNetAtCardSaid : Prop := Claim7.holds Tryz.pinned (.plain (OpenSpec.ofChange fnExactNetAtSpec)) fnExactNetAtCard

/-- THE TIED CARD OF 'laws.FnExactSureUrl'. -/
def fnExactSureUrlCard : Claim7 := { stood := { row := fnExactSureUrlRow, standIns := [], harness := (true, "e51c92c2219d3b8cc1b3cd6c7e810b5c5496a0cf6d6aa9457cb93640a3ae32d5"), looks := true }, kinds := [], alts := [], laidByText := true, laidKinds := [.data, .data, .data, .data, .data, .pinned], laidTests := true, laidLooks := .later }
def FnExactSureUrlCardSaid : Prop := Claim7.holds Tryz.pinned (.plain (OpenSpec.ofChange fnExactSureUrlSpec)) fnExactSureUrlCard

/-- THE TIED CARD OF 'laws.FnExactHistNear'. -/
def fnExactHistNearCard : Claim7 := { stood := { row := fnExactHistNearRow, standIns := [], harness := (true, "e51c92c2219d3b8cc1b3cd6c7e810b5c5496a0cf6d6aa9457cb93640a3ae32d5"), looks := true }, kinds := [], alts := [], laidByText := true, laidKinds := [.data, .data, .data, .data, .data, .pinned], laidTests := true, laidLooks := .later }
def FnExactHistNearCardSaid : Prop := Claim7.holds Tryz.pinned (.plain (OpenSpec.ofChange fnExactHistNearSpec)) fnExactHistNearCard

/-- THE SECOND FORM's CARD OF 'laws.FnExactCookieGet'. -/
def fnExactCookieGetUptoCard : Claim7 := { stood := { row := fnExactCookieGetUptoRow, standIns := [], harness := (true, "e51c92c2219d3b8cc1b3cd6c7e810b5c5496a0cf6d6aa9457cb93640a3ae32d5"), looks := true }, kinds := [], alts := [], laidByText := true, laidKinds := [.data, .data, .data, .data, .sentinel, .sentinel, .data, .pinned], laidTests := true, laidLooks := .later }
def FnExactCookieGetUptoCardSaid : Prop := Claim7.holds Tryz.pinned (.plain (OpenSpec.upto fnExactCookieGetSpec)) fnExactCookieGetUptoCard

/-- THE SECOND FORM's CARD OF 'laws.FnExactJarLoad'. -/
def fnExactJarLoadUptoCard : Claim7 := { stood := { row := fnExactJarLoadUptoRow, standIns := [], harness := (true, "e51c92c2219d3b8cc1b3cd6c7e810b5c5496a0cf6d6aa9457cb93640a3ae32d5"), looks := true }, kinds := [], alts := [], laidByText := true, laidKinds := [.data, .data, .data, .data, .sentinel, .sentinel, .pinned], laidTests := true, laidLooks := .later }
def FnExactJarLoadUptoCardSaid : Prop := Claim7.holds Tryz.pinned (.plain (OpenSpec.upto fnExactJarLoadSpec)) fnExactJarLoadUptoCard

/-- THE SECOND FORM's CARD OF 'laws.FnExactUrlSame'. -/
def fnExactUrlSameUptoCard : Claim7 := { stood := { row := fnExactUrlSameUptoRow, standIns := [], harness := (true, "e51c92c2219d3b8cc1b3cd6c7e810b5c5496a0cf6d6aa9457cb93640a3ae32d5"), looks := true }, kinds := [], alts := [], laidByText := true, laidKinds := [.data, .data, .data, .data, .data, .pinned], laidTests := true, laidLooks := .later }
def FnExactUrlSameUptoCardSaid : Prop := Claim7.holds Tryz.pinned (.plain (OpenSpec.upto fnExactUrlSameSpec)) fnExactUrlSameUptoCard

/-- THE SECOND FORM's CARD OF 'laws.FnExactPathOf'. -/
def fnExactPathOfUptoCard : Claim7 := { stood := { row := fnExactPathOfUptoRow, standIns := [], harness := (true, "e51c92c2219d3b8cc1b3cd6c7e810b5c5496a0cf6d6aa9457cb93640a3ae32d5"), looks := true }, kinds := [], alts := [], laidByText := true, laidKinds := [.data, .data, .data, .data, .data, .pinned], laidTests := true, laidLooks := .later }
def FnExactPathOfUptoCardSaid : Prop := Claim7.holds Tryz.pinned (.plain (OpenSpec.upto fnExactPathOfSpec)) fnExactPathOfUptoCard

/-- THE SECOND FORM's CARD OF 'laws.FnExactJarSet'. -/
def fnExactJarSetUptoCard : Claim7 := { stood := { row := fnExactJarSetUptoRow, standIns := [], harness := (true, "e51c92c2219d3b8cc1b3cd6c7e810b5c5496a0cf6d6aa9457cb93640a3ae32d5"), looks := true }, kinds := [], alts := [], laidByText := true, laidKinds := [.data, .data, .data, .data, .sentinel, .sentinel, .data, .pinned], laidTests := true, laidLooks := .later }
def FnExactJarSetUptoCardSaid : Prop := Claim7.holds Tryz.pinned (.plain (OpenSpec.upto fnExactJarSetSpec)) fnExactJarSetUptoCard

/-- THE SECOND FORM's CARD OF 'laws.FnExactUrlLess'. -/
def fnExactUrlLessUptoCard : Claim7 := { stood := { row := fnExactUrlLessUptoRow, standIns := [], harness := (true, "e51c92c2219d3b8cc1b3cd6c7e810b5c5496a0cf6d6aa9457cb93640a3ae32d5"), looks := true }, kinds := [], alts := [], laidByText := true, laidKinds := [.data, .data, .data, .data, .data, .pinned], laidTests := true, laidLooks := .later }
def FnExactUrlLessUptoCardSaid : Prop := Claim7.holds Tryz.pinned (.plain (OpenSpec.upto fnExactUrlLessSpec)) fnExactUrlLessUptoCard

/-- THE SECOND FORM's CARD OF 'laws.FnExactUrlBase'. -/
def fnExactUrlBaseUptoCard : Claim7 := { stood := { row := fnExactUrlBaseUptoRow, standIns := [], harness := (true, "e51c92c2219d3b8cc1b3cd6c7e810b5c5496a0cf6d6aa9457cb93640a3ae32d5"), looks := true }, kinds := [], alts := [], laidByText := true, laidKinds := [.data, .data, .data, .data, .data, .pinned], laidTests := true, laidLooks := .later }
def FnExactUrlBaseUptoCardSaid : Prop := Claim7.holds Tryz.pinned (.plain (OpenSpec.upto fnExactUrlBaseSpec)) fnExactUrlBaseUptoCard

/-- THE SECOND FORM's CARD OF 'laws.FnExactRefer'. -/
def fnExactReferUptoCard : Claim7 := { stood := { row := fnExactReferUptoRow, standIns := [], harness := (true, "e51c92c2219d3b8cc1b3cd6c7e810b5c5496a0cf6d6aa9457cb93640a3ae32d5"), looks := true }, kinds := [], alts := [], laidByText := true, laidKinds := [.data, .data, .data, .data, .data, .pinned], laidTests := true, laidLooks := .later }
def FnExactReferUptoCardSaid : Prop := Claim7.holds Tryz.pinned (.plain (OpenSpec.upto fnExactReferSpec)) fnExactReferUptoCard

/-- THE SECOND FORM's CARD OF 'laws.FnExactNetOk'. -/
def fnExactNetOkUptoCard : Claim7 := { stood := { row := fnExactNetOkUptoRow, standIns := [], harness := (true, "e51c92c2219d3b8cc1b3cd6c7e810b5c5496a0cf6d6aa9457cb93640a3ae32d5"), looks := true }, kinds := [], alts := [], laidByText := true, laidKinds := [.data, .data, .data, .data, .data, .pinned], laidTests := true, laidLooks := .later }
def FnExactNetOkUptoCardSaid : Prop := Claim7.holds Tryz.pinned (.plain (OpenSpec.upto fnExactNetOkSpec)) fnExactNetOkUptoCard

/-- THE SECOND FORM's CARD OF 'laws.FnExactNetAt'. -/
def fnExactNetAtUptoCard : Claim7 := { stood := { row := fnExactNetAtUptoRow, standIns := [], harness := (true, "e51c92c2219d3b8cc1b3cd6c7e810b5c5496a0cf6d6aa9457cb93640a3ae32d5"), looks := true }, kinds := [], alts := [], laidByText := true, laidKinds := [.data, .data, .data, .data, .data, .pinned], laidTests := true, laidLooks := .later }
def FnExactNetAtUptoCardSaid : Prop := Claim7.holds Tryz.pinned (.plain (OpenSpec.upto fnExactNetAtSpec)) fnExactNetAtUptoCard

/-- THE SECOND FORM's CARD OF 'laws.FnExactSureUrl'. -/
def fnExactSureUrlUptoCard : Claim7 := { stood := { row := fnExactSureUrlUptoRow, standIns := [], harness := (true, "e51c92c2219d3b8cc1b3cd6c7e810b5c5496a0cf6d6aa9457cb93640a3ae32d5"), looks := true }, kinds := [], alts := [], laidByText := true, laidKinds := [.data, .data, .data, .data, .data, .pinned], laidTests := true, laidLooks := .later }
def FnExactSureUrlUptoCardSaid : Prop := Claim7.holds Tryz.pinned (.plain (OpenSpec.upto fnExactSureUrlSpec)) fnExactSureUrlUptoCard

/-- THE SECOND FORM's CARD OF 'laws.FnExactHistNear'. -/
def fnExactHistNearUptoCard : Claim7 := { stood := { row := fnExactHistNearUptoRow, standIns := [], harness := (true, "e51c92c2219d3b8cc1b3cd6c7e810b5c5496a0cf6d6aa9457cb93640a3ae32d5"), looks := true }, kinds := [], alts := [], laidByText := true, laidKinds := [.data, .data, .data, .data, .data, .pinned], laidTests := true, laidLooks := .later }
def FnExactHistNearUptoCardSaid : Prop := Claim7.holds Tryz.pinned (.plain (OpenSpec.upto fnExactHistNearSpec)) fnExactHistNearUptoCard
end Rows
end Go.Proofs.YtkpkfidlkmjkeaaGreatDoor
