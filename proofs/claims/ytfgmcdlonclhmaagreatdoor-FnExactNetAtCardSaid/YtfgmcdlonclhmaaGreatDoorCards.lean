/-
  DERIVED. GIVEN WITH THE SEED: THE CARDS: each row of YtfgmcdlonclhmaaGreatDoorRows.lean that lists a variable, with what it lists TIED to the program's text (the seventh form; the later family's looks); each row that meets fmt, with fmt's text TOLD by the authors' own Lean function (tested against real Go, not proved from fmt's source: count such statements apart). THE CARD IS WHAT COUNTS. Prove the row's statement (the work); the ties are given (YtfgmcdlonclhmaaGreatDoorTie.lean); close each card by the builder's one call (the guide's Derived/Test/ToyasCard.lean, 'card_holds'). Laid BY PROGRAM, IN A SANDBOX (cutbox-door.mjs). By AI agents, Wed Nov 11 2026. No macro, syntax, notation, axiom, sorry.
-/
import Derived.Test.YtfgmcdlonclhmaaGreatDoorRows
import GoSem.ClaimSeven
namespace Go.Proofs.YtfgmcdlonclhmaaGreatDoor
namespace Rows

/-- THE TIED CARD OF 'laws.FnExactNetOk'. -/
def fnExactNetOkCard : Claim7 := { stood := { row := fnExactNetOkRow, standIns := [], harness := (true, "eeec740e3d5b60789f4559e4146798c385529505dcf7524f11c58c54e9470b38"), looks := false }, kinds := [], alts := [], laidByText := true, laidKinds := [.data, .data, .data, .data, .data, .pinned], laidTests := true, laidLooks := .later }
def FnExactNetOkCardSaid : Prop := Claim7.holds Tryz.pinned (.plain (OpenSpec.ofChange fnExactNetOkSpec)) fnExactNetOkCard

/-- THE TIED CARD OF 'laws.FnExactNetAt'. -/
def fnExactNetAtCard : Claim7 := { stood := { row := fnExactNetAtRow, standIns := [], harness := (true, "eeec740e3d5b60789f4559e4146798c385529505dcf7524f11c58c54e9470b38"), looks := false }, kinds := [], alts := [], laidByText := true, laidKinds := [.data, .data, .data, .data, .data, .pinned], laidTests := true, laidLooks := .later }
def FnExactNetAtCardSaid : Prop := Claim7.holds Tryz.pinned (.plain (OpenSpec.ofChange fnExactNetAtSpec)) fnExactNetAtCard

/-- THE SECOND FORM's CARD OF 'laws.FnExactNetOk'. -/
def fnExactNetOkUptoCard : Claim7 := { stood := { row := fnExactNetOkUptoRow, standIns := [], harness := (true, "eeec740e3d5b60789f4559e4146798c385529505dcf7524f11c58c54e9470b38"), looks := false }, kinds := [], alts := [], laidByText := true, laidKinds := [.data, .data, .data, .data, .data, .pinned], laidTests := true, laidLooks := .later }
def FnExactNetOkUptoCardSaid : Prop := Claim7.holds Tryz.pinned (.plain (OpenSpec.upto fnExactNetOkSpec)) fnExactNetOkUptoCard

/-- THE SECOND FORM's CARD OF 'laws.FnExactNetAt'. -/
def fnExactNetAtUptoCard : Claim7 := { stood := { row := fnExactNetAtUptoRow, standIns := [], harness := (true, "eeec740e3d5b60789f4559e4146798c385529505dcf7524f11c58c54e9470b38"), looks := false }, kinds := [], alts := [], laidByText := true, laidKinds := [.data, .data, .data, .data, .data, .pinned], laidTests := true, laidLooks := .later }
def FnExactNetAtUptoCardSaid : Prop := Claim7.holds Tryz.pinned (.plain (OpenSpec.upto fnExactNetAtSpec)) fnExactNetAtUptoCard
end Rows
end Go.Proofs.YtfgmcdlonclhmaaGreatDoor
