/-
  DERIVED. GIVEN WITH THE SEED: THE CARDS: each row of YtledackmlmokeaaGreatDoorRows.lean that lists a variable, with what it lists TIED to the program's text (the seventh form; the later family's looks); each row that meets fmt, with fmt's text TOLD by the authors' own Lean function (tested against real Go, not proved from fmt's source: count such statements apart). THE CARD IS WHAT COUNTS. Prove the row's statement (the work); the ties are given (YtledackmlmokeaaGreatDoorTie.lean); close each card by the builder's one call (the guide's Derived/Test/ToyasCard.lean, 'card_holds'). Laid BY PROGRAM, IN A SANDBOX (cutbox-door.mjs). By AI agents, Wed Nov 11 2026. No macro, syntax, notation, axiom, sorry.
-/
import Derived.Test.YtledackmlmokeaaGreatDoorRows
import GoSem.ClaimSeven
namespace Go.Proofs.YtledackmlmokeaaGreatDoor
namespace Rows

/-- THE TIED CARD OF 'laws.FnUrlBase'. -/
def fnUrlBaseCard : Claim7 := { stood := { row := fnUrlBaseRow, standIns := [], harness := (true, "46a761bb4dda21314e492059d24d448f0b116d6d147cc8f4a9c0a242516bdd4f"), looks := false }, kinds := [], alts := [], laidByText := true, laidKinds := [.data, .data, .data, .data, .data, .pinned], laidTests := true, laidLooks := .later }
def FnUrlBaseCardSaid : Prop := Claim7.holds Tryz.pinned (.plain (OpenSpec.ofChange fnUrlBaseSpec)) fnUrlBaseCard

/-- THE TIED CARD OF 'laws.FnUrlSame'. -/
def fnUrlSameCard : Claim7 := { stood := { row := fnUrlSameRow, standIns := [], harness := (true, "46a761bb4dda21314e492059d24d448f0b116d6d147cc8f4a9c0a242516bdd4f"), looks := false }, kinds := [], alts := [], laidByText := true, laidKinds := [.data, .data, .data, .data, .data, .pinned], laidTests := true, laidLooks := .later }
def FnUrlSameCardSaid : Prop := Claim7.holds Tryz.pinned (.plain (OpenSpec.ofChange fnUrlSameSpec)) fnUrlSameCard

/-- THE TIED CARD OF 'laws.FnPathOf'. -/
def fnPathOfCard : Claim7 := { stood := { row := fnPathOfRow, standIns := [], harness := (true, "46a761bb4dda21314e492059d24d448f0b116d6d147cc8f4a9c0a242516bdd4f"), looks := false }, kinds := [], alts := [], laidByText := true, laidKinds := [.data, .data, .data, .data, .data, .pinned], laidTests := true, laidLooks := .later }
def FnPathOfCardSaid : Prop := Claim7.holds Tryz.pinned (.plain (OpenSpec.ofChange fnPathOfSpec)) fnPathOfCard

/-- THE TIED CARD OF 'laws.FnJoinFull'. -/
def fnJoinFullCard : Claim7 := { stood := { row := fnJoinFullRow, standIns := [], harness := (true, "46a761bb4dda21314e492059d24d448f0b116d6d147cc8f4a9c0a242516bdd4f"), looks := false }, kinds := [], alts := [], laidByText := true, laidKinds := [.data, .data, .data, .data, .data, .pinned], laidTests := true, laidLooks := .later }
def FnJoinFullCardSaid : Prop := Claim7.holds Tryz.pinned (.plain (OpenSpec.ofChange fnJoinFullSpec)) fnJoinFullCard

/-- THE TIED CARD OF 'laws.FnRefer'. -/
def fnReferCard : Claim7 := { stood := { row := fnReferRow, standIns := [], harness := (true, "46a761bb4dda21314e492059d24d448f0b116d6d147cc8f4a9c0a242516bdd4f"), looks := false }, kinds := [], alts := [], laidByText := true, laidKinds := [.data, .data, .data, .data, .data, .pinned], laidTests := true, laidLooks := .later }
def FnReferCardSaid : Prop := Claim7.holds Tryz.pinned (.plain (OpenSpec.ofChange fnReferSpec)) fnReferCard

/-- THE TIED CARD OF 'laws.FnJoinEnd'. -/
def fnJoinEndCard : Claim7 := { stood := { row := fnJoinEndRow, standIns := [], harness := (true, "46a761bb4dda21314e492059d24d448f0b116d6d147cc8f4a9c0a242516bdd4f"), looks := false }, kinds := [], alts := [], laidByText := true, laidKinds := [.data, .data, .data, .data, .data, .pinned], laidTests := true, laidLooks := .later }
def FnJoinEndCardSaid : Prop := Claim7.holds Tryz.pinned (.plain (OpenSpec.ofChange fnJoinEndSpec)) fnJoinEndCard

/-- THE TIED CARD OF 'laws.FnJoinHost'. -/
def fnJoinHostCard : Claim7 := { stood := { row := fnJoinHostRow, standIns := [], harness := (true, "46a761bb4dda21314e492059d24d448f0b116d6d147cc8f4a9c0a242516bdd4f"), looks := false }, kinds := [], alts := [], laidByText := true, laidKinds := [.data, .data, .data, .data, .data, .pinned], laidTests := true, laidLooks := .later }
def FnJoinHostCardSaid : Prop := Claim7.holds Tryz.pinned (.plain (OpenSpec.ofChange fnJoinHostSpec)) fnJoinHostCard

/-- THE TIED CARD OF 'laws.FnJoinUp'. -/
def fnJoinUpCard : Claim7 := { stood := { row := fnJoinUpRow, standIns := [], harness := (true, "46a761bb4dda21314e492059d24d448f0b116d6d147cc8f4a9c0a242516bdd4f"), looks := false }, kinds := [], alts := [], laidByText := true, laidKinds := [.data, .data, .data, .data, .data, .pinned], laidTests := true, laidLooks := .later }
def FnJoinUpCardSaid : Prop := Claim7.holds Tryz.pinned (.plain (OpenSpec.ofChange fnJoinUpSpec)) fnJoinUpCard

/-- THE TIED CARD OF 'laws.FnUrlLess'. -/
def fnUrlLessCard : Claim7 := { stood := { row := fnUrlLessRow, standIns := [], harness := (true, "46a761bb4dda21314e492059d24d448f0b116d6d147cc8f4a9c0a242516bdd4f"), looks := false }, kinds := [], alts := [], laidByText := true, laidKinds := [.data, .data, .data, .data, .data, .pinned], laidTests := true, laidLooks := .later }
def FnUrlLessCardSaid : Prop := Claim7.holds Tryz.pinned (.plain (OpenSpec.ofChange fnUrlLessSpec)) fnUrlLessCard

/-- THE TIED CARD OF 'laws.FnJoinPath'. -/
def fnJoinPathCard : Claim7 := { stood := { row := fnJoinPathRow, standIns := [], harness := (true, "46a761bb4dda21314e492059d24d448f0b116d6d147cc8f4a9c0a242516bdd4f"), looks := false }, kinds := [], alts := [], laidByText := true, laidKinds := [.data, .data, .data, .data, .data, .pinned], laidTests := true, laidLooks := .later }
def FnJoinPathCardSaid : Prop := Claim7.holds Tryz.pinned (.plain (OpenSpec.ofChange fnJoinPathSpec)) fnJoinPathCard

/-- THE TIED CARD OF 'laws.FnJoinRoot'. -/
def fnJoinRootCard : Claim7 := { stood := { row := fnJoinRootRow, standIns := [], harness := (true, "46a761bb4dda21314e492059d24d448f0b116d6d147cc8f4a9c0a242516bdd4f"), looks := false }, kinds := [], alts := [], laidByText := true, laidKinds := [.data, .data, .data, .data, .data, .pinned], laidTests := true, laidLooks := .later }
def FnJoinRootCardSaid : Prop := Claim7.holds Tryz.pinned (.plain (OpenSpec.ofChange fnJoinRootSpec)) fnJoinRootCard

/-- THE TIED CARD OF 'laws.FnJoinSelf'. -/
def fnJoinSelfCard : Claim7 := { stood := { row := fnJoinSelfRow, standIns := [], harness := (true, "46a761bb4dda21314e492059d24d448f0b116d6d147cc8f4a9c0a242516bdd4f"), looks := false }, kinds := [], alts := [], laidByText := true, laidKinds := [.data, .data, .data, .data, .data, .pinned], laidTests := true, laidLooks := .later }
def FnJoinSelfCardSaid : Prop := Claim7.holds Tryz.pinned (.plain (OpenSpec.ofChange fnJoinSelfSpec)) fnJoinSelfCard

/-- THE TIED CARD OF 'laws.FnJoinParts'. -/
def fnJoinPartsCard : Claim7 := { stood := { row := fnJoinPartsRow, standIns := [], harness := (true, "46a761bb4dda21314e492059d24d448f0b116d6d147cc8f4a9c0a242516bdd4f"), looks := false }, kinds := [], alts := [], laidByText := true, laidKinds := [.data, .data, .data, .data, .data, .pinned], laidTests := true, laidLooks := .later }
def FnJoinPartsCardSaid : Prop := Claim7.holds Tryz.pinned (.plain (OpenSpec.ofChange fnJoinPartsSpec)) fnJoinPartsCard

/-- THE TIED CARD OF 'laws.FnJoinTwice'. -/
def fnJoinTwiceCard : Claim7 := { stood := { row := fnJoinTwiceRow, standIns := [], harness := (true, "46a761bb4dda21314e492059d24d448f0b116d6d147cc8f4a9c0a242516bdd4f"), looks := false }, kinds := [], alts := [], laidByText := true, laidKinds := [.data, .data, .data, .data, .data, .pinned], laidTests := true, laidLooks := .later }
def FnJoinTwiceCardSaid : Prop := Claim7.holds Tryz.pinned (.plain (OpenSpec.ofChange fnJoinTwiceSpec)) fnJoinTwiceCard

/-- THE SECOND FORM's CARD OF 'laws.FnUrlBase'. -/
def fnUrlBaseUptoCard : Claim7 := { stood := { row := fnUrlBaseUptoRow, standIns := [], harness := (true, "46a761bb4dda21314e492059d24d448f0b116d6d147cc8f4a9c0a242516bdd4f"), looks := false }, kinds := [], alts := [], laidByText := true, laidKinds := [.data, .data, .data, .data, .data, .pinned], laidTests := true, laidLooks := .later }
def FnUrlBaseUptoCardSaid : Prop := Claim7.holds Tryz.pinned (.plain (OpenSpec.upto fnUrlBaseSpec)) fnUrlBaseUptoCard

/-- THE SECOND FORM's CARD OF 'laws.FnUrlSame'. -/
def fnUrlSameUptoCard : Claim7 := { stood := { row := fnUrlSameUptoRow, standIns := [], harness := (true, "46a761bb4dda21314e492059d24d448f0b116d6d147cc8f4a9c0a242516bdd4f"), looks := false }, kinds := [], alts := [], laidByText := true, laidKinds := [.data, .data, .data, .data, .data, .pinned], laidTests := true, laidLooks := .later }
def FnUrlSameUptoCardSaid : Prop := Claim7.holds Tryz.pinned (.plain (OpenSpec.upto fnUrlSameSpec)) fnUrlSameUptoCard

/-- THE SECOND FORM's CARD OF 'laws.FnPathOf'. -/
def fnPathOfUptoCard : Claim7 := { stood := { row := fnPathOfUptoRow, standIns := [], harness := (true, "46a761bb4dda21314e492059d24d448f0b116d6d147cc8f4a9c0a242516bdd4f"), looks := false }, kinds := [], alts := [], laidByText := true, laidKinds := [.data, .data, .data, .data, .data, .pinned], laidTests := true, laidLooks := .later }
def FnPathOfUptoCardSaid : Prop := Claim7.holds Tryz.pinned (.plain (OpenSpec.upto fnPathOfSpec)) fnPathOfUptoCard

/-- THE SECOND FORM's CARD OF 'laws.FnJoinFull'. -/
def fnJoinFullUptoCard : Claim7 := { stood := { row := fnJoinFullUptoRow, standIns := [], harness := (true, "46a761bb4dda21314e492059d24d448f0b116d6d147cc8f4a9c0a242516bdd4f"), looks := false }, kinds := [], alts := [], laidByText := true, laidKinds := [.data, .data, .data, .data, .data, .pinned], laidTests := true, laidLooks := .later }
def FnJoinFullUptoCardSaid : Prop := Claim7.holds Tryz.pinned (.plain (OpenSpec.upto fnJoinFullSpec)) fnJoinFullUptoCard

/-- THE SECOND FORM's CARD OF 'laws.FnRefer'. -/
def fnReferUptoCard : Claim7 := { stood := { row := fnReferUptoRow, standIns := [], harness := (true, "46a761bb4dda21314e492059d24d448f0b116d6d147cc8f4a9c0a242516bdd4f"), looks := false }, kinds := [], alts := [], laidByText := true, laidKinds := [.data, .data, .data, .data, .data, .pinned], laidTests := true, laidLooks := .later }
def FnReferUptoCardSaid : Prop := Claim7.holds Tryz.pinned (.plain (OpenSpec.upto fnReferSpec)) fnReferUptoCard

/-- THE SECOND FORM's CARD OF 'laws.FnJoinEnd'. -/
def fnJoinEndUptoCard : Claim7 := { stood := { row := fnJoinEndUptoRow, standIns := [], harness := (true, "46a761bb4dda21314e492059d24d448f0b116d6d147cc8f4a9c0a242516bdd4f"), looks := false }, kinds := [], alts := [], laidByText := true, laidKinds := [.data, .data, .data, .data, .data, .pinned], laidTests := true, laidLooks := .later }
def FnJoinEndUptoCardSaid : Prop := Claim7.holds Tryz.pinned (.plain (OpenSpec.upto fnJoinEndSpec)) fnJoinEndUptoCard

/-- THE SECOND FORM's CARD OF 'laws.FnJoinHost'. -/
def fnJoinHostUptoCard : Claim7 := { stood := { row := fnJoinHostUptoRow, standIns := [], harness := (true, "46a761bb4dda21314e492059d24d448f0b116d6d147cc8f4a9c0a242516bdd4f"), looks := false }, kinds := [], alts := [], laidByText := true, laidKinds := [.data, .data, .data, .data, .data, .pinned], laidTests := true, laidLooks := .later }
def FnJoinHostUptoCardSaid : Prop := Claim7.holds Tryz.pinned (.plain (OpenSpec.upto fnJoinHostSpec)) fnJoinHostUptoCard

/-- THE SECOND FORM's CARD OF 'laws.FnJoinUp'. -/
def fnJoinUpUptoCard : Claim7 := { stood := { row := fnJoinUpUptoRow, standIns := [], harness := (true, "46a761bb4dda21314e492059d24d448f0b116d6d147cc8f4a9c0a242516bdd4f"), looks := false }, kinds := [], alts := [], laidByText := true, laidKinds := [.data, .data, .data, .data, .data, .pinned], laidTests := true, laidLooks := .later }
def FnJoinUpUptoCardSaid : Prop := Claim7.holds Tryz.pinned (.plain (OpenSpec.upto fnJoinUpSpec)) fnJoinUpUptoCard

/-- THE SECOND FORM's CARD OF 'laws.FnUrlLess'. -/
def fnUrlLessUptoCard : Claim7 := { stood := { row := fnUrlLessUptoRow, standIns := [], harness := (true, "46a761bb4dda21314e492059d24d448f0b116d6d147cc8f4a9c0a242516bdd4f"), looks := false }, kinds := [], alts := [], laidByText := true, laidKinds := [.data, .data, .data, .data, .data, .pinned], laidTests := true, laidLooks := .later }
def FnUrlLessUptoCardSaid : Prop := Claim7.holds Tryz.pinned (.plain (OpenSpec.upto fnUrlLessSpec)) fnUrlLessUptoCard

/-- THE SECOND FORM's CARD OF 'laws.FnJoinPath'. -/
def fnJoinPathUptoCard : Claim7 := { stood := { row := fnJoinPathUptoRow, standIns := [], harness := (true, "46a761bb4dda21314e492059d24d448f0b116d6d147cc8f4a9c0a242516bdd4f"), looks := false }, kinds := [], alts := [], laidByText := true, laidKinds := [.data, .data, .data, .data, .data, .pinned], laidTests := true, laidLooks := .later }
def FnJoinPathUptoCardSaid : Prop := Claim7.holds Tryz.pinned (.plain (OpenSpec.upto fnJoinPathSpec)) fnJoinPathUptoCard

/-- THE SECOND FORM's CARD OF 'laws.FnJoinRoot'. -/
def fnJoinRootUptoCard : Claim7 := { stood := { row := fnJoinRootUptoRow, standIns := [], harness := (true, "46a761bb4dda21314e492059d24d448f0b116d6d147cc8f4a9c0a242516bdd4f"), looks := false }, kinds := [], alts := [], laidByText := true, laidKinds := [.data, .data, .data, .data, .data, .pinned], laidTests := true, laidLooks := .later }
def FnJoinRootUptoCardSaid : Prop := Claim7.holds Tryz.pinned (.plain (OpenSpec.upto fnJoinRootSpec)) fnJoinRootUptoCard

/-- THE SECOND FORM's CARD OF 'laws.FnJoinSelf'. -/
def fnJoinSelfUptoCard : Claim7 := { stood := { row := fnJoinSelfUptoRow, standIns := [], harness := (true, "46a761bb4dda21314e492059d24d448f0b116d6d147cc8f4a9c0a242516bdd4f"), looks := false }, kinds := [], alts := [], laidByText := true, laidKinds := [.data, .data, .data, .data, .data, .pinned], laidTests := true, laidLooks := .later }
def FnJoinSelfUptoCardSaid : Prop := Claim7.holds Tryz.pinned (.plain (OpenSpec.upto fnJoinSelfSpec)) fnJoinSelfUptoCard

/-- THE SECOND FORM's CARD OF 'laws.FnJoinParts'. -/
def fnJoinPartsUptoCard : Claim7 := { stood := { row := fnJoinPartsUptoRow, standIns := [], harness := (true, "46a761bb4dda21314e492059d24d448f0b116d6d147cc8f4a9c0a242516bdd4f"), looks := false }, kinds := [], alts := [], laidByText := true, laidKinds := [.data, .data, .data, .data, .data, .pinned], laidTests := true, laidLooks := .later }
def FnJoinPartsUptoCardSaid : Prop := Claim7.holds Tryz.pinned (.plain (OpenSpec.upto fnJoinPartsSpec)) fnJoinPartsUptoCard

/-- THE SECOND FORM's CARD OF 'laws.FnJoinTwice'. -/
def fnJoinTwiceUptoCard : Claim7 := { stood := { row := fnJoinTwiceUptoRow, standIns := [], harness := (true, "46a761bb4dda21314e492059d24d448f0b116d6d147cc8f4a9c0a242516bdd4f"), looks := false }, kinds := [], alts := [], laidByText := true, laidKinds := [.data, .data, .data, .data, .data, .pinned], laidTests := true, laidLooks := .later }
def FnJoinTwiceUptoCardSaid : Prop := Claim7.holds Tryz.pinned (.plain (OpenSpec.upto fnJoinTwiceSpec)) fnJoinTwiceUptoCard
end Rows
end Go.Proofs.YtledackmlmokeaaGreatDoor
