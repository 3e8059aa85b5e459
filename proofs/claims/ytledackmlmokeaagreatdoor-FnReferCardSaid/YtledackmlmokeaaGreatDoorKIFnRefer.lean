/- FnRefer: the card's closed facts. -/
import Derived.Test.YtledackmlmokeaaGreatDoorRows
import Derived.Test.YtledackmlmokeaaGreatDoorCards
import Derived.Test.YtledackmlmokeaaGreatDoorChecked
import Derived.SevenTiedAt
import Derived.KernelRfl
namespace Go.Proofs.YtledackmlmokeaaGreatDoor.fnRefer
open Go Go.Proofs
theorem cw : Rows.fnReferRow.wfByText (OpenSpec.ofChange Rows.fnReferSpec) = true := by kernel_rfl
theorem cm : Tryz.prog.mainIs = some (true, ("46a761bb4dda21314e492059d24d448f0b116d6d147cc8f4a9c0a242516bdd4f" : String).toList) := by kernel_rfl
theorem ck : false = Tryz.prog.looks [] := by kernel_rfl
theorem cg : false = Rows.fnReferRow.goesBy Tryz.prog := by kernel_rfl
theorem cp : ([22].all fun u => !Tryz.prog.wantsStandIn u) = true := by kernel_rfl
end Go.Proofs.YtledackmlmokeaaGreatDoor.fnRefer
