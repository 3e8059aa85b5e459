/- FnExactRefer: the card's closed facts. -/
import Derived.Test.YtkpkfidlkmjkeaaGreatDoorRows
import Derived.Test.YtkpkfidlkmjkeaaGreatDoorCards
import Derived.Test.YtkpkfidlkmjkeaaGreatDoorChecked
import Derived.SevenTiedAt
import Derived.KernelRfl
namespace Go.Proofs.YtkpkfidlkmjkeaaGreatDoor.fnExactRefer
open Go Go.Proofs
theorem cw : Rows.fnExactReferRow.wfByText (OpenSpec.ofChange Rows.fnExactReferSpec) = true := by kernel_rfl
theorem cm : Tryz.prog.mainIs = some (true, ("e51c92c2219d3b8cc1b3cd6c7e810b5c5496a0cf6d6aa9457cb93640a3ae32d5" : String).toList) := by kernel_rfl
theorem ck : true = Tryz.prog.looks [] := by kernel_rfl
theorem cg : false = Rows.fnExactReferRow.goesBy Tryz.prog := by kernel_rfl
theorem cp : ([26, 26].all fun u => !Tryz.prog.wantsStandIn u) = true := by kernel_rfl
end Go.Proofs.YtkpkfidlkmjkeaaGreatDoor.fnExactRefer
