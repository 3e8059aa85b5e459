/- FnExactUrlLess: the card's closed facts. -/
import Derived.Test.YtkpkfidlkmjkeaaGreatDoorRows
import Derived.Test.YtkpkfidlkmjkeaaGreatDoorCards
import Derived.Test.YtkpkfidlkmjkeaaGreatDoorChecked
import Derived.SevenTiedAt
import Derived.KernelRfl
namespace Go.Proofs.YtkpkfidlkmjkeaaGreatDoor.fnExactUrlLess
open Go Go.Proofs
theorem cw : Rows.fnExactUrlLessRow.wfByText (OpenSpec.ofChange Rows.fnExactUrlLessSpec) = true := by kernel_rfl
theorem cm : Tryz.prog.mainIs = some (true, ("e51c92c2219d3b8cc1b3cd6c7e810b5c5496a0cf6d6aa9457cb93640a3ae32d5" : String).toList) := by kernel_rfl
theorem ck : true = Tryz.prog.looks [] := by kernel_rfl
theorem cg : false = Rows.fnExactUrlLessRow.goesBy Tryz.prog := by kernel_rfl
theorem cp : ([26, 26].all fun u => !Tryz.prog.wantsStandIn u) = true := by kernel_rfl
end Go.Proofs.YtkpkfidlkmjkeaaGreatDoor.fnExactUrlLess
