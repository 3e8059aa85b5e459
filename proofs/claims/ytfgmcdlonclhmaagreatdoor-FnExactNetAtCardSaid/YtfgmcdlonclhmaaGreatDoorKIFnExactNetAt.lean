/- FnExactNetAt: the card's closed facts. -/
import Derived.Test.YtfgmcdlonclhmaaGreatDoorRows
import Derived.Test.YtfgmcdlonclhmaaGreatDoorCards
import Derived.Test.YtfgmcdlonclhmaaGreatDoorChecked
import Derived.SevenTiedAt
import Derived.KernelRfl
namespace Go.Proofs.YtfgmcdlonclhmaaGreatDoor.fnExactNetAt
open Go Go.Proofs
theorem cw : Rows.fnExactNetAtRow.wfByText (OpenSpec.ofChange Rows.fnExactNetAtSpec) = true := by kernel_rfl
theorem cm : Tryz.prog.mainIs = some (true, ("eeec740e3d5b60789f4559e4146798c385529505dcf7524f11c58c54e9470b38" : String).toList) := by kernel_rfl
theorem ck : false = Tryz.prog.looks [] := by kernel_rfl
theorem cg : false = Rows.fnExactNetAtRow.goesBy Tryz.prog := by kernel_rfl
theorem cp : ([22, 33].all fun u => !Tryz.prog.wantsStandIn u) = true := by kernel_rfl
end Go.Proofs.YtfgmcdlonclhmaaGreatDoor.fnExactNetAt
