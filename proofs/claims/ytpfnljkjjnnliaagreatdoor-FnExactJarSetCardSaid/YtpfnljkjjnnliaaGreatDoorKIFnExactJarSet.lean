/- FnExactJarSet: the card's closed facts. -/
import Derived.Test.YtpfnljkjjnnliaaGreatDoorRows
import Derived.Test.YtpfnljkjjnnliaaGreatDoorCards
import Derived.Test.YtpfnljkjjnnliaaGreatDoorChecked
import Derived.SevenTiedAt
import Derived.KernelRfl
namespace Go.Proofs.YtpfnljkjjnnliaaGreatDoor.fnExactJarSet
open Go Go.Proofs
theorem cw : Rows.fnExactJarSetRow.wfByText (OpenSpec.ofChange Rows.fnExactJarSetSpec) = true := by kernel_rfl
theorem cm : Tryz.prog.mainIs = some (true, ("33a1b4e558697a2928ed0e538af9229ebed3996754099f3d5103e142249a1bd4" : String).toList) := by kernel_rfl
theorem ck : true = Tryz.prog.looks [] := by kernel_rfl
theorem cg : false = Rows.fnExactJarSetRow.goesBy Tryz.prog := by kernel_rfl
theorem cp : ([47, 50, 9, 3].all fun u => !Tryz.prog.wantsStandIn u) = true := by kernel_rfl
end Go.Proofs.YtpfnljkjjnnliaaGreatDoor.fnExactJarSet
