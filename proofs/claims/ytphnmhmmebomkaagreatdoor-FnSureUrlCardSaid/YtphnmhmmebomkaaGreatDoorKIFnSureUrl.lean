/- FnSureUrl: the card's closed facts. -/
import Derived.Test.YtphnmhmmebomkaaGreatDoorRows
import Derived.Test.YtphnmhmmebomkaaGreatDoorCards
import Derived.Test.YtphnmhmmebomkaaGreatDoorChecked
import Derived.SevenTiedAt
import Derived.KernelRfl
namespace Go.Proofs.YtphnmhmmebomkaaGreatDoor.fnSureUrl
open Go Go.Proofs
theorem cw : Rows.fnSureUrlRow.wfByText (OpenSpec.ofChange Rows.fnSureUrlSpec) = true := by kernel_rfl
theorem cm : Tryz.prog.mainIs = some (true, ("0c039a3cf54ee2e57a2a5b26c5d237c3aaf0831eb64bacc9177835f9ad77acf8" : String).toList) := by kernel_rfl
theorem ck : false = Tryz.prog.looks [] := by kernel_rfl
theorem cg : false = Rows.fnSureUrlRow.goesBy Tryz.prog := by kernel_rfl
theorem cp : ([22].all fun u => !Tryz.prog.wantsStandIn u) = true := by kernel_rfl
end Go.Proofs.YtphnmhmmebomkaaGreatDoor.fnSureUrl
