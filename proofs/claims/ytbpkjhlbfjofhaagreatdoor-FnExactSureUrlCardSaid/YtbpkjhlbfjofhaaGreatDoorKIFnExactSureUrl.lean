/- FnExactSureUrl: the card's closed facts. -/
import Derived.Test.YtbpkjhlbfjofhaaGreatDoorRows
import Derived.Test.YtbpkjhlbfjofhaaGreatDoorCards
import Derived.Test.YtbpkjhlbfjofhaaGreatDoorChecked
import Derived.SevenTiedAt
import Derived.KernelRfl
namespace Go.Proofs.YtbpkjhlbfjofhaaGreatDoor.fnExactSureUrl
open Go Go.Proofs
theorem cw : Rows.fnExactSureUrlRow.wfByText (OpenSpec.ofChange Rows.fnExactSureUrlSpec) = true := by kernel_rfl
theorem cm : Tryz.prog.mainIs = some (true, ("6f9a782c42d11fcc5abc9da748f872bb44dba15f10382d68d6b9bcf32e33ba03" : String).toList) := by kernel_rfl
theorem ck : false = Tryz.prog.looks [] := by kernel_rfl
theorem cg : false = Rows.fnExactSureUrlRow.goesBy Tryz.prog := by kernel_rfl
theorem cp : ([57, 42].all fun u => !Tryz.prog.wantsStandIn u) = true := by kernel_rfl
end Go.Proofs.YtbpkjhlbfjofhaaGreatDoor.fnExactSureUrl
