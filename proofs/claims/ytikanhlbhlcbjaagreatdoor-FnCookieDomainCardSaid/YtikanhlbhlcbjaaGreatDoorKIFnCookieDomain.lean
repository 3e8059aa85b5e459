/- FnCookieDomain: the card's closed facts. -/
import Derived.Test.YtikanhlbhlcbjaaGreatDoorRows
import Derived.Test.YtikanhlbhlcbjaaGreatDoorCards
import Derived.Test.YtikanhlbhlcbjaaGreatDoorChecked
import Derived.SevenTiedAt
import Derived.KernelRfl
namespace Go.Proofs.YtikanhlbhlcbjaaGreatDoor.fnCookieDomain
open Go Go.Proofs
theorem cw : Rows.fnCookieDomainRow.wfByText (OpenSpec.ofChange Rows.fnCookieDomainSpec) = true := by kernel_rfl
theorem cm : Tryz.prog.mainIs = some (true, ("3ef5a09ab754bc38ca864fbacdfd319faa441a91f47d2ad2af919e05df01677f" : String).toList) := by kernel_rfl
theorem ck : true = Tryz.prog.looks [] := by kernel_rfl
theorem cg : false = Rows.fnCookieDomainRow.goesBy Tryz.prog := by kernel_rfl
theorem cp : ([45].all fun u => !Tryz.prog.wantsStandIn u) = true := by kernel_rfl
end Go.Proofs.YtikanhlbhlcbjaaGreatDoor.fnCookieDomain
