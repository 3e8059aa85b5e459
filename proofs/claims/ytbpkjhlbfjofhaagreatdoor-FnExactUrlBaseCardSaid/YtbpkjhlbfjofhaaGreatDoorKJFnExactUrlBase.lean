/- FnExactUrlBase: the row's closed facts. -/
import Derived.Test.YtbpkjhlbfjofhaaGreatDoorRows
import Derived.Test.YtbpkjhlbfjofhaaGreatDoorChecked
import Derived.JoinedCond
import Derived.KernelRfl
namespace Go.Proofs.YtbpkjhlbfjofhaaGreatDoor.fnExactUrlBase
open Go Go.Proofs
theorem j_a1 : (Rows.fnExactUrlBaseRow.wf (OpenSpec.ofChange (OpenSpec.ofChange Rows.fnExactUrlBaseSpec).bare)) = true := by kernel_rfl
theorem j_a2 : (laidOutB Tryz.prog) = true := by kernel_rfl
theorem j_a3 : (mapsRowed Tryz.prog) = true := by kernel_rfl
theorem j_a4 : (Tryz.f4.params.all (Tryz.prog.readableRec ·)) = true := by kernel_rfl
theorem j_a5 : (namedTie Tryz.prog Rows.fnExactUrlBaseRow.named (OpenSpec.ofChange Rows.fnExactUrlBaseSpec).bare.vars) = true := by kernel_rfl
theorem j_a6 : ((Rows.fnExactUrlBaseRow.stops == [])) = true := by kernel_rfl
theorem j_a7 : ((Tryz.prog.stops == [])) = true := by kernel_rfl
theorem j_a8 : ((Rows.fnExactUrlBaseRow.knobs == [])) = true := by kernel_rfl
theorem j_a9 : ((Tryz.prog.stopKnobs == [])) = true := by kernel_rfl
theorem j_b1 : ((Rows.fnExactUrlBaseRow.inPlace == Tryz.prog.inPlace 4)) = true := by kernel_rfl
theorem j_b2 : ((Rows.fnExactUrlBaseRow.unfollowed == Tryz.prog.unfollowed 4)) = true := by kernel_rfl
theorem j_b3 : ((Rows.fnExactUrlBaseRow.recurses == Tryz.prog.recurses 4)) = true := by kernel_rfl
theorem j_b4 : ((Rows.fnExactUrlBaseRow.named == Tryz.prog.varsNamed 4)) = true := by kernel_rfl
theorem j_c1 : ((Rows.fnExactUrlBaseRow.maps == (Tryz.f4.params.toList ++ (OpenSpec.ofChange Rows.fnExactUrlBaseSpec).bare.plain.varTypes Tryz.prog).any (Tryz.prog.mapsRec ·))) = true := by kernel_rfl
theorem j_c2 : ((Rows.fnExactUrlBaseRow.ifaces == (Tryz.f4.params.toList ++ (OpenSpec.ofChange Rows.fnExactUrlBaseSpec).bare.plain.varTypes Tryz.prog).any (Tryz.prog.ifacesRec ·))) = true := by kernel_rfl
theorem j_c3 : ((Rows.fnExactUrlBaseRow.mapsOut == Tryz.prog.mapsAmong Tryz.f4.resultTypes.toList)) = true := by kernel_rfl
theorem j_c4 : ((Rows.fnExactUrlBaseRow.loops == (Tryz.f4.params.toList ++ (OpenSpec.ofChange Rows.fnExactUrlBaseSpec).bare.plain.varTypes Tryz.prog).any (Tryz.prog.loopsFrom ·))) = true := by kernel_rfl
theorem j_c5 : ((Rows.fnExactUrlBaseRow.wideKeys == (Tryz.f4.params.toList ++ (OpenSpec.ofChange Rows.fnExactUrlBaseSpec).bare.plain.varTypes Tryz.prog ++ Tryz.f4.resultTypes.toList).any (Tryz.prog.wideKeysFrom ·))) = true := by kernel_rfl
theorem j_d1 : ((OpenSpec.ofChange Rows.fnExactUrlBaseSpec).bare.vars.all (Tryz.prog.varReadable ·)) = true := by kernel_rfl
theorem j_d2 : (Tryz.f4.resultTypes.all (fun t => Tryz.prog.readableRec t && decide (t < Tryz.prog.types.size))) = true := by kernel_rfl
theorem j_d3 : ((Rows.fnExactUrlBaseRow.ifacesOut == Tryz.f4.resultTypes.toList.any (Tryz.prog.ifacesRec ·))) = true := by kernel_rfl
theorem j_d4 : ((Rows.fnExactUrlBaseRow.loopsOut == Tryz.f4.resultTypes.toList.any (Tryz.prog.loopsFrom ·))) = true := by kernel_rfl
theorem j_d5 : ((Rows.fnExactUrlBaseRow.plainKeys == Tryz.prog.plainKeys)) = true := by kernel_rfl
theorem j_d6 : (Rows.fnExactUrlBaseRow.shortTexts.isNone) = true := by kernel_rfl
theorem j_d7 : (Tryz.prog.stopsHeard) = true := by kernel_rfl
theorem j_d8 : (Tryz.prog.mayEnter) = true := by kernel_rfl
theorem j_d9 : ((Rows.fnExactUrlBaseRow.lifted == Tryz.prog.liftsFinal)) = true := by kernel_rfl
theorem j_e1 : ((Tryz.prog.make == some Rows.fnExactUrlBaseRow.make)) = true := by kernel_rfl
theorem j_e2 : ((Rows.fnExactUrlBaseRow.kinds == (if Rows.fnExactUrlBaseRow.domain.isEmpty then [] else Tryz.f4.params.toList.map fun t => match Tryz.prog.underlying t with | some (.int k) => some k | _ => none))) = true := by kernel_rfl
theorem j_e3 : ((Rows.fnExactUrlBaseRow.pinned == Rows.fnExactUrlBaseRow.pinnedBy)) = true := by kernel_rfl
theorem j_e4 : ((Rows.fnExactUrlBaseRow.veiled == (Tryz.f4.params.toList ++ (OpenSpec.ofChange Rows.fnExactUrlBaseSpec).bare.plain.varTypes Tryz.prog ++ Tryz.f4.resultTypes.toList).any (Tryz.prog.veiledRec ·))) = true := by kernel_rfl
theorem j_e5 : (Rows.fnExactUrlBaseRow.veiledFits Tryz.prog Tryz.f4.params.toList (Tryz.f4.params.toList ++ (OpenSpec.ofChange Rows.fnExactUrlBaseSpec).bare.plain.varTypes Tryz.prog ++ Tryz.f4.resultTypes.toList)) = true := by kernel_rfl
theorem and2 {a b : Bool} (h : a = true) (k : b = true) : (a && b) = true := by rw [h, k]; rfl
set_option maxRecDepth 100000 in
theorem closed : joinedFacts Tryz.prog 4 Tryz.f4 (OpenSpec.ofChange Rows.fnExactUrlBaseSpec).bare Rows.fnExactUrlBaseRow = true := by
  unfold joinedFacts
  exact and2 (and2 (and2 (and2 (and2 (and2 (and2 (and2 (and2 (and2 (and2 (and2 (and2 (and2 (and2 (and2 (and2 (and2 (and2 (and2 (and2 (and2 (and2 (and2 (and2 (and2 (and2 (and2 (and2 (and2 (and2 (j_a1) j_a2) j_a3) j_a4) j_a5) j_a6) j_a7) j_a8) j_a9) j_b1) j_b2) j_b3) j_b4) j_c1) j_c2) j_c3) j_c4) j_c5) j_d1) j_d2) j_d3) j_d4) j_d5) j_d6) j_d7) j_d8) j_d9) j_e1) j_e2) j_e3) j_e4) j_e5
end Go.Proofs.YtbpkjhlbfjofhaaGreatDoor.fnExactUrlBase
