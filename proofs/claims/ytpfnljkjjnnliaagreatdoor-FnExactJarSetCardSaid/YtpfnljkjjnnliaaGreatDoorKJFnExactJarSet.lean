/- FnExactJarSet: the row's closed facts. -/
import Derived.Test.YtpfnljkjjnnliaaGreatDoorRows
import Derived.Test.YtpfnljkjjnnliaaGreatDoorChecked
import Derived.JoinedCond
import Derived.KernelRfl
namespace Go.Proofs.YtpfnljkjjnnliaaGreatDoor.fnExactJarSet
open Go Go.Proofs
theorem j_a1 : (Rows.fnExactJarSetRow.wf (OpenSpec.ofChange (OpenSpec.ofChange Rows.fnExactJarSetSpec).bare)) = true := by kernel_rfl
theorem j_a2 : (laidOutB Tryz.prog) = true := by kernel_rfl
theorem j_a3 : (mapsRowed Tryz.prog) = true := by kernel_rfl
theorem j_a4 : (Tryz.f6.params.all (Tryz.prog.readableRec ·)) = true := by kernel_rfl
theorem j_a5 : (namedTie Tryz.prog Rows.fnExactJarSetRow.named (OpenSpec.ofChange Rows.fnExactJarSetSpec).bare.vars) = true := by kernel_rfl
theorem j_a6 : ((Rows.fnExactJarSetRow.stops == [])) = true := by kernel_rfl
theorem j_a7 : ((Tryz.prog.stops == [])) = true := by kernel_rfl
theorem j_a8 : ((Rows.fnExactJarSetRow.knobs == [])) = true := by kernel_rfl
theorem j_a9 : ((Tryz.prog.stopKnobs == [])) = true := by kernel_rfl
theorem j_b1 : ((Rows.fnExactJarSetRow.inPlace == Tryz.prog.inPlace 6)) = true := by kernel_rfl
theorem j_b2 : ((Rows.fnExactJarSetRow.unfollowed == Tryz.prog.unfollowed 6)) = true := by kernel_rfl
theorem j_b3 : ((Rows.fnExactJarSetRow.recurses == Tryz.prog.recurses 6)) = true := by kernel_rfl
theorem j_b4 : ((Rows.fnExactJarSetRow.named == Tryz.prog.varsNamed 6)) = true := by kernel_rfl
theorem j_c1 : ((Rows.fnExactJarSetRow.maps == (Tryz.f6.params.toList ++ (OpenSpec.ofChange Rows.fnExactJarSetSpec).bare.plain.varTypes Tryz.prog).any (Tryz.prog.mapsRec ·))) = true := by kernel_rfl
theorem j_c2 : ((Rows.fnExactJarSetRow.ifaces == (Tryz.f6.params.toList ++ (OpenSpec.ofChange Rows.fnExactJarSetSpec).bare.plain.varTypes Tryz.prog).any (Tryz.prog.ifacesRec ·))) = true := by kernel_rfl
theorem j_c3 : ((Rows.fnExactJarSetRow.mapsOut == Tryz.prog.mapsAmong Tryz.f6.resultTypes.toList)) = true := by kernel_rfl
theorem j_c4 : ((Rows.fnExactJarSetRow.loops == (Tryz.f6.params.toList ++ (OpenSpec.ofChange Rows.fnExactJarSetSpec).bare.plain.varTypes Tryz.prog).any (Tryz.prog.loopsFrom ·))) = true := by kernel_rfl
theorem j_c5 : ((Rows.fnExactJarSetRow.wideKeys == (Tryz.f6.params.toList ++ (OpenSpec.ofChange Rows.fnExactJarSetSpec).bare.plain.varTypes Tryz.prog ++ Tryz.f6.resultTypes.toList).any (Tryz.prog.wideKeysFrom ·))) = true := by kernel_rfl
theorem j_d1 : ((OpenSpec.ofChange Rows.fnExactJarSetSpec).bare.vars.all (Tryz.prog.varReadable ·)) = true := by kernel_rfl
theorem j_d2 : (Tryz.f6.resultTypes.all (fun t => Tryz.prog.readableRec t && decide (t < Tryz.prog.types.size))) = true := by kernel_rfl
theorem j_d3 : ((Rows.fnExactJarSetRow.ifacesOut == Tryz.f6.resultTypes.toList.any (Tryz.prog.ifacesRec ·))) = true := by kernel_rfl
theorem j_d4 : ((Rows.fnExactJarSetRow.loopsOut == Tryz.f6.resultTypes.toList.any (Tryz.prog.loopsFrom ·))) = true := by kernel_rfl
theorem j_d5 : ((Rows.fnExactJarSetRow.plainKeys == Tryz.prog.plainKeys)) = true := by kernel_rfl
theorem j_d6 : (Rows.fnExactJarSetRow.shortTexts.isNone) = true := by kernel_rfl
theorem j_d7 : (Tryz.prog.stopsHeard) = true := by kernel_rfl
theorem j_d8 : (Tryz.prog.mayEnter) = true := by kernel_rfl
theorem j_d9 : ((Rows.fnExactJarSetRow.lifted == Tryz.prog.liftsFinal)) = true := by kernel_rfl
theorem j_e1 : ((Tryz.prog.make == some Rows.fnExactJarSetRow.make)) = true := by kernel_rfl
theorem j_e2 : ((Rows.fnExactJarSetRow.kinds == (if Rows.fnExactJarSetRow.domain.isEmpty then [] else Tryz.f6.params.toList.map fun t => match Tryz.prog.underlying t with | some (.int k) => some k | _ => none))) = true := by kernel_rfl
theorem j_e3 : ((Rows.fnExactJarSetRow.pinned == Rows.fnExactJarSetRow.pinnedBy)) = true := by kernel_rfl
theorem j_e4 : ((Rows.fnExactJarSetRow.veiled == (Tryz.f6.params.toList ++ (OpenSpec.ofChange Rows.fnExactJarSetSpec).bare.plain.varTypes Tryz.prog ++ Tryz.f6.resultTypes.toList).any (Tryz.prog.veiledRec ·))) = true := by kernel_rfl
theorem j_e5 : (Rows.fnExactJarSetRow.veiledFits Tryz.prog Tryz.f6.params.toList (Tryz.f6.params.toList ++ (OpenSpec.ofChange Rows.fnExactJarSetSpec).bare.plain.varTypes Tryz.prog ++ Tryz.f6.resultTypes.toList)) = true := by kernel_rfl
theorem and2 {a b : Bool} (h : a = true) (k : b = true) : (a && b) = true := by rw [h, k]; rfl
set_option maxRecDepth 100000 in
theorem closed : joinedFacts Tryz.prog 6 Tryz.f6 (OpenSpec.ofChange Rows.fnExactJarSetSpec).bare Rows.fnExactJarSetRow = true := by
  unfold joinedFacts
  exact and2 (and2 (and2 (and2 (and2 (and2 (and2 (and2 (and2 (and2 (and2 (and2 (and2 (and2 (and2 (and2 (and2 (and2 (and2 (and2 (and2 (and2 (and2 (and2 (and2 (and2 (and2 (and2 (and2 (and2 (and2 (j_a1) j_a2) j_a3) j_a4) j_a5) j_a6) j_a7) j_a8) j_a9) j_b1) j_b2) j_b3) j_b4) j_c1) j_c2) j_c3) j_c4) j_c5) j_d1) j_d2) j_d3) j_d4) j_d5) j_d6) j_d7) j_d8) j_d9) j_e1) j_e2) j_e3) j_e4) j_e5
end Go.Proofs.YtpfnljkjjnnliaaGreatDoor.fnExactJarSet
