/- FnJarSet: the row's closed facts. -/
import Derived.Test.YtpfnljkjjnnliaaGreatDoorRows
import Derived.Test.YtpfnljkjjnnliaaGreatDoorChecked
import Derived.JoinedCond
import Derived.KernelRfl
namespace Go.Proofs.YtpfnljkjjnnliaaGreatDoor.fnJarSet
open Go Go.Proofs
theorem j_a1 : (Rows.fnJarSetRow.wf (OpenSpec.ofChange (OpenSpec.ofChange Rows.fnJarSetSpec).bare)) = true := by kernel_rfl
theorem j_a2 : (laidOutB Tryz.prog) = true := by kernel_rfl
theorem j_a3 : (mapsRowed Tryz.prog) = true := by kernel_rfl
theorem j_a4 : (Tryz.f4.params.all (Tryz.prog.readableRec ·)) = true := by kernel_rfl
theorem j_a5 : (namedTie Tryz.prog Rows.fnJarSetRow.named (OpenSpec.ofChange Rows.fnJarSetSpec).bare.vars) = true := by kernel_rfl
theorem j_a6 : ((Rows.fnJarSetRow.stops == [])) = true := by kernel_rfl
theorem j_a7 : ((Tryz.prog.stops == [])) = true := by kernel_rfl
theorem j_a8 : ((Rows.fnJarSetRow.knobs == [])) = true := by kernel_rfl
theorem j_a9 : ((Tryz.prog.stopKnobs == [])) = true := by kernel_rfl
theorem j_b1 : ((Rows.fnJarSetRow.inPlace == Tryz.prog.inPlace 4)) = true := by kernel_rfl
theorem j_b2 : ((Rows.fnJarSetRow.unfollowed == Tryz.prog.unfollowed 4)) = true := by kernel_rfl
theorem j_b3 : ((Rows.fnJarSetRow.recurses == Tryz.prog.recurses 4)) = true := by kernel_rfl
theorem j_b4 : ((Rows.fnJarSetRow.named == Tryz.prog.varsNamed 4)) = true := by kernel_rfl
theorem j_c1 : ((Rows.fnJarSetRow.maps == (Tryz.f4.params.toList ++ (OpenSpec.ofChange Rows.fnJarSetSpec).bare.plain.varTypes Tryz.prog).any (Tryz.prog.mapsRec ·))) = true := by kernel_rfl
theorem j_c2 : ((Rows.fnJarSetRow.ifaces == (Tryz.f4.params.toList ++ (OpenSpec.ofChange Rows.fnJarSetSpec).bare.plain.varTypes Tryz.prog).any (Tryz.prog.ifacesRec ·))) = true := by kernel_rfl
theorem j_c3 : ((Rows.fnJarSetRow.mapsOut == Tryz.prog.mapsAmong Tryz.f4.resultTypes.toList)) = true := by kernel_rfl
theorem j_c4 : ((Rows.fnJarSetRow.loops == (Tryz.f4.params.toList ++ (OpenSpec.ofChange Rows.fnJarSetSpec).bare.plain.varTypes Tryz.prog).any (Tryz.prog.loopsFrom ·))) = true := by kernel_rfl
theorem j_c5 : ((Rows.fnJarSetRow.wideKeys == (Tryz.f4.params.toList ++ (OpenSpec.ofChange Rows.fnJarSetSpec).bare.plain.varTypes Tryz.prog ++ Tryz.f4.resultTypes.toList).any (Tryz.prog.wideKeysFrom ·))) = true := by kernel_rfl
theorem j_d1 : ((OpenSpec.ofChange Rows.fnJarSetSpec).bare.vars.all (Tryz.prog.varReadable ·)) = true := by kernel_rfl
theorem j_d2 : (Tryz.f4.resultTypes.all (fun t => Tryz.prog.readableRec t && decide (t < Tryz.prog.types.size))) = true := by kernel_rfl
theorem j_d3 : ((Rows.fnJarSetRow.ifacesOut == Tryz.f4.resultTypes.toList.any (Tryz.prog.ifacesRec ·))) = true := by kernel_rfl
theorem j_d4 : ((Rows.fnJarSetRow.loopsOut == Tryz.f4.resultTypes.toList.any (Tryz.prog.loopsFrom ·))) = true := by kernel_rfl
theorem j_d5 : ((Rows.fnJarSetRow.plainKeys == Tryz.prog.plainKeys)) = true := by kernel_rfl
theorem j_d6 : (Rows.fnJarSetRow.shortTexts.isNone) = true := by kernel_rfl
theorem j_d7 : (Tryz.prog.stopsHeard) = true := by kernel_rfl
theorem j_d8 : (Tryz.prog.mayEnter) = true := by kernel_rfl
theorem j_d9 : ((Rows.fnJarSetRow.lifted == Tryz.prog.liftsFinal)) = true := by kernel_rfl
theorem j_e1 : ((Tryz.prog.make == some Rows.fnJarSetRow.make)) = true := by kernel_rfl
theorem j_e2 : ((Rows.fnJarSetRow.kinds == (if Rows.fnJarSetRow.domain.isEmpty then [] else Tryz.f4.params.toList.map fun t => match Tryz.prog.underlying t with | some (.int k) => some k | _ => none))) = true := by kernel_rfl
theorem j_e3 : ((Rows.fnJarSetRow.pinned == Rows.fnJarSetRow.pinnedBy)) = true := by kernel_rfl
theorem j_e4 : ((Rows.fnJarSetRow.veiled == (Tryz.f4.params.toList ++ (OpenSpec.ofChange Rows.fnJarSetSpec).bare.plain.varTypes Tryz.prog ++ Tryz.f4.resultTypes.toList).any (Tryz.prog.veiledRec ·))) = true := by kernel_rfl
theorem j_e5 : (Rows.fnJarSetRow.veiledFits Tryz.prog Tryz.f4.params.toList (Tryz.f4.params.toList ++ (OpenSpec.ofChange Rows.fnJarSetSpec).bare.plain.varTypes Tryz.prog ++ Tryz.f4.resultTypes.toList)) = true := by kernel_rfl
theorem and2 {a b : Bool} (h : a = true) (k : b = true) : (a && b) = true := by rw [h, k]; rfl
set_option maxRecDepth 100000 in
theorem closed : joinedFacts Tryz.prog 4 Tryz.f4 (OpenSpec.ofChange Rows.fnJarSetSpec).bare Rows.fnJarSetRow = true := by
  unfold joinedFacts
  exact and2 (and2 (and2 (and2 (and2 (and2 (and2 (and2 (and2 (and2 (and2 (and2 (and2 (and2 (and2 (and2 (and2 (and2 (and2 (and2 (and2 (and2 (and2 (and2 (and2 (and2 (and2 (and2 (and2 (and2 (and2 (j_a1) j_a2) j_a3) j_a4) j_a5) j_a6) j_a7) j_a8) j_a9) j_b1) j_b2) j_b3) j_b4) j_c1) j_c2) j_c3) j_c4) j_c5) j_d1) j_d2) j_d3) j_d4) j_d5) j_d6) j_d7) j_d8) j_d9) j_e1) j_e2) j_e3) j_e4) j_e5
end Go.Proofs.YtpfnljkjjnnliaaGreatDoor.fnJarSet
