/- FnJarPut: the row's closed facts. -/
import Derived.Test.YtpfnljkjjnnliaaGreatDoorRows
import Derived.Test.YtpfnljkjjnnliaaGreatDoorChecked
import Derived.JoinedCond
import Derived.KernelRfl
namespace Go.Proofs.YtpfnljkjjnnliaaGreatDoor.fnJarPut
open Go Go.Proofs
theorem j_a1 : (Rows.fnJarPutRow.wf (OpenSpec.ofChange (OpenSpec.ofChange Rows.fnJarPutSpec).bare)) = true := by kernel_rfl
theorem j_a2 : (laidOutB Tryz.prog) = true := by kernel_rfl
theorem j_a3 : (mapsRowed Tryz.prog) = true := by kernel_rfl
theorem j_a4 : (Tryz.f5.params.all (Tryz.prog.readableRec ·)) = true := by kernel_rfl
theorem j_a5 : (namedTie Tryz.prog Rows.fnJarPutRow.named (OpenSpec.ofChange Rows.fnJarPutSpec).bare.vars) = true := by kernel_rfl
theorem j_a6 : ((Rows.fnJarPutRow.stops == [])) = true := by kernel_rfl
theorem j_a7 : ((Tryz.prog.stops == [])) = true := by kernel_rfl
theorem j_a8 : ((Rows.fnJarPutRow.knobs == [])) = true := by kernel_rfl
theorem j_a9 : ((Tryz.prog.stopKnobs == [])) = true := by kernel_rfl
theorem j_b1 : ((Rows.fnJarPutRow.inPlace == Tryz.prog.inPlace 5)) = true := by kernel_rfl
theorem j_b2 : ((Rows.fnJarPutRow.unfollowed == Tryz.prog.unfollowed 5)) = true := by kernel_rfl
theorem j_b3 : ((Rows.fnJarPutRow.recurses == Tryz.prog.recurses 5)) = true := by kernel_rfl
theorem j_b4 : ((Rows.fnJarPutRow.named == Tryz.prog.varsNamed 5)) = true := by kernel_rfl
theorem j_c1 : ((Rows.fnJarPutRow.maps == (Tryz.f5.params.toList ++ (OpenSpec.ofChange Rows.fnJarPutSpec).bare.plain.varTypes Tryz.prog).any (Tryz.prog.mapsRec ·))) = true := by kernel_rfl
theorem j_c2 : ((Rows.fnJarPutRow.ifaces == (Tryz.f5.params.toList ++ (OpenSpec.ofChange Rows.fnJarPutSpec).bare.plain.varTypes Tryz.prog).any (Tryz.prog.ifacesRec ·))) = true := by kernel_rfl
theorem j_c3 : ((Rows.fnJarPutRow.mapsOut == Tryz.prog.mapsAmong Tryz.f5.resultTypes.toList)) = true := by kernel_rfl
theorem j_c4 : ((Rows.fnJarPutRow.loops == (Tryz.f5.params.toList ++ (OpenSpec.ofChange Rows.fnJarPutSpec).bare.plain.varTypes Tryz.prog).any (Tryz.prog.loopsFrom ·))) = true := by kernel_rfl
theorem j_c5 : ((Rows.fnJarPutRow.wideKeys == (Tryz.f5.params.toList ++ (OpenSpec.ofChange Rows.fnJarPutSpec).bare.plain.varTypes Tryz.prog ++ Tryz.f5.resultTypes.toList).any (Tryz.prog.wideKeysFrom ·))) = true := by kernel_rfl
theorem j_d1 : ((OpenSpec.ofChange Rows.fnJarPutSpec).bare.vars.all (Tryz.prog.varReadable ·)) = true := by kernel_rfl
theorem j_d2 : (Tryz.f5.resultTypes.all (fun t => Tryz.prog.readableRec t && decide (t < Tryz.prog.types.size))) = true := by kernel_rfl
theorem j_d3 : ((Rows.fnJarPutRow.ifacesOut == Tryz.f5.resultTypes.toList.any (Tryz.prog.ifacesRec ·))) = true := by kernel_rfl
theorem j_d4 : ((Rows.fnJarPutRow.loopsOut == Tryz.f5.resultTypes.toList.any (Tryz.prog.loopsFrom ·))) = true := by kernel_rfl
theorem j_d5 : ((Rows.fnJarPutRow.plainKeys == Tryz.prog.plainKeys)) = true := by kernel_rfl
theorem j_d6 : (Rows.fnJarPutRow.shortTexts.isNone) = true := by kernel_rfl
theorem j_d7 : (Tryz.prog.stopsHeard) = true := by kernel_rfl
theorem j_d8 : (Tryz.prog.mayEnter) = true := by kernel_rfl
theorem j_d9 : ((Rows.fnJarPutRow.lifted == Tryz.prog.liftsFinal)) = true := by kernel_rfl
theorem j_e1 : ((Tryz.prog.make == some Rows.fnJarPutRow.make)) = true := by kernel_rfl
theorem j_e2 : ((Rows.fnJarPutRow.kinds == (if Rows.fnJarPutRow.domain.isEmpty then [] else Tryz.f5.params.toList.map fun t => match Tryz.prog.underlying t with | some (.int k) => some k | _ => none))) = true := by kernel_rfl
theorem j_e3 : ((Rows.fnJarPutRow.pinned == Rows.fnJarPutRow.pinnedBy)) = true := by kernel_rfl
theorem j_e4 : ((Rows.fnJarPutRow.veiled == (Tryz.f5.params.toList ++ (OpenSpec.ofChange Rows.fnJarPutSpec).bare.plain.varTypes Tryz.prog ++ Tryz.f5.resultTypes.toList).any (Tryz.prog.veiledRec ·))) = true := by kernel_rfl
theorem j_e5 : (Rows.fnJarPutRow.veiledFits Tryz.prog Tryz.f5.params.toList (Tryz.f5.params.toList ++ (OpenSpec.ofChange Rows.fnJarPutSpec).bare.plain.varTypes Tryz.prog ++ Tryz.f5.resultTypes.toList)) = true := by kernel_rfl
theorem and2 {a b : Bool} (h : a = true) (k : b = true) : (a && b) = true := by rw [h, k]; rfl
set_option maxRecDepth 100000 in
theorem closed : joinedFacts Tryz.prog 5 Tryz.f5 (OpenSpec.ofChange Rows.fnJarPutSpec).bare Rows.fnJarPutRow = true := by
  unfold joinedFacts
  exact and2 (and2 (and2 (and2 (and2 (and2 (and2 (and2 (and2 (and2 (and2 (and2 (and2 (and2 (and2 (and2 (and2 (and2 (and2 (and2 (and2 (and2 (and2 (and2 (and2 (and2 (and2 (and2 (and2 (and2 (and2 (j_a1) j_a2) j_a3) j_a4) j_a5) j_a6) j_a7) j_a8) j_a9) j_b1) j_b2) j_b3) j_b4) j_c1) j_c2) j_c3) j_c4) j_c5) j_d1) j_d2) j_d3) j_d4) j_d5) j_d6) j_d7) j_d8) j_d9) j_e1) j_e2) j_e3) j_e4) j_e5
end Go.Proofs.YtpfnljkjjnnliaaGreatDoor.fnJarPut
