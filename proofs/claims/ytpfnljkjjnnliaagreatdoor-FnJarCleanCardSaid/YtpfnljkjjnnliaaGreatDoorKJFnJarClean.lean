/- FnJarClean: the row's closed facts. -/
import Derived.Test.YtpfnljkjjnnliaaGreatDoorRows
import Derived.Test.YtpfnljkjjnnliaaGreatDoorChecked
import Derived.JoinedCond
import Derived.KernelRfl
namespace Go.Proofs.YtpfnljkjjnnliaaGreatDoor.fnJarClean
open Go Go.Proofs
theorem j_a1 : (Rows.fnJarCleanRow.wf (OpenSpec.ofChange (OpenSpec.ofChange Rows.fnJarCleanSpec).bare)) = true := by kernel_rfl
theorem j_a2 : (laidOutB Tryz.prog) = true := by kernel_rfl
theorem j_a3 : (mapsRowed Tryz.prog) = true := by kernel_rfl
theorem j_a4 : (Tryz.f3.params.all (Tryz.prog.readableRec ·)) = true := by kernel_rfl
theorem j_a5 : (namedTie Tryz.prog Rows.fnJarCleanRow.named (OpenSpec.ofChange Rows.fnJarCleanSpec).bare.vars) = true := by kernel_rfl
theorem j_a6 : ((Rows.fnJarCleanRow.stops == [])) = true := by kernel_rfl
theorem j_a7 : ((Tryz.prog.stops == [])) = true := by kernel_rfl
theorem j_a8 : ((Rows.fnJarCleanRow.knobs == [])) = true := by kernel_rfl
theorem j_a9 : ((Tryz.prog.stopKnobs == [])) = true := by kernel_rfl
theorem j_b1 : ((Rows.fnJarCleanRow.inPlace == Tryz.prog.inPlace 3)) = true := by kernel_rfl
theorem j_b2 : ((Rows.fnJarCleanRow.unfollowed == Tryz.prog.unfollowed 3)) = true := by kernel_rfl
theorem j_b3 : ((Rows.fnJarCleanRow.recurses == Tryz.prog.recurses 3)) = true := by kernel_rfl
theorem j_b4 : ((Rows.fnJarCleanRow.named == Tryz.prog.varsNamed 3)) = true := by kernel_rfl
theorem j_c1 : ((Rows.fnJarCleanRow.maps == (Tryz.f3.params.toList ++ (OpenSpec.ofChange Rows.fnJarCleanSpec).bare.plain.varTypes Tryz.prog).any (Tryz.prog.mapsRec ·))) = true := by kernel_rfl
theorem j_c2 : ((Rows.fnJarCleanRow.ifaces == (Tryz.f3.params.toList ++ (OpenSpec.ofChange Rows.fnJarCleanSpec).bare.plain.varTypes Tryz.prog).any (Tryz.prog.ifacesRec ·))) = true := by kernel_rfl
theorem j_c3 : ((Rows.fnJarCleanRow.mapsOut == Tryz.prog.mapsAmong Tryz.f3.resultTypes.toList)) = true := by kernel_rfl
theorem j_c4 : ((Rows.fnJarCleanRow.loops == (Tryz.f3.params.toList ++ (OpenSpec.ofChange Rows.fnJarCleanSpec).bare.plain.varTypes Tryz.prog).any (Tryz.prog.loopsFrom ·))) = true := by kernel_rfl
theorem j_c5 : ((Rows.fnJarCleanRow.wideKeys == (Tryz.f3.params.toList ++ (OpenSpec.ofChange Rows.fnJarCleanSpec).bare.plain.varTypes Tryz.prog ++ Tryz.f3.resultTypes.toList).any (Tryz.prog.wideKeysFrom ·))) = true := by kernel_rfl
theorem j_d1 : ((OpenSpec.ofChange Rows.fnJarCleanSpec).bare.vars.all (Tryz.prog.varReadable ·)) = true := by kernel_rfl
theorem j_d2 : (Tryz.f3.resultTypes.all (fun t => Tryz.prog.readableRec t && decide (t < Tryz.prog.types.size))) = true := by kernel_rfl
theorem j_d3 : ((Rows.fnJarCleanRow.ifacesOut == Tryz.f3.resultTypes.toList.any (Tryz.prog.ifacesRec ·))) = true := by kernel_rfl
theorem j_d4 : ((Rows.fnJarCleanRow.loopsOut == Tryz.f3.resultTypes.toList.any (Tryz.prog.loopsFrom ·))) = true := by kernel_rfl
theorem j_d5 : ((Rows.fnJarCleanRow.plainKeys == Tryz.prog.plainKeys)) = true := by kernel_rfl
theorem j_d6 : (Rows.fnJarCleanRow.shortTexts.isNone) = true := by kernel_rfl
theorem j_d7 : (Tryz.prog.stopsHeard) = true := by kernel_rfl
theorem j_d8 : (Tryz.prog.mayEnter) = true := by kernel_rfl
theorem j_d9 : ((Rows.fnJarCleanRow.lifted == Tryz.prog.liftsFinal)) = true := by kernel_rfl
theorem j_e1 : ((Tryz.prog.make == some Rows.fnJarCleanRow.make)) = true := by kernel_rfl
theorem j_e2 : ((Rows.fnJarCleanRow.kinds == (if Rows.fnJarCleanRow.domain.isEmpty then [] else Tryz.f3.params.toList.map fun t => match Tryz.prog.underlying t with | some (.int k) => some k | _ => none))) = true := by kernel_rfl
theorem j_e3 : ((Rows.fnJarCleanRow.pinned == Rows.fnJarCleanRow.pinnedBy)) = true := by kernel_rfl
theorem j_e4 : ((Rows.fnJarCleanRow.veiled == (Tryz.f3.params.toList ++ (OpenSpec.ofChange Rows.fnJarCleanSpec).bare.plain.varTypes Tryz.prog ++ Tryz.f3.resultTypes.toList).any (Tryz.prog.veiledRec ·))) = true := by kernel_rfl
theorem j_e5 : (Rows.fnJarCleanRow.veiledFits Tryz.prog Tryz.f3.params.toList (Tryz.f3.params.toList ++ (OpenSpec.ofChange Rows.fnJarCleanSpec).bare.plain.varTypes Tryz.prog ++ Tryz.f3.resultTypes.toList)) = true := by kernel_rfl
theorem and2 {a b : Bool} (h : a = true) (k : b = true) : (a && b) = true := by rw [h, k]; rfl
set_option maxRecDepth 100000 in
theorem closed : joinedFacts Tryz.prog 3 Tryz.f3 (OpenSpec.ofChange Rows.fnJarCleanSpec).bare Rows.fnJarCleanRow = true := by
  unfold joinedFacts
  exact and2 (and2 (and2 (and2 (and2 (and2 (and2 (and2 (and2 (and2 (and2 (and2 (and2 (and2 (and2 (and2 (and2 (and2 (and2 (and2 (and2 (and2 (and2 (and2 (and2 (and2 (and2 (and2 (and2 (and2 (and2 (j_a1) j_a2) j_a3) j_a4) j_a5) j_a6) j_a7) j_a8) j_a9) j_b1) j_b2) j_b3) j_b4) j_c1) j_c2) j_c3) j_c4) j_c5) j_d1) j_d2) j_d3) j_d4) j_d5) j_d6) j_d7) j_d8) j_d9) j_e1) j_e2) j_e3) j_e4) j_e5
end Go.Proofs.YtpfnljkjjnnliaaGreatDoor.fnJarClean
