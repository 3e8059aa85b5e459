/- FnExactNetAt: the row's closed facts. -/
import Derived.Test.YtfgmcdlonclhmaaGreatDoorRows
import Derived.Test.YtfgmcdlonclhmaaGreatDoorChecked
import Derived.JoinedCond
import Derived.KernelRfl
namespace Go.Proofs.YtfgmcdlonclhmaaGreatDoor.fnExactNetAt
open Go Go.Proofs
theorem j_a1 : (Rows.fnExactNetAtRow.wf (OpenSpec.ofChange (OpenSpec.ofChange Rows.fnExactNetAtSpec).bare)) = true := by kernel_rfl
theorem j_a2 : (laidOutB Tryz.prog) = true := by kernel_rfl
theorem j_a3 : (mapsRowed Tryz.prog) = true := by kernel_rfl
theorem j_a4 : (Tryz.f4.params.all (Tryz.prog.readableRec ·)) = true := by kernel_rfl
theorem j_a5 : (namedTie Tryz.prog Rows.fnExactNetAtRow.named (OpenSpec.ofChange Rows.fnExactNetAtSpec).bare.vars) = true := by kernel_rfl
theorem j_a6 : ((Rows.fnExactNetAtRow.stops == [])) = true := by kernel_rfl
theorem j_a7 : ((Tryz.prog.stops == [])) = true := by kernel_rfl
theorem j_a8 : ((Rows.fnExactNetAtRow.knobs == [])) = true := by kernel_rfl
theorem j_a9 : ((Tryz.prog.stopKnobs == [])) = true := by kernel_rfl
theorem j_b1 : ((Rows.fnExactNetAtRow.inPlace == Tryz.prog.inPlace 4)) = true := by kernel_rfl
theorem j_b2 : ((Rows.fnExactNetAtRow.unfollowed == Tryz.prog.unfollowed 4)) = true := by kernel_rfl
theorem j_b3 : ((Rows.fnExactNetAtRow.recurses == Tryz.prog.recurses 4)) = true := by kernel_rfl
theorem j_b4 : ((Rows.fnExactNetAtRow.named == Tryz.prog.varsNamed 4)) = true := by kernel_rfl
theorem j_c1 : ((Rows.fnExactNetAtRow.maps == (Tryz.f4.params.toList ++ (OpenSpec.ofChange Rows.fnExactNetAtSpec).bare.plain.varTypes Tryz.prog).any (Tryz.prog.mapsRec ·))) = true := by kernel_rfl
theorem j_c2 : ((Rows.fnExactNetAtRow.ifaces == (Tryz.f4.params.toList ++ (OpenSpec.ofChange Rows.fnExactNetAtSpec).bare.plain.varTypes Tryz.prog).any (Tryz.prog.ifacesRec ·))) = true := by kernel_rfl
theorem j_c3 : ((Rows.fnExactNetAtRow.mapsOut == Tryz.prog.mapsAmong Tryz.f4.resultTypes.toList)) = true := by kernel_rfl
theorem j_c4 : ((Rows.fnExactNetAtRow.loops == (Tryz.f4.params.toList ++ (OpenSpec.ofChange Rows.fnExactNetAtSpec).bare.plain.varTypes Tryz.prog).any (Tryz.prog.loopsFrom ·))) = true := by kernel_rfl
theorem j_c5 : ((Rows.fnExactNetAtRow.wideKeys == (Tryz.f4.params.toList ++ (OpenSpec.ofChange Rows.fnExactNetAtSpec).bare.plain.varTypes Tryz.prog ++ Tryz.f4.resultTypes.toList).any (Tryz.prog.wideKeysFrom ·))) = true := by kernel_rfl
theorem j_d1 : ((OpenSpec.ofChange Rows.fnExactNetAtSpec).bare.vars.all (Tryz.prog.varReadable ·)) = true := by kernel_rfl
theorem j_d2 : (Tryz.f4.resultTypes.all (fun t => Tryz.prog.readableRec t && decide (t < Tryz.prog.types.size))) = true := by kernel_rfl
theorem j_d3 : ((Rows.fnExactNetAtRow.ifacesOut == Tryz.f4.resultTypes.toList.any (Tryz.prog.ifacesRec ·))) = true := by kernel_rfl
theorem j_d4 : ((Rows.fnExactNetAtRow.loopsOut == Tryz.f4.resultTypes.toList.any (Tryz.prog.loopsFrom ·))) = true := by kernel_rfl
theorem j_d5 : ((Rows.fnExactNetAtRow.plainKeys == Tryz.prog.plainKeys)) = true := by kernel_rfl
theorem j_d6 : (Rows.fnExactNetAtRow.shortTexts.isNone) = true := by kernel_rfl
theorem j_d7 : (Tryz.prog.stopsHeard) = true := by kernel_rfl
theorem j_d8 : (Tryz.prog.mayEnter) = true := by kernel_rfl
theorem j_d9 : ((Rows.fnExactNetAtRow.lifted == Tryz.prog.liftsFinal)) = true := by kernel_rfl
theorem j_e1 : ((Tryz.prog.make == some Rows.fnExactNetAtRow.make)) = true := by kernel_rfl
theorem j_e2 : ((Rows.fnExactNetAtRow.kinds == (if Rows.fnExactNetAtRow.domain.isEmpty then [] else Tryz.f4.params.toList.map fun t => match Tryz.prog.underlying t with | some (.int k) => some k | _ => none))) = true := by kernel_rfl
theorem j_e3 : ((Rows.fnExactNetAtRow.pinned == Rows.fnExactNetAtRow.pinnedBy)) = true := by kernel_rfl
theorem j_e4 : ((Rows.fnExactNetAtRow.veiled == (Tryz.f4.params.toList ++ (OpenSpec.ofChange Rows.fnExactNetAtSpec).bare.plain.varTypes Tryz.prog ++ Tryz.f4.resultTypes.toList).any (Tryz.prog.veiledRec ·))) = true := by kernel_rfl
theorem j_e5 : (Rows.fnExactNetAtRow.veiledFits Tryz.prog Tryz.f4.params.toList (Tryz.f4.params.toList ++ (OpenSpec.ofChange Rows.fnExactNetAtSpec).bare.plain.varTypes Tryz.prog ++ Tryz.f4.resultTypes.toList)) = true := by kernel_rfl
theorem and2 {a b : Bool} (h : a = true) (k : b = true) : (a && b) = true := by rw [h, k]; rfl
set_option maxRecDepth 100000 in
theorem closed : joinedFacts Tryz.prog 4 Tryz.f4 (OpenSpec.ofChange Rows.fnExactNetAtSpec).bare Rows.fnExactNetAtRow = true := by
  unfold joinedFacts
  exact and2 (and2 (and2 (and2 (and2 (and2 (and2 (and2 (and2 (and2 (and2 (and2 (and2 (and2 (and2 (and2 (and2 (and2 (and2 (and2 (and2 (and2 (and2 (and2 (and2 (and2 (and2 (and2 (and2 (and2 (and2 (j_a1) j_a2) j_a3) j_a4) j_a5) j_a6) j_a7) j_a8) j_a9) j_b1) j_b2) j_b3) j_b4) j_c1) j_c2) j_c3) j_c4) j_c5) j_d1) j_d2) j_d3) j_d4) j_d5) j_d6) j_d7) j_d8) j_d9) j_e1) j_e2) j_e3) j_e4) j_e5
end Go.Proofs.YtfgmcdlonclhmaaGreatDoor.fnExactNetAt
