/- FnExactJarSave: for every input the law returns true, and each argument reads behind the call as it read before. Conditions: none of its own (the row's laid variables are tied to the program's text by the given tie). -/
import Derived.MakeChecks
import Derived.Test.YtakobibclhdakaaDoorRows
import Derived.Test.YtakobibclhdakaaDoorCards
import Derived.Test.YtakobibclhdakaaDoorTie
import Derived.Test.YtakobibclhdakaaDoorPureFnExactJarSave
import Derived.Test.YtakobibclhdakaaDoorO
import Derived.Deep.DeepHandedRow
import Derived.Deep.DeepWitnessRowRef
import Derived.Lib.LaidIn
import Derived.ProofKit
import Derived.SizedLaws
import Derived.LaidMore
import Derived.PinnedBridge
import Derived.OpenShut
import Derived.ShutString
import Derived.ChangeOld
import Derived.Below
import Derived.Carry
import Derived.WalkKit
import Derived.SevenTiedAt
import Derived.HandedShaped
import Derived.Shelf.LaysM
namespace Go.Proofs.YtakobibclhdakaaDoor.fnExactJarSave
open Go Go.ChangeShapes Go.WideShapes Go.ChangeAt Go.RowKit Go.Lib Go.Proofs.YtakobibclhdakaaDoorW.PrintWords Go.Proofs.YtakobibclhdakaaDoorG Go.Proofs.YtakobibclhdakaaDoorO Go.Proofs.YtakobibclhdakaaDoor.PFnExactJarSave
open Go.ChangeMaps (open_string shut_string)
set_option linter.unusedVariables false
theorem own : ownKnob Tryd.prog.godebug = none := by kernel_rfl
theorem laidOut : laidOutB Tryd.prog = true := by kernel_rfl
theorem op_T36 {H : Type} {enc : TypeId × Value → H} (W : World) : ∀ fuel cs x, DataW.trod enc Tryd.prog W 0 (fun _ => true) true fuel 36 cs = some x → ∃ (a0 : ByteArray) (a1 : ByteArray) (a2 : ByteArray) (a3 : Bool) (a4 : ByteArray) (a5 : Int) (a6 : Bool) (a7 : Int) (a8 : Int), cs = [.string a0, .string a1, .string a2, .bool a3, .string a4, .int .i64 a5, .bool a6, .int .i64 a7, .int .i64 a8] ∧ GStr a0 ∧ GStr a1 ∧ GStr a2 ∧ (fun _ => True) a3 ∧ GStr a4 ∧ GInt a5 ∧ (fun _ => True) a6 ∧ GInt a7 ∧ GInt a8 := by
  intro fuel cs x h
  obtain ⟨xs, n, _, _, hlen, hxl, hf⟩ := DataW.trod_struct Tryd.underlying36 h
  replace hlen : cs.length = 9 := hlen.trans (by kernel_rfl)
  replace hxl : xs.length = 9 := hxl
  obtain ⟨z0, cs0, rfl, hlen0⟩ := pop hlen
  obtain ⟨z1, cs1, rfl, hlen1⟩ := pop hlen0
  obtain ⟨z2, cs2, rfl, hlen2⟩ := pop hlen1
  obtain ⟨z3, cs3, rfl, hlen3⟩ := pop hlen2
  obtain ⟨z4, cs4, rfl, hlen4⟩ := pop hlen3
  obtain ⟨z5, cs5, rfl, hlen5⟩ := pop hlen4
  obtain ⟨z6, cs6, rfl, hlen6⟩ := pop hlen5
  obtain ⟨z7, cs7, rfl, hlen7⟩ := pop hlen6
  obtain ⟨z8, cs8, rfl, hlen8⟩ := pop hlen7
  obtain rfl := List.eq_nil_of_length_eq_zero hlen8
  obtain ⟨y0, hy0⟩ := some_at hxl (i := 0) (by decide)
  have h0 := (hf 0 _ rfl).trans hy0
  replace h0 : DataW.trod enc Tryd.prog W 0 (fun _ => true) true n 9 (([z0, z1, z2, z3, z4, z5, z6, z7, z8].drop 0).take (Tryd.prog.cellsOf 9)) = some y0 := h0
  rw [show Tryd.prog.cellsOf 9 = 1 by kernel_rfl] at h0
  replace h0 : DataW.trod enc Tryd.prog W 0 (fun _ => true) true n 9 [z0] = some y0 := h0
  obtain ⟨y1, hy1⟩ := some_at hxl (i := 1) (by decide)
  have h1 := (hf 1 _ rfl).trans hy1
  replace h1 : DataW.trod enc Tryd.prog W 0 (fun _ => true) true n 9 (([z0, z1, z2, z3, z4, z5, z6, z7, z8].drop 1).take (Tryd.prog.cellsOf 9)) = some y1 := h1
  rw [show Tryd.prog.cellsOf 9 = 1 by kernel_rfl] at h1
  replace h1 : DataW.trod enc Tryd.prog W 0 (fun _ => true) true n 9 [z1] = some y1 := h1
  obtain ⟨y2, hy2⟩ := some_at hxl (i := 2) (by decide)
  have h2 := (hf 2 _ rfl).trans hy2
  replace h2 : DataW.trod enc Tryd.prog W 0 (fun _ => true) true n 9 (([z0, z1, z2, z3, z4, z5, z6, z7, z8].drop 2).take (Tryd.prog.cellsOf 9)) = some y2 := h2
  rw [show Tryd.prog.cellsOf 9 = 1 by kernel_rfl] at h2
  replace h2 : DataW.trod enc Tryd.prog W 0 (fun _ => true) true n 9 [z2] = some y2 := h2
  obtain ⟨y3, hy3⟩ := some_at hxl (i := 3) (by decide)
  have h3 := (hf 3 _ rfl).trans hy3
  replace h3 : DataW.trod enc Tryd.prog W 0 (fun _ => true) true n 4 (([z0, z1, z2, z3, z4, z5, z6, z7, z8].drop 3).take (Tryd.prog.cellsOf 4)) = some y3 := h3
  rw [show Tryd.prog.cellsOf 4 = 1 by kernel_rfl] at h3
  replace h3 : DataW.trod enc Tryd.prog W 0 (fun _ => true) true n 4 [z3] = some y3 := h3
  obtain ⟨y4, hy4⟩ := some_at hxl (i := 4) (by decide)
  have h4 := (hf 4 _ rfl).trans hy4
  replace h4 : DataW.trod enc Tryd.prog W 0 (fun _ => true) true n 9 (([z0, z1, z2, z3, z4, z5, z6, z7, z8].drop 4).take (Tryd.prog.cellsOf 9)) = some y4 := h4
  rw [show Tryd.prog.cellsOf 9 = 1 by kernel_rfl] at h4
  replace h4 : DataW.trod enc Tryd.prog W 0 (fun _ => true) true n 9 [z4] = some y4 := h4
  obtain ⟨y5, hy5⟩ := some_at hxl (i := 5) (by decide)
  have h5 := (hf 5 _ rfl).trans hy5
  replace h5 : DataW.trod enc Tryd.prog W 0 (fun _ => true) true n 3 (([z0, z1, z2, z3, z4, z5, z6, z7, z8].drop 5).take (Tryd.prog.cellsOf 3)) = some y5 := h5
  rw [show Tryd.prog.cellsOf 3 = 1 by kernel_rfl] at h5
  replace h5 : DataW.trod enc Tryd.prog W 0 (fun _ => true) true n 3 [z5] = some y5 := h5
  obtain ⟨y6, hy6⟩ := some_at hxl (i := 6) (by decide)
  have h6 := (hf 6 _ rfl).trans hy6
  replace h6 : DataW.trod enc Tryd.prog W 0 (fun _ => true) true n 4 (([z0, z1, z2, z3, z4, z5, z6, z7, z8].drop 6).take (Tryd.prog.cellsOf 4)) = some y6 := h6
  rw [show Tryd.prog.cellsOf 4 = 1 by kernel_rfl] at h6
  replace h6 : DataW.trod enc Tryd.prog W 0 (fun _ => true) true n 4 [z6] = some y6 := h6
  obtain ⟨y7, hy7⟩ := some_at hxl (i := 7) (by decide)
  have h7 := (hf 7 _ rfl).trans hy7
  replace h7 : DataW.trod enc Tryd.prog W 0 (fun _ => true) true n 3 (([z0, z1, z2, z3, z4, z5, z6, z7, z8].drop 7).take (Tryd.prog.cellsOf 3)) = some y7 := h7
  rw [show Tryd.prog.cellsOf 3 = 1 by kernel_rfl] at h7
  replace h7 : DataW.trod enc Tryd.prog W 0 (fun _ => true) true n 3 [z7] = some y7 := h7
  obtain ⟨y8, hy8⟩ := some_at hxl (i := 8) (by decide)
  have h8 := (hf 8 _ rfl).trans hy8
  replace h8 : DataW.trod enc Tryd.prog W 0 (fun _ => true) true n 3 (([z0, z1, z2, z3, z4, z5, z6, z7, z8].drop 8).take (Tryd.prog.cellsOf 3)) = some y8 := h8
  rw [show Tryd.prog.cellsOf 3 = 1 by kernel_rfl] at h8
  replace h8 : DataW.trod enc Tryd.prog W 0 (fun _ => true) true n 3 [z8] = some y8 := h8
  obtain ⟨a0, e0, g0⟩ := (opens_string Tryd.underlying9) _ _ _ h0
  obtain rfl := (List.cons.inj e0).1
  obtain ⟨a1, e1, g1⟩ := (opens_string Tryd.underlying9) _ _ _ h1
  obtain rfl := (List.cons.inj e1).1
  obtain ⟨a2, e2, g2⟩ := (opens_string Tryd.underlying9) _ _ _ h2
  obtain rfl := (List.cons.inj e2).1
  obtain ⟨a3, e3, g3⟩ := (opens_bool Tryd.underlying4) _ _ _ h3
  obtain rfl := (List.cons.inj e3).1
  obtain ⟨a4, e4, g4⟩ := (opens_string Tryd.underlying9) _ _ _ h4
  obtain rfl := (List.cons.inj e4).1
  obtain ⟨a5, e5, g5⟩ := (opens_int Tryd.underlying3) _ _ _ h5
  obtain rfl := (List.cons.inj e5).1
  obtain ⟨a6, e6, g6⟩ := (opens_bool Tryd.underlying4) _ _ _ h6
  obtain rfl := (List.cons.inj e6).1
  obtain ⟨a7, e7, g7⟩ := (opens_int Tryd.underlying3) _ _ _ h7
  obtain rfl := (List.cons.inj e7).1
  obtain ⟨a8, e8, g8⟩ := (opens_int Tryd.underlying3) _ _ _ h8
  obtain rfl := (List.cons.inj e8).1
  exact ⟨a0, a1, a2, a3, a4, a5, a6, a7, a8, rfl, g0, g1, g2, g3, g4, g5, g6, g7, g8⟩
def gT36 (x : S36) : Prop := GStr x.f0 ∧ GStr x.f1 ∧ GStr x.f2 ∧ (fun _ => True) x.f3 ∧ GStr x.f4 ∧ GInt x.f5 ∧ (fun _ => True) x.f6 ∧ GInt x.f7 ∧ GInt x.f8
theorem opens_T36 {H : Type} {enc : TypeId × Value → H} (W : World) : Opens enc Tryd.prog W 0 (fun _ => true) true 36 k36 gT36 := by
  intro fuel cs x h
  obtain ⟨a0, a1, a2, a3, a4, a5, a6, a7, a8, rfl, g0, g1, g2, g3, g4, g5, g6, g7, g8⟩ := op_T36 W _ _ _ h
  exact ⟨(⟨a0, a1, a2, a3, a4, a5, a6, a7, a8⟩ : S36), k36_mk W (⟨a0, a1, a2, a3, a4, a5, a6, a7, a8⟩ : S36), g0, g1, g2, g3, g4, g5, g6, g7, g8⟩
noncomputable def laidWorld (os : Os) : World :=
  let w0 := World.doorLaid Tryd.prog 34 os
  let put (h : Array Obj) (g : Nat) (cs : Array Value) : Array Obj := h.modify g fun
    | .cells _ t frozen => .cells cs t frozen
    | o => o
  { w0 with heap := put w0.heap 4 (Lib.firstTab.map fun z => Value.int .u8 z).toArray }
set_option maxRecDepth 100000 in
theorem laid_met (os : Os) (args : Array Value) : laidMetH Tryd.prog Rows.fnExactJarSaveRow.laid ((laidWorld os).forCall (fun _ _ => 0) ⟨#[], args, []⟩).memory :=
  laidMetH_of_parts3 (fuel := 8) (laidMet_of_run' 8 (by kernel_rfl) (by kernel_rfl)) (by kernel_rfl) (by kernel_rfl)
set_option maxRecDepth 100000 in
theorem witness_row (os : Os) {H : Type} (enc : TypeId × Value → H) :
    (OpenSpec.ofChange Rows.fnExactJarSaveSpec).preRow enc Tryd.prog Tryd.f8 Rows.fnExactJarSaveRow.domain false Rows.fnExactJarSaveRow.laid ((laidWorld os).forCall (fun _ _ => 0) ⟨#[], #[.slice none 0 0], []⟩).memory #[.slice none 0 0] := by
  have hw : (DataW.whole enc Tryd.prog ((laidWorld os).forCall (fun _ _ => 0) ⟨#[], #[.slice none 0 0], []⟩).memory Tryd.f8.params.toList (OpenSpec.ofChange Rows.fnExactJarSaveSpec).vars false (#[.slice none 0 0] : Array Value).toList 8).map (fun x => (x.1, x.2.1)) = some ([.nil], []) := by kernel_rfl
  obtain ⟨⟨x1, x2, x3⟩, hx, hx1⟩ := Option.map_eq_some_iff.1 hw
  simp only [Prod.mk.injEq] at hx1
  obtain ⟨rfl, rfl⟩ := hx1
  exact OpenSpec.preRow_of_cond 8 hx (by kernel_rfl) (fun k hk => by cases hk) (by kernel_rfl) (laid_met os _)
theorem tab_of_reads {P : Program} {W : World} {name : String} {k : IntKind} {zs : List Int} {g : Nat} {t e : TypeId} {n : Nat} (hg : P.globalNamed name = some g) (hty : (P.globals[g]?).map (·.type) = some t) (ht : P.underlying t = some (.array n e)) (he : P.underlying e = some (.int k)) (hce : P.cellsOf e = 1) (hct : P.cellsOf t = n)
    (h : Lib.VarReads P W name (Lib.tabData k zs)) : Lib.TabIs P W name k zs := by
  obtain ⟨g', t', cs, fuel, p, hg', ht', hvar, hd⟩ := h
  obtain rfl := Option.some.inj (hg.symm.trans hg')
  obtain rfl := Option.some.inj (hty.symm.trans ht')
  unfold Lib.TabIs
  rw [hvar, ← Lib.cells_of_tab ht he hce hct hd]
theorem gint_of {n : Int} (h : (Lit.int .i64 n).wf = true) : GInt n := by
  simp [Lit.wf] at h
  have e1 : IntKind.i64.min = -9223372036854775808 := by decide
  have e2 : IntKind.i64.max = 9223372036854775807 := by decide
  unfold GInt
  omega
theorem gw_of {W : World} (hL : laidMetH Tryd.prog Rows.fnExactJarSaveRow.laid W) (hSh : W.ShapedOpen Tryd.prog) : GW W :=
  ⟨Go.Proofs.cell_of_shapedOpen_int (zero := #[.int .i64 0]) (t := 3) hSh (of_decide_eq_true (by kernel_rfl)) (by kernel_rfl) rfl (by kernel_rfl) (by kernel_rfl) Tryd.underlying3, tab_of_reads (g := 1) (by kernel_rfl) (by kernel_rfl) Tryd.underlying111 Tryd.underlying103 (by kernel_rfl) (by kernel_rfl) (Lib.laidMet.reads (Eq.mp (Go.MakeChecks.laidMetH_plain _ _ _ (by kernel_rfl)) hL) (List.mem_of_getElem? (i := 2) (show Rows.fnExactJarSaveRow.laid[2]? = some ("internal/strconv.uint64pow10", Lib.tabData .u64 Lib.pow10Tab) by kernel_rfl)))⟩
set_option maxRecDepth 100000 in
set_option maxHeartbeats 2000000 in
theorem lifted (os : Os) (started : os.Started) (H : Type) (enc : TypeId × Value → H) (F : Stop.Interp) :
    ReturnsInHanded {} Tryd.checked os 8 .any ((OpenSpec.ofChange Rows.fnExactJarSaveSpec).preRow enc Tryd.prog Tryd.f8 Rows.fnExactJarSaveRow.domain false Rows.fnExactJarSaveRow.laid) (((OpenSpec.ofChange Rows.fnExactJarSaveSpec).at F).post enc Tryd.prog Tryd.f8 false true false false) := by
  refine returnsInHanded_of_row (C := Tryd.checked) (s := (OpenSpec.ofChange Rows.fnExactJarSaveSpec)) own started (by kernel_rfl) Tryd.func8
    (witness_row_atRef (enc := enc) (C := Tryd.checked) false (laidWorld os) #[.slice none 0 0] rfl (by kernel_rfl) (by kernel_rfl) (by kernel_rfl) (witness_row os enc)) ?_
  intro W base args ds gs before hval0 hW _ _ _ hL hSh _
  have hval : ∀ (j : Nat) t v, Tryd.f8.params[j]? = some t → args[j]? = some v → Value.okWide Tryd.prog W .any base t v := hval0
  have hW' := hW
  obtain ⟨p, q, hA0, hV, rfl, _, _⟩ := hW
  have hA : DataW.TrodAll enc Tryd.prog W 0 (fun _ => true) true Tryd.f8.params.toList args.toList ds p := hA0
  rw [Tryd.params8] at hA hval
  obtain ⟨v0, vs0, d0, ds0, p0, q0, hargs, rfl, rfl, h0, r0⟩ := trodAll_cons hA
  obtain ⟨rfl, rfl, rfl⟩ := trodAll_nil r0
  obtain rfl : args = #[v0] := by cases args; simp_all
  obtain ⟨rfl, rfl⟩ := trodVars_none hV
  have k0 := h0
  have lt0 : ∀ x ∈ p0, x.block < W.heap.size := by obtain ⟨m, hm⟩ := k0; exact DataW.trod_lt m _ _ _ hm
  obtain ⟨AA0, ll0, cc0, rfl⟩ := okWide_slice Tryd.underlying42 (hval 0 42 v0 rfl rfl)
  obtain ⟨m0, hm0⟩ := h0
  obtain ⟨b0, ⟨A0, c0, e0, l0, r0⟩, g0⟩ := (opens_slice Tryd.underlying42 (by kernel_rfl) (opens_T36 W)) _ _ _ hm0
  simp only [Value.cells, List.cons.injEq, Value.slice.injEq, and_true] at e0
  obtain ⟨rfl, rfl, rfl⟩ := e0
  have hG : GW W := gw_of hL hSh
  obtain ⟨k, hk⟩ := Pure.FnExactJarSave b0 g0
  refine (laws_FnExactJarSave.calls k AA0 cc0 b0 true W r0 l0 hk hG).mono fun e W' ⟨he, bel⟩ => ?_
  subst he
  exact ⟨_, rfl, _, _, _, [], _, [], hW', trodAll_mk1 (shut_bool Tryd.underlying4 _), (trodAll_cons_mk (Below.trod laidOut (by kernel_rfl) (of_decide_eq_true (by kernel_rfl)) k0 bel lt0) trodAll_mk0), rfl, bel.frame _, fun h => by cases h⟩
theorem over : Rows.fnExactJarSaveRow.holds Tryd.pinned (OpenSpec.ofChange Rows.fnExactJarSaveSpec) :=
  OpenClaim.holds_of_cond 8 Tryd.f8 rfl rfl rfl rfl rfl rfl rfl ⟨rfl, rfl, rfl, rfl, rfl⟩ rfl rfl rfl rfl rfl (by kernel_rfl) Tryd.func8 (by kernel_rfl)
    (of_decide_eq_true (by kernel_rfl)) (by unfold Func.isWrapper; first | (rw [if_pos (by decide +kernel)]; kernel_rfl) | (rw [if_neg (by decide +kernel)]; exact ⟨rfl, rfl⟩))
    (fun os started H enc _ F0 => by rw [OpenClaim.pre_eq_preRow]; exact lifted os started H enc F0)
theorem card : Rows.FnExactJarSaveCardSaid :=
  Claim7.holds_tied_plain_at .later [] [.data, .data, .data, .data, .pinned] true (true, "fe475bb59310d5edbe9b068c3e9971012cd9055819734bd9b1bd9af798a17fe1") false
    over (fun _ h => by cases h) (by kernel_rfl) (fun _ h => by cases h) fnExactJarSave_row_tie rfl ⟨rfl, rfl⟩ (by kernel_rfl) rfl
    (fun f fn hf hfn => by
      obtain rfl : f = 8 := Option.some.inj ((show Tryd.prog.funcNamed "loop.example/guilloche/laws.FnExactJarSave" = some 8 by kernel_rfl).symm.trans hf) |>.symm
      obtain rfl : fn = Tryd.f8 := (Option.some.inj (Tryd.func8.symm.trans hfn)).symm
      exact ⟨by kernel_rfl, fun j t ht => by
        rw [Tryd.params8] at ht
        have hm : t ∈ [42] := by simpa using Array.mem_of_getElem? ht
        have hall : ([42].all fun u => !Tryd.prog.wantsStandIn u) = true := by kernel_rfl
        exact (show Tryd.prog.wantsStandIn t = false by simpa using List.all_eq_true.1 hall t hm)⟩)
    (by kernel_rfl)
end Go.Proofs.YtakobibclhdakaaDoor.fnExactJarSave
namespace Go.Proofs.YtakobibclhdakaaDoor
/-- The statement, under a short name, for the claim. -/
theorem fnExactJarSave_holds : Rows.FnExactJarSaveCardSaid := fnExactJarSave.card
#print axioms fnExactJarSave_holds
end Go.Proofs.YtakobibclhdakaaDoor
