/- FnExactSureOk: for every input the law returns true, and each argument reads behind the call as it read before. Conditions: none of its own (the row's laid variables are tied to the program's text by the given tie). -/
import Derived.Test.YtakobibclhdakaaDoorRows
import Derived.Test.YtakobibclhdakaaDoorCards
import Derived.Test.YtakobibclhdakaaDoorTie
import Derived.Test.YtakobibclhdakaaDoorPureFnExactSureOk
import Derived.Test.YtakobibclhdakaaDoorO
import Derived.Deep.DeepHandedRow
import Derived.Deep.DeepWitnessRowRef
import Derived.Lib.LaidIn
import Derived.ProofKit
import Derived.SizedLaws
import Derived.LaidMore
import Derived.PinnedBridge
import Derived.OpenShut
import Derived.ShutString
import Derived.ChangeOld
import Derived.Below
import Derived.Carry
import Derived.WalkKit
import Derived.SevenTiedAt
import Derived.HandedShaped
import Derived.Shelf.LaysM
namespace Go.Proofs.YtakobibclhdakaaDoor.fnExactSureOk
open Go Go.ChangeShapes Go.WideShapes Go.ChangeAt Go.RowKit Go.Lib Go.Proofs.YtakobibclhdakaaDoorW.PrintWords Go.Proofs.YtakobibclhdakaaDoorG Go.Proofs.YtakobibclhdakaaDoorO Go.Proofs.YtakobibclhdakaaDoor.PFnExactSureOk
open Go.ChangeMaps (open_string shut_string)
set_option linter.unusedVariables false
theorem own : ownKnob Tryd.prog.godebug = none := by kernel_rfl
theorem laidOut : laidOutB Tryd.prog = true := by kernel_rfl
theorem op_T24 {H : Type} {enc : TypeId × Value → H} (W : World) : ∀ fuel cs x, DataW.trod enc Tryd.prog W 0 (fun _ => true) true fuel 24 cs = some x → ∃ (a0 : List ByteArray) (A0 : Option Addr) (c0 : Nat), cs = [.slice A0 a0.length c0] ∧ (a0.length ≤ c0 ∧ Kd.C Kd.string W A0 a0.length a0 ∧ (GList GStr) a0) := by
  intro fuel cs x h
  obtain ⟨xs, n, _, _, hlen, hxl, hf⟩ := DataW.trod_struct Tryd.underlying24 h
  replace hlen : cs.length = 1 := hlen.trans (by kernel_rfl)
  replace hxl : xs.length = 1 := hxl
  obtain ⟨z0, cs0, rfl, hlen0⟩ := pop hlen
  obtain rfl := List.eq_nil_of_length_eq_zero hlen0
  obtain ⟨y0, hy0⟩ := some_at hxl (i := 0) (by decide)
  have h0 := (hf 0 _ rfl).trans hy0
  replace h0 : DataW.trod enc Tryd.prog W 0 (fun _ => true) true n 22 (([z0].drop 0).take (Tryd.prog.cellsOf 22)) = some y0 := h0
  rw [show Tryd.prog.cellsOf 22 = 1 by kernel_rfl] at h0
  replace h0 : DataW.trod enc Tryd.prog W 0 (fun _ => true) true n 22 [z0] = some y0 := h0
  obtain ⟨a0, ⟨A0, c0, e0, l0, r0⟩, q0⟩ := (opens_slice Tryd.underlying22 (by kernel_rfl) (opens_string Tryd.underlying9)) _ _ _ h0
  obtain rfl := (List.cons.inj e0).1
  have g0 := And.intro l0 (And.intro r0 q0)
  exact ⟨a0, A0, c0, rfl, g0⟩
noncomputable def laidWorld (os : Os) : World :=
  let w0 := World.doorLaid Tryd.prog 34 os
  let put (h : Array Obj) (g : Nat) (cs : Array Value) : Array Obj := h.modify g fun
    | .cells _ t frozen => .cells cs t frozen
    | o => o
  { w0 with heap := put w0.heap 4 (Lib.firstTab.map fun z => Value.int .u8 z).toArray }
set_option maxRecDepth 100000 in
theorem laid_met (os : Os) (args : Array Value) : laidMetH Tryd.prog Rows.fnExactSureOkRow.laid ((laidWorld os).forCall (fun _ _ => 0) ⟨#[], args, []⟩).memory :=
  laidMetH_of_parts3 (fuel := 8) (laidMet_of_run' 8 (by kernel_rfl) (by kernel_rfl)) (by kernel_rfl) (by kernel_rfl)
set_option maxRecDepth 100000 in
theorem witness_row (os : Os) {H : Type} (enc : TypeId × Value → H) :
    (OpenSpec.ofChange Rows.fnExactSureOkSpec).preRow enc Tryd.prog Tryd.f3 Rows.fnExactSureOkRow.domain false Rows.fnExactSureOkRow.laid ((laidWorld os).forCall (fun _ _ => 0) ⟨#[], #[.agg #[.slice none 0 0]], []⟩).memory #[.agg #[.slice none 0 0]] := by
  have hw : (DataW.whole enc Tryd.prog ((laidWorld os).forCall (fun _ _ => 0) ⟨#[], #[.agg #[.slice none 0 0]], []⟩).memory Tryd.f3.params.toList (OpenSpec.ofChange Rows.fnExactSureOkSpec).vars false (#[.agg #[.slice none 0 0]] : Array Value).toList 8).map (fun x => (x.1, x.2.1)) = some ([.agg [.nil]], []) := by kernel_rfl
  obtain ⟨⟨x1, x2, x3⟩, hx, hx1⟩ := Option.map_eq_some_iff.1 hw
  simp only [Prod.mk.injEq] at hx1
  obtain ⟨rfl, rfl⟩ := hx1
  exact OpenSpec.preRow_of_cond 8 hx (by kernel_rfl) (fun k hk => by cases hk) (by kernel_rfl) (laid_met os _)
theorem gint_of {n : Int} (h : (Lit.int .i64 n).wf = true) : GInt n := by
  simp [Lit.wf] at h
  have e1 : IntKind.i64.min = -9223372036854775808 := by decide
  have e2 : IntKind.i64.max = 9223372036854775807 := by decide
  unfold GInt
  omega
theorem gw_of {W : World} (hL : laidMetH Tryd.prog Rows.fnExactSureOkRow.laid W) (hSh : W.ShapedOpen Tryd.prog) : GW W :=
  ⟨Go.Proofs.cell_of_shapedOpen_int (zero := #[.int .i64 0]) (t := 3) hSh (of_decide_eq_true (by kernel_rfl)) (by kernel_rfl) rfl (by kernel_rfl) (by kernel_rfl) Tryd.underlying3⟩
set_option maxRecDepth 100000 in
set_option maxHeartbeats 2000000 in
theorem lifted (os : Os) (started : os.Started) (H : Type) (enc : TypeId × Value → H) (F : Stop.Interp) :
    ReturnsInHanded {} Tryd.checked os 3 .any ((OpenSpec.ofChange Rows.fnExactSureOkSpec).preRow enc Tryd.prog Tryd.f3 Rows.fnExactSureOkRow.domain false Rows.fnExactSureOkRow.laid) (((OpenSpec.ofChange Rows.fnExactSureOkSpec).at F).post enc Tryd.prog Tryd.f3 false true false false) := by
  refine returnsInHanded_of_row (C := Tryd.checked) (s := (OpenSpec.ofChange Rows.fnExactSureOkSpec)) own started (by kernel_rfl) Tryd.func3
    (witness_row_atRef (enc := enc) (C := Tryd.checked) false (laidWorld os) #[.agg #[.slice none 0 0]] rfl (by kernel_rfl) (by kernel_rfl) (by kernel_rfl) (witness_row os enc)) ?_
  intro W base args ds gs before hval0 hW _ _ _ hL hSh _
  have hval : ∀ (j : Nat) t v, Tryd.f3.params[j]? = some t → args[j]? = some v → Value.okWide Tryd.prog W .any base t v := hval0
  have hW' := hW
  obtain ⟨p, q, hA0, hV, rfl, _, _⟩ := hW
  have hA : DataW.TrodAll enc Tryd.prog W 0 (fun _ => true) true Tryd.f3.params.toList args.toList ds p := hA0
  rw [Tryd.params3] at hA hval
  obtain ⟨v0, vs0, d0, ds0, p0, q0, hargs, rfl, rfl, h0, r0⟩ := trodAll_cons hA
  obtain ⟨rfl, rfl, rfl⟩ := trodAll_nil r0
  obtain rfl : args = #[v0] := by cases args; simp_all
  obtain ⟨rfl, rfl⟩ := trodVars_none hV
  have k0 := h0
  have lt0 : ∀ x ∈ p0, x.block < W.heap.size := by obtain ⟨m, hm⟩ := k0; exact DataW.trod_lt m _ _ _ hm
  obtain ⟨cs0, rfl, _⟩ := okWide_struct Tryd.underlying24 (hval 0 24 v0 rfl rfl)
  obtain ⟨m0, hm0⟩ := h0
  obtain ⟨b0_0, A0_0, c0_0, e0, ⟨l0_0, r0_0, g0_0⟩⟩ := op_T24 W _ _ _ hm0
  obtain ⟨e0'⟩ : ∃ l : Unit, True := ⟨(), trivial⟩
  replace e0 : cs0.toList = _ := e0
  obtain ⟨cs0⟩ := cs0
  subst e0
  have hG : GW W := gw_of hL hSh
  obtain ⟨k, hk⟩ := Pure.FnExactSureOk b0_0 g0_0
  refine (laws_FnExactSureOk.calls k A0_0 c0_0 b0_0 true W r0_0 l0_0 hk hG).mono fun e W' ⟨he, bel⟩ => ?_
  subst he
  exact ⟨_, rfl, _, _, _, [], _, [], hW', trodAll_mk1 (shut_bool Tryd.underlying4 _), (trodAll_cons_mk (Below.trod laidOut (by kernel_rfl) (of_decide_eq_true (by kernel_rfl)) k0 bel lt0) trodAll_mk0), rfl, bel.frame _, fun h => by cases h⟩
theorem over : Rows.fnExactSureOkRow.holds Tryd.pinned (OpenSpec.ofChange Rows.fnExactSureOkSpec) :=
  OpenClaim.holds_of_cond 3 Tryd.f3 rfl rfl rfl rfl rfl rfl rfl ⟨rfl, rfl, rfl, rfl, rfl⟩ rfl rfl rfl rfl rfl (by kernel_rfl) Tryd.func3 (by kernel_rfl)
    (of_decide_eq_true (by kernel_rfl)) (by unfold Func.isWrapper; first | (rw [if_pos (by decide +kernel)]; kernel_rfl) | (rw [if_neg (by decide +kernel)]; exact ⟨rfl, rfl⟩))
    (fun os started H enc _ F0 => by rw [OpenClaim.pre_eq_preRow]; exact lifted os started H enc F0)
theorem card : Rows.FnExactSureOkCardSaid :=
  Claim7.holds_tied_plain_at .later [] [.data, .pinned] true (true, "fe475bb59310d5edbe9b068c3e9971012cd9055819734bd9b1bd9af798a17fe1") false
    over (fun _ h => by cases h) (by kernel_rfl) (fun _ h => by cases h) fnExactSureOk_row_tie rfl ⟨rfl, rfl⟩ (by kernel_rfl) rfl
    (fun f fn hf hfn => by
      obtain rfl : f = 3 := Option.some.inj ((show Tryd.prog.funcNamed "loop.example/guilloche/laws.FnExactSureOk" = some 3 by kernel_rfl).symm.trans hf) |>.symm
      obtain rfl : fn = Tryd.f3 := (Option.some.inj (Tryd.func3.symm.trans hfn)).symm
      exact ⟨by kernel_rfl, fun j t ht => by
        rw [Tryd.params3] at ht
        have hm : t ∈ [24] := by simpa using Array.mem_of_getElem? ht
        have hall : ([24].all fun u => !Tryd.prog.wantsStandIn u) = true := by kernel_rfl
        exact (show Tryd.prog.wantsStandIn t = false by simpa using List.all_eq_true.1 hall t hm)⟩)
    (by kernel_rfl)
end Go.Proofs.YtakobibclhdakaaDoor.fnExactSureOk
namespace Go.Proofs.YtakobibclhdakaaDoor
/-- The statement, under a short name, for the claim. -/
theorem fnExactSureOk_holds : Rows.FnExactSureOkCardSaid := fnExactSureOk.card
#print axioms fnExactSureOk_holds
end Go.Proofs.YtakobibclhdakaaDoor
