/- FnJarPut: for every input the law returns true, and each argument and the variable that the row lists read behind the call as they read before. Conditions: none of its own (the row's laid variables are tied to the program's text by the given tie). -/
import Derived.MakeChecks
import Derived.Test.YtpfnljkjjnnliaaGreatDoorRows
import Derived.Test.YtpfnljkjjnnliaaGreatDoorCards
import Derived.Test.YtpfnljkjjnnliaaGreatDoorTie
import Derived.Test.YtpfnljkjjnnliaaGreatDoorKJFnJarPut
import Derived.Test.YtpfnljkjjnnliaaGreatDoorKIFnJarPut
import Derived.Test.YtpfnljkjjnnliaaGreatDoorP6
import Derived.Test.YtpfnljkjjnnliaaGreatDoorPS
import Derived.Test.YtpfnljkjjnnliaaGreatDoorP4
import Derived.Deep.DeepHandedRow
import Derived.Deep.DeepWitnessRowRef
import Derived.Lib.LaidIn
import Derived.ProofKit
import Derived.SizedLaws
import Derived.LaidMore
import Derived.PinnedBridge
import Derived.OpenShut
import Derived.ShutString
import Derived.ChangeOld
import Derived.Below
import Derived.Carry
import Derived.WalkKit
import Derived.SevenTiedAt
import Derived.HandedShaped
import Derived.Shelf.LaysM
import Derived.OpenVars
namespace Go.Proofs.YtpfnljkjjnnliaaGreatDoor.fnJarPut
open Go Go.ChangeShapes Go.WideShapes Go.ChangeAt Go.RowKit Go.Lib Go.Proofs.YtpfnljkjjnnliaaGreatDoorQ
open Go.ChangeMaps (open_string shut_string)
open Go.VM (RepC RSV RTV GlobOk FnOk WF All2 Wf)
set_option linter.unusedVariables false
theorem own : ownKnob Tryz.prog.godebug = none := by kernel_rfl
theorem laidOut : laidOutB Tryz.prog = true := by kernel_rfl
noncomputable def laidWorld (os : Os) : World :=
  let w0 := World.doorLaid Tryz.prog 77 os
  let put (h : Array Obj) (g : Nat) (cs : Array Value) : Array Obj := h.modify g fun
    | .cells _ t frozen => .cells cs t frozen
    | o => o
  { w0 with heap := put w0.heap 2 (Lib.firstTab.map fun z => Value.int .u8 z).toArray }
set_option maxRecDepth 100000 in
theorem laid_met (os : Os) (args : Array Value) : laidMetH Tryz.prog Rows.fnJarPutRow.laid ((laidWorld os).forCall (fun _ _ => 0) ⟨#[], args, []⟩).memory :=
  laidMetH_of_parts3 (fuel := 8) (laidMet_of_run' 8 (by kernel_rfl) (by kernel_rfl)) (by kernel_rfl) (by kernel_rfl)
set_option maxRecDepth 100000 in
theorem witness_row (os : Os) {H : Type} (enc : TypeId × Value → H) :
    (OpenSpec.ofChange Rows.fnJarPutSpec).preRow enc Tryz.prog Tryz.f5 Rows.fnJarPutRow.domain false Rows.fnJarPutRow.laid ((laidWorld os).forCall (fun _ _ => 0) ⟨#[], #[.slice none 0 0], []⟩).memory #[.slice none 0 0] := by
  have hw : (DataW.whole enc Tryz.prog ((laidWorld os).forCall (fun _ _ => 0) ⟨#[], #[.slice none 0 0], []⟩).memory Tryz.f5.params.toList (OpenSpec.ofChange Rows.fnJarPutSpec).vars false (#[.slice none 0 0] : Array Value).toList 8).map (fun x => (x.1, x.2.1)) = some ([.nil], []) := by kernel_rfl
  obtain ⟨⟨x1, x2, x3⟩, hx, hx1⟩ := Option.map_eq_some_iff.1 hw
  simp only [Prod.mk.injEq] at hx1
  obtain ⟨rfl, rfl⟩ := hx1
  exact OpenSpec.preRow_of_cond 8 hx (by kernel_rfl) (fun k hk => by cases hk) (by kernel_rfl) (laid_met os _)
theorem glob_of {W : World} (hL : laidMetH Tryz.prog Rows.fnJarPutRow.laid W) (hSh : W.ShapedOpen Tryz.prog) : GlobOk Go.VM.T.Γ (fun _ => .nilFunc) (fun b => b < W.heap.size) W := by
  refine ⟨Go.VM.wf_all (Go.Proofs.cell_of_shapedOpen_int (zero := #[.int .i64 0]) (t := 3) hSh (of_decide_eq_true (by kernel_rfl)) (by kernel_rfl) rfl (by kernel_rfl) (by kernel_rfl) Tryz.underlying3) (g := 6) (by kernel_rfl)
    (Go.VM.tab_of_reads (g := 6) (by kernel_rfl) (by kernel_rfl) Tryz.underlying211 Tryz.underlying186 (by kernel_rfl) (by kernel_rfl) (Lib.laidMet.reads (Eq.mp (Go.MakeChecks.laidMetH_plain _ _ _ (by kernel_rfl)) hL) (List.mem_of_getElem? (i := 2) (show Rows.fnJarPutRow.laid[2]? = some ("internal/strconv.uint64pow10", Lib.tabData .u64 Lib.pow10Tab) by kernel_rfl)))), ?_⟩
  intro g p hg
  cases hg
set_option maxRecDepth 100000 in
set_option maxHeartbeats 2000000 in
theorem lifted (os : Os) (started : os.Started) (H : Type) (enc : TypeId × Value → H) (F : Stop.Interp) :
    ReturnsInHanded {} Tryz.checked os 5 .any ((OpenSpec.ofChange Rows.fnJarPutSpec).preRow enc Tryz.prog Tryz.f5 Rows.fnJarPutRow.domain false Rows.fnJarPutRow.laid) (((OpenSpec.ofChange Rows.fnJarPutSpec).at F).post enc Tryz.prog Tryz.f5 false true false false) := by
  refine returnsInHanded_of_row (C := Tryz.checked) (s := (OpenSpec.ofChange Rows.fnJarPutSpec)) own started (by kernel_rfl) Tryz.func5
    (witness_row_atRef (enc := enc) (C := Tryz.checked) false (laidWorld os) #[.slice none 0 0] rfl (by kernel_rfl) (by kernel_rfl) (by kernel_rfl) (witness_row os enc)) ?_
  intro W base args ds gs before hval0 hW _ _ _ hL hSh _
  have hval : ∀ (j : Nat) t v, Tryz.f5.params[j]? = some t → args[j]? = some v → Value.okWide Tryz.prog W .any base t v := hval0
  have hW' := hW
  obtain ⟨p, q, hA0, hV, rfl, _, _⟩ := hW
  have hA : DataW.TrodAll enc Tryz.prog W 0 (fun _ => true) true Tryz.f5.params.toList args.toList ds p := hA0
  rw [Tryz.params5] at hA hval
  obtain ⟨v0, vs0, d0, ds0, p0, q0, hargs, rfl, rfl, h0, r0⟩ := trodAll_cons hA
  obtain ⟨rfl, rfl, rfl⟩ := trodAll_nil r0
  obtain rfl : args = #[v0] := by cases args; simp_all
  have hV2 := hV
  obtain ⟨rfl, rfl⟩ := trodVars_none hV2
  have k0 := h0
  have lt0 : ∀ x ∈ p0, x.block < W.heap.size := by obtain ⟨m, hm⟩ := k0; exact DataW.trod_lt m _ _ _ hm
  obtain ⟨AA0, ll0, cc0, rfl⟩ := okWide_slice Tryz.underlying22 (hval 0 22 v0 rfl rfl)
  obtain ⟨m0, hm0⟩ := h0
  obtain ⟨a0, c0, g0⟩ := (Go.VM.opens_all (θ := fun _ => Value.nilFunc) Go.VM.T.tyOk_ ((.lst (.int .u8)))).1 (by decide) 22 rfl _ _ _ hm0
  have hG := glob_of hL hSh
  obtain ⟨M, hM⟩ : ∃ M, 4200000 ≤ M := ⟨_, Nat.le_refl _⟩
  have hk : FnOk Tryz.prog Go.VM.T.Γ 5 ⟨[((.lst (.int .u8)), 0)], [(.bool, 1)]⟩ (Go.VM.call Go.VM.T.Γ M 5) := all M 5
  have hF : Go.VM.call Go.VM.T.Γ M 5 (a0, ()) = some (true, ()) := Go.VM.T.law_FnJarPut (n := M) (by omega) (Go.VM.T.bytes_of g0)
  have hcall := Go.VM.calls_flat hk (entersOf Tryz.func5 (by kernel_rfl) rfl) (x := (a0, ())) (y := (true, ())) hF rfl rfl (θ := fun _ => .nilFunc) (ι := fun _ => .nilFunc) (S := fun b => b < W.heap.size) (w := W) (fun _ => rfl) (fun _ => rfl) (fun _ h => h) hG
    (Vs := [.slice AA0 ll0 cc0]) (.cons (Go.VM.toTV_ok (ι := fun _ => .nilFunc) c0) (.nil)) (Nat.zero_le _)
  refine hcall.mono fun e W' ⟨V, ι', S', he, bel, hR⟩ => ?_
  obtain rfl : V = .bool true := hR
  subst he
  exact ⟨_, rfl, _, _, _, [], _, _, hW', trodAll_mk1 (shut_bool Tryz.underlying4 _), (trodAll_cons_mk (Below.trod laidOut (by kernel_rfl) (of_decide_eq_true (by kernel_rfl)) k0 bel lt0) trodAll_mk0), bel.trodVars laidOut (by kernel_rfl) hV, bel.frame _, fun h => by cases h⟩
theorem over : Rows.fnJarPutRow.holds Tryz.pinned (OpenSpec.ofChange Rows.fnJarPutSpec) :=
  OpenClaim.holds_of_cond 5 Tryz.f5 rfl rfl rfl rfl rfl rfl rfl ⟨rfl, rfl, rfl, rfl, rfl⟩ rfl rfl rfl rfl rfl (by kernel_rfl) Tryz.func5 closed
    (of_decide_eq_true (by kernel_rfl)) (by unfold Func.isWrapper; first | (rw [if_pos (by decide +kernel)]; kernel_rfl) | (rw [if_neg (by decide +kernel)]; exact ⟨rfl, rfl⟩))
    (fun os started H enc _ F0 => by rw [OpenClaim.pre_eq_preRow]; exact lifted os started H enc F0)
theorem card : Rows.FnJarPutCardSaid :=
  Claim7.holds_tied_plain_at .later [] [.data, .data, .data, .data, .pinned] true (true, "33a1b4e558697a2928ed0e538af9229ebed3996754099f3d5103e142249a1bd4") true
    over (fun _ h => by cases h) cw (fun _ h => by cases h) fnJarPut_row_tie rfl ⟨rfl, rfl⟩ cm rfl
    (fun f fn hf hfn => by
      obtain rfl : f = 5 := Option.some.inj ((show Tryz.prog.funcNamed "loop.example/guilloche/laws.FnJarPut" = some 5 by kernel_rfl).symm.trans hf) |>.symm
      obtain rfl : fn = Tryz.f5 := (Option.some.inj (Tryz.func5.symm.trans hfn)).symm
      exact ⟨ck, fun j t ht => by
        rw [Tryz.params5] at ht
        have hm : t ∈ [22] := by simpa using Array.mem_of_getElem? ht
        have hall : ([22].all fun u => !Tryz.prog.wantsStandIn u) = true := cp
        exact (show Tryz.prog.wantsStandIn t = false by simpa using List.all_eq_true.1 hall t hm)⟩)
    cg
end Go.Proofs.YtpfnljkjjnnliaaGreatDoor.fnJarPut
namespace Go.Proofs.YtpfnljkjjnnliaaGreatDoor
/-- The statement, under a short name, for the claim. -/
theorem fnJarPut_holds : Rows.FnJarPutCardSaid := fnJarPut.card
#print axioms fnJarPut_holds
end Go.Proofs.YtpfnljkjjnnliaaGreatDoor
