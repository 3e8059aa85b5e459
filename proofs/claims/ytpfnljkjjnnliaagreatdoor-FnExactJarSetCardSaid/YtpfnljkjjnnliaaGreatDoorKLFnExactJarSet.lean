/- FnExactJarSet: for every input the law returns true, and each argument and the variable that the row lists read behind the call as they read before. Conditions: none of its own (the row's laid variables are tied to the program's text by the given tie). -/
import Derived.MakeChecks
import Derived.Test.YtpfnljkjjnnliaaGreatDoorRows
import Derived.Test.YtpfnljkjjnnliaaGreatDoorCards
import Derived.Test.YtpfnljkjjnnliaaGreatDoorTie
import Derived.Test.YtpfnljkjjnnliaaGreatDoorKJFnExactJarSet
import Derived.Test.YtpfnljkjjnnliaaGreatDoorKIFnExactJarSet
import Derived.Test.YtpfnljkjjnnliaaGreatDoorR6
import Derived.Test.YtpfnljkjjnnliaaGreatDoorRM
import Derived.Test.YtpfnljkjjnnliaaGreatDoorR4
import Derived.Deep.DeepHandedRow
import Derived.Deep.DeepWitnessRowRef
import Derived.Lib.LaidIn
import Derived.ProofKit
import Derived.SizedLaws
import Derived.LaidMore
import Derived.PinnedBridge
import Derived.OpenShut
import Derived.ShutString
import Derived.ChangeOld
import Derived.Below
import Derived.Carry
import Derived.WalkKit
import Derived.SevenTiedAt
import Derived.HandedShaped
import Derived.Shelf.LaysM
import Derived.OpenVars
namespace Go.Proofs.YtpfnljkjjnnliaaGreatDoor.fnExactJarSet
open Go Go.ChangeShapes Go.WideShapes Go.ChangeAt Go.RowKit Go.Lib Go.Proofs.YtpfnljkjjnnliaaGreatDoorQ
open Go.ChangeMaps (open_string shut_string)
open Go.VM (RepC RSV RTV GlobOk FnOk WF All2 Wf)
set_option linter.unusedVariables false
theorem own : ownKnob Tryz.prog.godebug = none := by kernel_rfl
theorem laidOut : laidOutB Tryz.prog = true := by kernel_rfl
noncomputable def laidWorld (os : Os) : World :=
  let w0 := World.doorLaid Tryz.prog 77 os
  let put (h : Array Obj) (g : Nat) (cs : Array Value) : Array Obj := h.modify g fun
    | .cells _ t frozen => .cells cs t frozen
    | o => o
  { w0 with heap := put w0.heap 2 (Lib.firstTab.map fun z => Value.int .u8 z).toArray }
set_option maxRecDepth 100000 in
theorem laid_met (os : Os) (args : Array Value) : laidMetH Tryz.prog Rows.fnExactJarSetRow.laid ((laidWorld os).forCall (fun _ _ => 0) ⟨#[], args, []⟩).memory :=
  laidMetH_of_parts3 (fuel := 8) (laidMet_of_run' 8 (by kernel_rfl) (by kernel_rfl)) (by kernel_rfl) (by kernel_rfl)
set_option maxRecDepth 100000 in
theorem witness_row (os : Os) {H : Type} (enc : TypeId × Value → H) :
    (OpenSpec.ofChange Rows.fnExactJarSetSpec).preRow enc Tryz.prog Tryz.f6 Rows.fnExactJarSetRow.domain false Rows.fnExactJarSetRow.laid ((laidWorld os).forCall (fun _ _ => 0) ⟨#[], #[.slice none 0 0, .agg #[.string ⟨#[]⟩, .string ⟨#[]⟩, .string ⟨#[]⟩, .int .i64 0, .string ⟨#[]⟩, .int .i64 0, .int .i64 0, .slice none 0 0, .string ⟨#[]⟩, .bool false, .string ⟨#[]⟩, .bool false, .string ⟨#[]⟩], .string ⟨#[]⟩, .int .i64 0], []⟩).memory #[.slice none 0 0, .agg #[.string ⟨#[]⟩, .string ⟨#[]⟩, .string ⟨#[]⟩, .int .i64 0, .string ⟨#[]⟩, .int .i64 0, .int .i64 0, .slice none 0 0, .string ⟨#[]⟩, .bool false, .string ⟨#[]⟩, .bool false, .string ⟨#[]⟩], .string ⟨#[]⟩, .int .i64 0] := by
  have hw : (DataW.whole enc Tryz.prog ((laidWorld os).forCall (fun _ _ => 0) ⟨#[], #[.slice none 0 0, .agg #[.string ⟨#[]⟩, .string ⟨#[]⟩, .string ⟨#[]⟩, .int .i64 0, .string ⟨#[]⟩, .int .i64 0, .int .i64 0, .slice none 0 0, .string ⟨#[]⟩, .bool false, .string ⟨#[]⟩, .bool false, .string ⟨#[]⟩], .string ⟨#[]⟩, .int .i64 0], []⟩).memory Tryz.f6.params.toList (OpenSpec.ofChange Rows.fnExactJarSetSpec).vars false (#[.slice none 0 0, .agg #[.string ⟨#[]⟩, .string ⟨#[]⟩, .string ⟨#[]⟩, .int .i64 0, .string ⟨#[]⟩, .int .i64 0, .int .i64 0, .slice none 0 0, .string ⟨#[]⟩, .bool false, .string ⟨#[]⟩, .bool false, .string ⟨#[]⟩], .string ⟨#[]⟩, .int .i64 0] : Array Value).toList 8).map (fun x => (x.1, x.2.1)) = some ([.nil, .agg [.lit (.string []), .lit (.string []), .lit (.string []), .agg [.lit (.int .i64 0), .lit (.string []), .lit (.int .i64 0)], .lit (.int .i64 0), .nil, .lit (.string []), .lit (.bool false), .lit (.string []), .lit (.bool false), .lit (.string [])], .lit (.string []), .lit (.int .i64 0)], [Rows.laid_loop_example_guilloche_impl_sets]) := by kernel_rfl
  obtain ⟨⟨x1, x2, x3⟩, hx, hx1⟩ := Option.map_eq_some_iff.1 hw
  simp only [Prod.mk.injEq] at hx1
  obtain ⟨rfl, rfl⟩ := hx1
  exact OpenSpec.preRow_of_cond 8 hx (by kernel_rfl) (fun k hk => by cases hk) (by kernel_rfl) (laid_met os _)
theorem glob_of {W : World} (hL : laidMetH Tryz.prog Rows.fnExactJarSetRow.laid W) (hSh : W.ShapedOpen Tryz.prog) : GlobOk Go.VM.T.Γ (fun _ => .nilFunc) (fun b => b < W.heap.size) W := by
  refine ⟨⟨Go.VM.wf_all (Go.Proofs.cell_of_shapedOpen_int (zero := #[.int .i64 0]) (t := 3) hSh (of_decide_eq_true (by kernel_rfl)) (by kernel_rfl) rfl (by kernel_rfl) (by kernel_rfl) Tryz.underlying3) (g := 6) (by kernel_rfl)
    (Go.VM.tab_of_reads (g := 6) (by kernel_rfl) (by kernel_rfl) Tryz.underlying211 Tryz.underlying186 (by kernel_rfl) (by kernel_rfl) (Lib.laidMet.reads (Eq.mp (Go.MakeChecks.laidMetH_plain _ _ _ (by kernel_rfl)) hL) (List.mem_of_getElem? (i := 2) (show Rows.fnExactJarSetRow.laid[2]? = some ("internal/strconv.uint64pow10", Lib.tabData .u64 Lib.pow10Tab) by kernel_rfl)))), Go.VM.err_of_reads (n := "strconv.ErrSyntax") (gv := 4) (by kernel_rfl) (by kernel_rfl) Tryz.underlying132 (Lib.laidMet.reads (Eq.mp (Go.MakeChecks.laidMetH_plain _ _ _ (by kernel_rfl)) hL) (List.mem_of_getElem? (i := 5) (show Rows.fnExactJarSetRow.laid[5]? = some ("strconv.ErrSyntax", Rows.laid_strconv_ErrSyntax) by kernel_rfl))), Go.VM.err_of_reads (n := "strconv.ErrRange") (gv := 5) (by kernel_rfl) (by kernel_rfl) Tryz.underlying132 (Lib.laidMet.reads (Eq.mp (Go.MakeChecks.laidMetH_plain _ _ _ (by kernel_rfl)) hL) (List.mem_of_getElem? (i := 4) (show Rows.fnExactJarSetRow.laid[4]? = some ("strconv.ErrRange", Rows.laid_strconv_ErrRange) by kernel_rfl)))⟩, ?_⟩
  intro g p hg
  have hg' : Go.VM.look [(1, (⟨.lst .str, Go.VM.setsL⟩ : (t : Go.VM.Ty) × t.den))] g = some p := hg
  rw [Go.VM.look_cons] at hg'
  split at hg'
  · rename_i hgg
    subst hgg
    obtain rfl := Option.some.inj hg'
    refine ⟨rfl, ?_⟩
    exact Go.VM.sets_of_reads (L := Go.VM.setsL) (by kernel_rfl) (by kernel_rfl) Tryz.underlying34 Tryz.underlying9 (by kernel_rfl) (Lib.laidMet.reads (Eq.mp (Go.MakeChecks.laidMetH_plain _ _ _ (by kernel_rfl)) hL) (List.mem_of_getElem? (i := 6) (show Rows.fnExactJarSetRow.laid[6]? = some ("loop.example/guilloche/impl.sets", .slice (Go.VM.setsL.map fun s => .lit (.string s)) []) by kernel_rfl)))
  · cases hg'
set_option maxRecDepth 100000 in
set_option maxHeartbeats 2000000 in
theorem lifted (os : Os) (started : os.Started) (H : Type) (enc : TypeId × Value → H) (F : Stop.Interp) :
    ReturnsInHanded {} Tryz.checked os 6 .any ((OpenSpec.ofChange Rows.fnExactJarSetSpec).preRow enc Tryz.prog Tryz.f6 Rows.fnExactJarSetRow.domain false Rows.fnExactJarSetRow.laid) (((OpenSpec.ofChange Rows.fnExactJarSetSpec).at F).post enc Tryz.prog Tryz.f6 false true false false) := by
  refine returnsInHanded_of_row (C := Tryz.checked) (s := (OpenSpec.ofChange Rows.fnExactJarSetSpec)) own started (by kernel_rfl) Tryz.func6
    (witness_row_atRef (enc := enc) (C := Tryz.checked) false (laidWorld os) #[.slice none 0 0, .agg #[.string ⟨#[]⟩, .string ⟨#[]⟩, .string ⟨#[]⟩, .int .i64 0, .string ⟨#[]⟩, .int .i64 0, .int .i64 0, .slice none 0 0, .string ⟨#[]⟩, .bool false, .string ⟨#[]⟩, .bool false, .string ⟨#[]⟩], .string ⟨#[]⟩, .int .i64 0] rfl (by kernel_rfl) (by kernel_rfl) (by kernel_rfl) (witness_row os enc)) ?_
  intro W base args ds gs before hval0 hW _ _ _ hL hSh _
  have hval : ∀ (j : Nat) t v, Tryz.f6.params[j]? = some t → args[j]? = some v → Value.okWide Tryz.prog W .any base t v := hval0
  have hW' := hW
  obtain ⟨p, q, hA0, hV, rfl, _, _⟩ := hW
  have hA : DataW.TrodAll enc Tryz.prog W 0 (fun _ => true) true Tryz.f6.params.toList args.toList ds p := hA0
  rw [Tryz.params6] at hA hval
  obtain ⟨v0, vs0, d0, ds0, p0, q0, hargs, rfl, rfl, h0, r0⟩ := trodAll_cons hA
  obtain ⟨v1, vs1, d1, ds1, p1, q1, rfl, rfl, rfl, h1, r1⟩ := trodAll_cons r0
  obtain ⟨v2, vs2, d2, ds2, p2, q2, rfl, rfl, rfl, h2, r2⟩ := trodAll_cons r1
  obtain ⟨v3, vs3, d3, ds3, p3, q3, rfl, rfl, rfl, h3, r3⟩ := trodAll_cons r2
  obtain ⟨rfl, rfl, rfl⟩ := trodAll_nil r3
  obtain rfl : args = #[v0, v1, v2, v3] := by cases args; simp_all
  have hV2 := hV
  obtain ⟨g_, t_, cs_, fuel_, dv, pv, rfl, _⟩ := trodVars_one hV2
  have k0 := h0
  have lt0 : ∀ x ∈ p0, x.block < W.heap.size := by obtain ⟨m, hm⟩ := k0; exact DataW.trod_lt m _ _ _ hm
  obtain ⟨AA0, ll0, cc0, rfl⟩ := okWide_slice Tryz.underlying47 (hval 0 47 v0 rfl rfl)
  obtain ⟨m0, hm0⟩ := h0
  obtain ⟨a0, c0, g0⟩ := (Go.VM.opens_all (θ := fun _ => Value.nilFunc) Go.VM.T.tyOk_ ((.lst (.pair .str (.pair .str (.pair .str (.pair .bool (.pair .str (.pair (.int .i64) (.pair .bool (.pair (.int .i64) (.pair (.int .i64) .unit)))))))))))).1 (by decide) 47 rfl _ _ _ hm0
  have k1 := h1
  have lt1 : ∀ x ∈ p1, x.block < W.heap.size := by obtain ⟨m, hm⟩ := k1; exact DataW.trod_lt m _ _ _ hm
  obtain ⟨cs1, rfl, _⟩ := okWide_struct Tryz.underlying50 (hval 1 50 v1 rfl rfl)
  obtain ⟨m1, hm1⟩ := h1
  obtain ⟨a1, c1, g1⟩ := (Go.VM.opens_all (θ := fun _ => Value.nilFunc) Go.VM.T.tyOk_ ((.pair .str (.pair .str (.pair .str (.pair (.pair (.int .i64) (.pair .str (.pair (.int .i64) .unit))) (.pair (.int .i64) (.pair (.lst .str) (.pair .str (.pair .bool (.pair .str (.pair .bool (.pair .str .unit))))))))))))).1 (by decide) 50 rfl _ _ _ hm1
  have k2 := h2
  have lt2 : ∀ x ∈ p2, x.block < W.heap.size := by obtain ⟨m, hm⟩ := k2; exact DataW.trod_lt m _ _ _ hm
  obtain ⟨z2, rfl⟩ := okWide_string Tryz.underlying9 (hval 2 9 v2 rfl rfl)
  obtain ⟨m2, hm2⟩ := h2
  obtain ⟨a2, c2, g2⟩ := (Go.VM.opens_all (θ := fun _ => Value.nilFunc) Go.VM.T.tyOk_ (.str)).1 (by decide) 9 rfl _ _ _ hm2
  have k3 := h3
  have lt3 : ∀ x ∈ p3, x.block < W.heap.size := by obtain ⟨m, hm⟩ := k3; exact DataW.trod_lt m _ _ _ hm
  obtain ⟨z3, rfl⟩ := okWide_int Tryz.underlying3 (hval 3 3 v3 rfl rfl)
  obtain ⟨m3, hm3⟩ := h3
  obtain ⟨a3, c3, g3⟩ := (Go.VM.opens_all (θ := fun _ => Value.nilFunc) Go.VM.T.tyOk_ ((.int .i64))).1 (by decide) 3 rfl _ _ _ hm3
  have hG := glob_of hL hSh
  obtain ⟨M, hM⟩ : ∃ M, 4200000 ≤ M := ⟨_, Nat.le_refl _⟩
  have hk : FnOk Tryz.prog Go.VM.T.Γ 6 ⟨[((.lst (.pair .str (.pair .str (.pair .str (.pair .bool (.pair .str (.pair (.int .i64) (.pair .bool (.pair (.int .i64) (.pair (.int .i64) .unit)))))))))), 0), ((.pair .str (.pair .str (.pair .str (.pair (.pair (.int .i64) (.pair .str (.pair (.int .i64) .unit))) (.pair (.int .i64) (.pair (.lst .str) (.pair .str (.pair .bool (.pair .str (.pair .bool (.pair .str .unit))))))))))), 0), (.str, 0), ((.int .i64), 0)], [(.bool, 1)]⟩ (Go.VM.call Go.VM.T.Γ M 6) := all M 6
  have hF : Go.VM.call Go.VM.T.Γ M 6 (a0, a1, a2, a3, ()) = some (true, ()) := Go.VM.T.law_JarSet (n := M) (by omega) (Go.VM.T.WJ_of g0) (Go.VM.T.WU_of g1) a2 a3
  have hcall := Go.VM.calls_flat hk (entersOf Tryz.func6 (by kernel_rfl) rfl) (x := (a0, a1, a2, a3, ())) (y := (true, ())) hF rfl rfl (θ := fun _ => .nilFunc) (ι := fun _ => .nilFunc) (S := fun b => b < W.heap.size) (w := W) (fun _ => rfl) (fun _ => rfl) (fun _ h => h) hG
    (Vs := [.slice AA0 ll0 cc0, .agg cs1, .string z2, .int .i64 z3]) (.cons (Go.VM.toTV_ok (ι := fun _ => .nilFunc) c0) (.cons (Go.VM.toTV_ok (ι := fun _ => .nilFunc) c1) (.cons (Go.VM.toTV_ok (ι := fun _ => .nilFunc) c2) (.cons (Go.VM.toTV_ok (ι := fun _ => .nilFunc) c3) (.nil))))) (Nat.zero_le _)
  refine hcall.mono fun e W' ⟨V, ι', S', he, bel, hR⟩ => ?_
  obtain rfl : V = .bool true := hR
  subst he
  exact ⟨_, rfl, _, _, _, [], _, _, hW', trodAll_mk1 (shut_bool Tryz.underlying4 _), (trodAll_cons_mk (Below.trod laidOut (by kernel_rfl) (of_decide_eq_true (by kernel_rfl)) k0 bel lt0) (trodAll_cons_mk (Below.trod laidOut (by kernel_rfl) (of_decide_eq_true (by kernel_rfl)) k1 bel lt1) (trodAll_cons_mk (Below.trod laidOut (by kernel_rfl) (of_decide_eq_true (by kernel_rfl)) k2 bel lt2) (trodAll_cons_mk (Below.trod laidOut (by kernel_rfl) (of_decide_eq_true (by kernel_rfl)) k3 bel lt3) trodAll_mk0)))), bel.trodVars laidOut (by kernel_rfl) hV, bel.frame _, fun h => by cases h⟩
theorem over : Rows.fnExactJarSetRow.holds Tryz.pinned (OpenSpec.ofChange Rows.fnExactJarSetSpec) :=
  OpenClaim.holds_of_cond 6 Tryz.f6 rfl rfl rfl rfl rfl rfl rfl ⟨rfl, rfl, rfl, rfl, rfl⟩ rfl rfl rfl rfl rfl (by kernel_rfl) Tryz.func6 closed
    (of_decide_eq_true (by kernel_rfl)) (by unfold Func.isWrapper; first | (rw [if_pos (by decide +kernel)]; kernel_rfl) | (rw [if_neg (by decide +kernel)]; exact ⟨rfl, rfl⟩))
    (fun os started H enc _ F0 => by rw [OpenClaim.pre_eq_preRow]; exact lifted os started H enc F0)
theorem card : Rows.FnExactJarSetCardSaid :=
  Claim7.holds_tied_plain_at .later [] [.data, .data, .data, .data, .sentinel, .sentinel, .data, .pinned] true (true, "33a1b4e558697a2928ed0e538af9229ebed3996754099f3d5103e142249a1bd4") true
    over (fun _ h => by cases h) cw (fun _ h => by cases h) fnExactJarSet_row_tie rfl ⟨rfl, rfl⟩ cm rfl
    (fun f fn hf hfn => by
      obtain rfl : f = 6 := Option.some.inj ((show Tryz.prog.funcNamed "loop.example/guilloche/laws.FnExactJarSet" = some 6 by kernel_rfl).symm.trans hf) |>.symm
      obtain rfl : fn = Tryz.f6 := (Option.some.inj (Tryz.func6.symm.trans hfn)).symm
      exact ⟨ck, fun j t ht => by
        rw [Tryz.params6] at ht
        have hm : t ∈ [47, 50, 9, 3] := by simpa using Array.mem_of_getElem? ht
        have hall : ([47, 50, 9, 3].all fun u => !Tryz.prog.wantsStandIn u) = true := cp
        exact (show Tryz.prog.wantsStandIn t = false by simpa using List.all_eq_true.1 hall t hm)⟩)
    cg
end Go.Proofs.YtpfnljkjjnnliaaGreatDoor.fnExactJarSet
namespace Go.Proofs.YtpfnljkjjnnliaaGreatDoor
/-- The statement, under a short name, for the claim. -/
theorem fnExactJarSet_holds : Rows.FnExactJarSetCardSaid := fnExactJarSet.card
#print axioms fnExactJarSet_holds
end Go.Proofs.YtpfnljkjjnnliaaGreatDoor
