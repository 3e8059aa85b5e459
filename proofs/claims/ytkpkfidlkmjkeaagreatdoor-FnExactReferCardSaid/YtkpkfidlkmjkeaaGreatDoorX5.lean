/- Functions of the library and of the program that are walked by hand. -/
import Derived.Test.YtkpkfidlkmjkeaaGreatDoorX4
import Derived.Test.YtkpkfidlkmjkeaaGreatDoorX3
import Derived.Below
import Derived.Deep.Draws
import Derived.Deep.AppendLies
import Derived.Maps.AppendAt
import Derived.OwnWalk
import Derived.Laws.BytesArg
import Derived.Laws.MakeOwn
import Derived.Laws.OwnMore
import Derived.Deep.OwnRows
import Derived.Tactics
import Derived.Lib.ConvBytes
import Derived.Laws.Slices
import Derived.WalkKit
import Derived.KernelRfl
import Derived.RowKit3
import Derived.Deep.LoopGhost
import Derived.Deep.QuietTactic
import Derived.BigQuiet
import Derived.WideLaws
import Derived.Deep.DeepCutAuto
import Derived.Deep.CutBlock
import Derived.Deep.RegionHeld3
import Derived.Laws.Rows
import Derived.Lib.AppendStr
import Derived.ArgAppend
import Derived.Laws.IdiomCopy
import Derived.OrdersHeld
import Derived.Laws.BitsLemmas
import Derived.RowKit
import Derived.Test.YtkpkfidlkmjkeaaGreatDoorProg
import Derived.Test.YtkpkfidlkmjkeaaGreatDoorX2
import Derived.Laws.Runes
import Derived.Laws.RangeAny
import Derived.Lib.OthersKept
set_option linter.unusedVariables false
set_option linter.unusedSimpArgs false
/- slices.Clip, impl.clone: copies of a row. -/
namespace Go.Proofs.YtkpkfidlkmjkeaaGreatDoorQ
open Go.VM Go.RowKit
structure Hid (p : Prop) : Prop where
  out : p
theorem cut_clip {P : Program} (t e : TypeId) (kh km : IntKind) {i : TypeInfo} (ht : P.underlying t = some (.slice e)) (hi : P.info? e = some i) (A : Option Addr) (n c : Nat) (hc : n ≤ c) :
    ∀ W : World, (Instr.slice t (.slice A n c) none (some (.int kh n)) (some (.int km n))).run P W = .ok (.slice A n n) W := by
  intro W
  have hel : P.elem t = e := by simp [Program.elem, ht]
  have hu : P.underlying t = some (.slice (P.elem t)) := by rw [hel]; exact ht
  have ha : (A.map fun x => x.add 0) = A := by cases A <;> simp [Addr.add]
  rw [run_slice_hm W t A n c hu kh km n n (by omega) (Int.le_refl _) (by omega), hel]
  simp [sizeOf, typeInfo, hi, sliced, Result.andThen, ha]
theorem clip_ok (A : Option Addr) (n c : Nat) (hc : n ≤ c) (w : World) :
    Calls Tryz.prog 291 #[.slice A n c] w fun e w' => e = .returned (.slice A n n) ∧ w' = w := by
  obtain ⟨i0, hi0⟩ : ∃ i, Tryz.prog.info? 9 = some i := Option.isSome_iff_exists.1 (by kernel_rfl)
  have hcut := cut_clip (P := Tryz.prog) 24 9 .i64 .i64 Tryz.underlying24 hi0 A n c hc
  go_enter Tryz.func291, Tryz.ntmps291
  go_wp2
  go_ret
  exact ⟨rfl, rfl⟩
theorem clone_ok (A : Option Addr) (n c : Nat) (w : World) (Q : Value → World → Prop)
    (h : Calls Tryz.prog 292 #[.slice A n c] w fun e w' => ∃ B m d, e = .returned (.slice B m d) ∧ m ≤ d ∧ Q (.slice B m m) w') :
    Calls Tryz.prog 251 #[.slice A n c] w fun e w' => ∃ V, e = .returned V ∧ Q V w' := by
  have hx := Hid.mk h
  clear h
  go_enter Tryz.func251, Tryz.ntmps251
  go_wp2_with (first | (go_at_call 292; refine hx.out.mono ?_; rintro e w1 ⟨B, m, d, rfl, hm, hq⟩) | (go_at_call 291; refine (clip_ok _ _ _ hm _).mono ?_; rintro e w2 ⟨rfl, rfl⟩))
  go_ret
  exact ⟨_, rfl, hq⟩
theorem entersOf {f : FuncId} {fn : Func} {c : Code} (hf : Tryz.prog.funcs[f]? = some fn) (hname : (fn.name == "runtime.NumGoroutine") = false) (hb : fn.body = some c) : Enters Tryz.prog f := Go.Proofs.enters_of hf hname hb
theorem ext_clone {Γ : Ctx} : FnOk Tryz.prog Γ 251 ⟨[(.lst .str, 0)], [(.lst .str, true)]⟩ x_impl_clone_string := by
  refine fnok_row (fun _ => rfl) rfl (fun _ => rfl) (entersOf Tryz.func251 (by kernel_rfl) rfl) ?_
  rintro ⟨xs, ⟨⟩⟩ ⟨ys, ⟨⟩⟩ hF θ S w ι Vs hGl hS hA
  have key : ∀ (xs : List Bs) (V : Value), xs.length ≤ 1073741824 → RepC θ S w (.lst .str) xs [V] → Calls Tryz.prog 251 #[V] w fun e w' => ∃ V, e = .returned V ∧ Below w.heap.size w w' ∧ V.oneCell' = true ∧ (∀ b, blk V = some b → w.heap.size ≤ b) ∧
      ∀ (ι' : Nat → Value) (n : Nat), ι' n = V → ROb ι' θ S w' n (.row .str xs) := by
    intro xs V hl hV
    obtain ⟨p, cap, rfl, hcap, hx⟩ := rep_strs hV
    refine clone_ok p xs.length cap w (fun V w' => Below w.heap.size w w' ∧ V.oneCell' = true ∧ (∀ b, blk V = some b → w.heap.size ≤ b) ∧ ∀ (ι' : Nat → Value) (n : Nat), ι' n = V → ROb ι' θ S w' n (.row .str xs)) ?_
    have own : ∀ (v' : Value) (w' : World), w'.ownsRow w.heap.size 9 1 v' xs.length ((xs.map mkB).map Value.string) → Below w.heap.size w w' → ∃ B m d, Ending.returned v' = .returned (.slice B m d) ∧ m ≤ d ∧ (Below w.heap.size w w' ∧ (Value.slice B m m).oneCell' = true ∧ (∀ b, blk (.slice B m m) = some b → w.heap.size ≤ b) ∧ ∀ (ι' : Nat → Value) (n : Nat), ι' n = .slice B m m → ROb ι' θ S w' n (.row .str xs)) := by
      rintro v' w' ⟨h1, h2⟩ hB
      rcases h2 with ⟨rfl, h0⟩ | ⟨g, cap, cur, rfl, hg, hh, hn, hm, hsz, htk⟩
      · refine ⟨none, 0, 0, rfl, Nat.le_refl _, hB, rfl, fun b hb => (by cases hb), fun ι' n hn => ?_⟩
        obtain rfl := List.eq_nil_of_length_eq_zero h0
        exact ⟨Nat.one_pos, none, 0, hn, Nat.le_refl _, .inl rfl⟩
      · refine ⟨_, _, _, rfl, hn, hB, rfl, fun b hb => ?_, fun ι' n hn' => row_strs g 0 _ _ hn' (Nat.le_refl _) (fun k hk => ?_) (fun i x hx => ?_)⟩
        · simp only [blk] at hb
          split at hb
          · cases hb
          · obtain rfl := Option.some.inj hb; exact hg
        · rw [Nat.zero_add, Lib.cell_of_heap hh]
          exact ⟨⟨_, Array.getElem?_eq_getElem (by omega)⟩, Lib.frozen_of_heap hh k⟩
        · rw [Nat.zero_add, Lib.cell_of_heap hh, ← Array.getElem?_toList]
          have hi := (List.getElem?_eq_some_iff.1 hx).1
          have h3 : (cur.toList.take (xs.length * 1))[i]? = some (.string (mkB x)) := by
            rw [htk, List.getElem?_map, List.getElem?_map, hx]; rfl
          rwa [List.getElem?_take_of_lt (by omega)] at h3
    rcases hx with rfl | ⟨b, o, rfl, hb, hc⟩
    · cases p with
      | none =>
        refine (Tryz.slices_Clone_string_nil 0 cap w).mono ?_
        rintro e w' ⟨rfl, rfl⟩
        exact own _ _ ⟨rfl, .inl ⟨rfl, rfl⟩⟩ (.refl _ _)
      | some a =>
        refine (Tryz.slices_Clone_string_zero a cap w).mono ?_
        rintro e w' ⟨v', rfl, ho, _, hB⟩
        exact own _ _ ho hB
    · refine (Tryz.slices_Clone_string b o xs.length cap (xs.map mkB) w (by simp) (by omega) (fun j hj => ?_)).mono ?_
      · rw [List.getD_eq_getElem?_getD, List.getElem?_eq_getElem hj]
        exact hc j _ (List.getElem?_eq_getElem hj)
      · rintro e w' ⟨v', rfl, ho, _, hB⟩
        have ht : (xs.map mkB).take xs.length = xs.map mkB := List.take_of_length_le (by simp)
        rw [ht] at ho
        exact own _ _ ho hB
  obtain ⟨V, rfl, hV⟩ := all2_one hA
  have hl : xs.length ≤ 1073741824 ∧ ys = xs := by
    simp only [x_impl_clone_string] at hF
    split at hF
    · rename_i h; injection hF with e; injection e with e1 e2; exact ⟨h, e1.symm⟩
    · cases hF
  obtain ⟨hl, rfl⟩ := hl
  exact key _ V hl hV
end Go.Proofs.YtkpkfidlkmjkeaaGreatDoorQ
/- The context: types, entries, calls. Printed by eqs.py. -/
set_option maxRecDepth 100000
namespace Go.VM.T0
open Go.Proofs Go.VM
noncomputable def tys : List (Nat × Ty) := [(2, (.int .i64)),
 (3, (.int .i64)),
 (4, .bool),
 (5, (.int .u8)),
 (6, (.int .u8)),
 (7, (.pair (.int .i64) (.pair (.int .i64) (.pair .bool (.pair (.int .u8) .unit))))),
 (8, (.pair (.int .i64) (.pair (.int .i64) (.pair .bool (.pair (.int .u8) .unit))))),
 (9, .str),
 (10, .str),
 (11, .str),
 (12, (.int .u64)),
 (13, (.pair .str (.pair (.int .u64) .unit))),
 (14, (.pair .str (.pair (.int .u64) .unit))),
 (21, (.int .i32)),
 (22, (.pair (.int .i64) (.pair .str (.pair (.int .i64) .unit)))),
 (23, (.pair (.int .i64) (.pair .str (.pair (.int .i64) .unit)))),
 (24, (.lst .str)),
 (25, (.pair .str (.pair .str (.pair .str (.pair (.pair (.int .i64) (.pair .str (.pair (.int .i64) .unit))) (.pair (.int .i64) (.pair (.lst .str) (.pair .str (.pair .bool (.pair .str (.pair .bool (.pair .str .unit)))))))))))),
 (26, (.pair .str (.pair .str (.pair .str (.pair (.pair (.int .i64) (.pair .str (.pair (.int .i64) .unit))) (.pair (.int .i64) (.pair (.lst .str) (.pair .str (.pair .bool (.pair .str (.pair .bool (.pair .str .unit)))))))))))),
 (28, (.pair .str (.pair .str (.pair .str (.pair .bool (.pair .str (.pair (.int .i64) (.pair .bool (.pair (.int .i64) (.pair (.int .i64) .unit)))))))))),
 (29, (.pair .str (.pair .str (.pair .str (.pair .bool (.pair .str (.pair (.int .i64) (.pair .bool (.pair (.int .i64) (.pair (.int .i64) .unit)))))))))),
 (32, (.pair (.int .i64) (.pair .str (.pair (.int .i64) .unit)))),
 (33, (.pair .str (.pair .str (.pair .str (.pair (.pair (.int .i64) (.pair .str (.pair (.int .i64) .unit))) (.pair (.int .i64) (.pair (.lst .str) (.pair .str (.pair .bool (.pair .str (.pair .bool (.pair .str .unit)))))))))))),
 (34, (.pair .str (.pair .str (.pair .str (.pair (.pair (.int .i64) (.pair .str (.pair (.int .i64) .unit))) (.pair (.int .i64) (.pair (.lst .str) (.pair .str (.pair .bool (.pair .str (.pair .bool (.pair .str .unit)))))))))))),
 (39, (.lst (.pair .str (.pair .str (.pair .str (.pair .bool (.pair .str (.pair (.int .i64) (.pair .bool (.pair (.int .i64) (.pair (.int .i64) .unit))))))))))),
 (48, (.lst (.pair .str (.pair .str (.pair .str (.pair .bool (.pair .str (.pair (.int .i64) (.pair .bool (.pair (.int .i64) (.pair (.int .i64) .unit))))))))))),
 (57, (.lst (.pair (.pair .str (.pair .str (.pair .str (.pair (.pair (.int .i64) (.pair .str (.pair (.int .i64) .unit))) (.pair (.int .i64) (.pair (.lst .str) (.pair .str (.pair .bool (.pair .str (.pair .bool (.pair .str .unit))))))))))) (.pair (.int .i64) (.pair .str (.pair (.lst .str) .unit)))))),
 (60, (.lst (.pair (.pair .str (.pair .str (.pair .str (.pair (.pair (.int .i64) (.pair .str (.pair (.int .i64) .unit))) (.pair (.int .i64) (.pair (.lst .str) (.pair .str (.pair .bool (.pair .str (.pair .bool (.pair .str .unit))))))))))) (.pair (.int .i64) (.pair .str (.pair (.lst .str) .unit)))))),
 (66, (.pair (.lst .str) .unit)),
 (67, (.pair (.lst .str) .unit)),
 (70, (.pair (.lst .str) .unit)),
 (75, (.lst (.pair (.int .i64) (.pair (.pair .str (.pair .str (.pair .str (.pair (.pair (.int .i64) (.pair .str (.pair (.int .i64) .unit))) (.pair (.int .i64) (.pair (.lst .str) (.pair .str (.pair .bool (.pair .str (.pair .bool (.pair .str .unit))))))))))) (.pair (.int .i64) (.pair (.int .i64) (.pair .str .unit))))))),
 (77, (.lst (.pair (.int .i64) (.pair (.pair .str (.pair .str (.pair .str (.pair (.pair (.int .i64) (.pair .str (.pair (.int .i64) .unit))) (.pair (.int .i64) (.pair (.lst .str) (.pair .str (.pair .bool (.pair .str (.pair .bool (.pair .str .unit))))))))))) (.pair (.int .i64) (.pair (.int .i64) (.pair .str .unit))))))),
 (118, (.pair .str (.pair .str (.pair .str (.pair .bool (.pair .str (.pair (.int .i64) (.pair .bool (.pair (.int .i64) (.pair (.int .i64) .unit)))))))))),
 (123, (.pair .str (.pair (.pair (.int .i64) (.pair .str (.pair (.int .i64) .unit))) (.pair (.int .i64) .unit)))),
 (124, (.pair .str (.pair (.pair (.int .i64) (.pair .str (.pair (.int .i64) .unit))) (.pair (.int .i64) .unit)))),
 (127, (.pair (.pair .str (.pair .str (.pair .str (.pair (.pair (.int .i64) (.pair .str (.pair (.int .i64) .unit))) (.pair (.int .i64) (.pair (.lst .str) (.pair .str (.pair .bool (.pair .str (.pair .bool (.pair .str .unit))))))))))) (.pair (.int .i64) (.pair .str (.pair (.lst .str) .unit))))),
 (128, (.pair (.pair .str (.pair .str (.pair .str (.pair (.pair (.int .i64) (.pair .str (.pair (.int .i64) .unit))) (.pair (.int .i64) (.pair (.lst .str) (.pair .str (.pair .bool (.pair .str (.pair .bool (.pair .str .unit))))))))))) (.pair (.int .i64) (.pair .str (.pair (.lst .str) .unit))))),
 (130, (.pair (.pair .str (.pair .str (.pair .str (.pair (.pair (.int .i64) (.pair .str (.pair (.int .i64) .unit))) (.pair (.int .i64) (.pair (.lst .str) (.pair .str (.pair .bool (.pair .str (.pair .bool (.pair .str .unit))))))))))) (.pair (.int .i64) (.pair .str (.pair (.lst .str) .unit))))),
 (131, (.pair (.pair .str (.pair .str (.pair .str (.pair (.pair (.int .i64) (.pair .str (.pair (.int .i64) .unit))) (.pair (.int .i64) (.pair (.lst .str) (.pair .str (.pair .bool (.pair .str (.pair .bool (.pair .str .unit))))))))))) (.pair (.int .i64) (.pair .str (.pair (.lst .str) .unit))))),
 (137, (.pair (.int .i64) (.pair (.pair .str (.pair .str (.pair .str (.pair (.pair (.int .i64) (.pair .str (.pair (.int .i64) .unit))) (.pair (.int .i64) (.pair (.lst .str) (.pair .str (.pair .bool (.pair .str (.pair .bool (.pair .str .unit))))))))))) (.pair (.int .i64) (.pair (.int .i64) (.pair .str .unit)))))),
 (138, (.pair (.int .i64) (.pair (.pair .str (.pair .str (.pair .str (.pair (.pair (.int .i64) (.pair .str (.pair (.int .i64) .unit))) (.pair (.int .i64) (.pair (.lst .str) (.pair .str (.pair .bool (.pair .str (.pair .bool (.pair .str .unit))))))))))) (.pair (.int .i64) (.pair (.int .i64) (.pair .str .unit)))))),
 (139, (.pair (.int .i64) (.pair (.pair .str (.pair .str (.pair .str (.pair (.pair (.int .i64) (.pair .str (.pair (.int .i64) .unit))) (.pair (.int .i64) (.pair (.lst .str) (.pair .str (.pair .bool (.pair .str (.pair .bool (.pair .str .unit))))))))))) (.pair (.int .i64) (.pair (.int .i64) (.pair .str .unit)))))),
 (140, (.pair (.int .i64) (.pair (.pair .str (.pair .str (.pair .str (.pair (.pair (.int .i64) (.pair .str (.pair (.int .i64) .unit))) (.pair (.int .i64) (.pair (.lst .str) (.pair .str (.pair .bool (.pair .str (.pair .bool (.pair .str .unit))))))))))) (.pair (.int .i64) (.pair (.int .i64) (.pair .str .unit)))))),
 (163, (.lst (.int .u8))),
 (194, (.int .u64)),
 (213, (.int .i64)),
 (230, (.int .u64)),
 (236, (.int .u32)),
 (240, (.pair (.int .u8) (.pair (.int .u8) .unit))),
 (241, (.pair (.int .u8) (.pair (.int .u8) .unit))),
 (257, (.pair .str .unit)),
 (258, (.pair .str .unit)),
 (268, (.int .u8)),
 (269, (.int .u8)),
 (271, (.int .i32)),
 (272, (.int .i32))]
noncomputable def eqs : List (Nat × Ty) := [(32, (.pair (.int .i64) (.pair .str (.pair (.int .i64) .unit)))), (124, (.pair .str (.pair (.pair (.int .i64) (.pair .str (.pair (.int .i64) .unit))) (.pair (.int .i64) .unit))))]
/-- impl.percent -/
noncomputable def e301 : Ent := ⟨⟨[((.int .u8), 0)], [(.str, true)]⟩, none, Tryz.f301, []⟩
/-- impl.hex -/
noncomputable def e186 : Ent := ⟨⟨[((.int .u8), 0)], [((.int .i64), true)]⟩, none, Tryz.f186, []⟩
/-- impl.in -/
noncomputable def e78 : Ent := ⟨⟨[((.int .i64), 0), ((.int .i64), 0), ((.int .i64), 0)], [(.bool, true)]⟩, none, Tryz.f78, []⟩
noncomputable def Γ : Ctx := { tys := tys, globs := [], ents := [(301, e301), (186, e186), (78, e78)], eqs := eqs }
noncomputable def c_impl_percent (n : Nat) (x0 : Int) : Option (Bs × Unit) := call Γ n 301 (x0, ())
noncomputable def c_impl_hex (n : Nat) (x0 : Int) : Option (Int × Unit) := call Γ n 186 (x0, ())
noncomputable def c_impl_in (n : Nat) (x0 : Int) (x1 : Int) (x2 : Int) : Option (Bool × Unit) := call Γ n 78 (x0, x1, x2, ())
end Go.VM.T0
/- The functions' models and equations. Printed by eqs.py. -/
set_option maxRecDepth 100000
set_option linter.unusedVariables false
namespace Go.VM.T0
open Go.Proofs Go.VM
/-! impl.percent -/
noncomputable def m_impl_percent (n : Nat) (x0 : Int) : Option (Bs × Unit) := grd (decide (0 ≤ (4 : Int))) (grd (decide (0 ≤ (x0.fdiv (2 ^ (min (4 : Int).toNat IntKind.u8.bits))))) (grd (decide ((x0.fdiv (2 ^ (min (4 : Int).toNat IntKind.u8.bits))) < (([48, 49, 50, 51, 52, 53, 54, 55, 56, 57, 65, 66, 67, 68, 69, 70] : Bs).length : Int))) (grd (decide (0 ≤ (IntKind.u8.wrap (((BitVec.ofInt IntKind.u8.bits x0 &&& BitVec.ofInt IntKind.u8.bits (15 : Int)).toNat : Int))))) (grd (decide ((IntKind.u8.wrap (((BitVec.ofInt IntKind.u8.bits x0 &&& BitVec.ofInt IntKind.u8.bits (15 : Int)).toNat : Int))) < (([48, 49, 50, 51, 52, 53, 54, 55, 56, 57, 65, 66, 67, 68, 69, 70] : Bs).length : Int))) (some ((strOf ([(37 : Int), (bt ([48, 49, 50, 51, 52, 53, 54, 55, 56, 57, 65, 66, 67, 68, 69, 70] : Bs) (x0.fdiv (2 ^ (min (4 : Int).toNat IntKind.u8.bits)))), (bt ([48, 49, 50, 51, 52, 53, 54, 55, 56, 57, 65, 66, 67, 68, 69, 70] : Bs) (IntKind.u8.wrap (((BitVec.ofInt IntKind.u8.bits x0 &&& BitVec.ofInt IntKind.u8.bits (15 : Int)).toNat : Int))))] : List Int)), ()))))))
theorem eq_impl_percent (n : Nat) (x0 : Int) : c_impl_percent (n + 1) x0 = m_impl_percent n x0 := by kernel_rfl
/-! impl.hex -/
noncomputable def m_impl_hex (n : Nat) (x0 : Int) : Option (Int × Unit) := bif (decide ((48 : Int) ≤ x0)) then (bif (decide (x0 ≤ (57 : Int))) then (some ((IntKind.i64.wrap (IntKind.u8.wrap (x0 - (48 : Int)))), ())) else (bif (decide ((97 : Int) ≤ x0)) then (bif (decide (x0 ≤ (102 : Int))) then (some ((IntKind.i64.wrap ((IntKind.i64.wrap (IntKind.u8.wrap (x0 - (97 : Int)))) + (10 : Int))), ())) else (bif (decide ((65 : Int) ≤ x0)) then (bif (decide (x0 ≤ (70 : Int))) then (some ((IntKind.i64.wrap ((IntKind.i64.wrap (IntKind.u8.wrap (x0 - (65 : Int)))) + (10 : Int))), ())) else (some ((-1 : Int), ()))) else (some ((-1 : Int), ())))) else (bif (decide ((65 : Int) ≤ x0)) then (bif (decide (x0 ≤ (70 : Int))) then (some ((IntKind.i64.wrap ((IntKind.i64.wrap (IntKind.u8.wrap (x0 - (65 : Int)))) + (10 : Int))), ())) else (some ((-1 : Int), ()))) else (some ((-1 : Int), ()))))) else (bif (decide ((97 : Int) ≤ x0)) then (bif (decide (x0 ≤ (102 : Int))) then (some ((IntKind.i64.wrap ((IntKind.i64.wrap (IntKind.u8.wrap (x0 - (97 : Int)))) + (10 : Int))), ())) else (bif (decide ((65 : Int) ≤ x0)) then (bif (decide (x0 ≤ (70 : Int))) then (some ((IntKind.i64.wrap ((IntKind.i64.wrap (IntKind.u8.wrap (x0 - (65 : Int)))) + (10 : Int))), ())) else (some ((-1 : Int), ()))) else (some ((-1 : Int), ())))) else (bif (decide ((65 : Int) ≤ x0)) then (bif (decide (x0 ≤ (70 : Int))) then (some ((IntKind.i64.wrap ((IntKind.i64.wrap (IntKind.u8.wrap (x0 - (65 : Int)))) + (10 : Int))), ())) else (some ((-1 : Int), ()))) else (some ((-1 : Int), ()))))
theorem eq_impl_hex (n : Nat) (x0 : Int) : c_impl_hex (n + 1) x0 = m_impl_hex n x0 := by kernel_rfl
/-! impl.in -/
noncomputable def m_impl_in (n : Nat) (x0 : Int) (x1 : Int) (x2 : Int) : Option (Bool × Unit) := bif (decide (x1 ≤ x0)) then (some ((decide (x0 ≤ x2)), ())) else (some (false, ()))
theorem eq_impl_in (n : Nat) (x0 : Int) (x1 : Int) (x2 : Int) : c_impl_in (n + 1) x0 x1 x2 = m_impl_in n x0 x1 x2 := by kernel_rfl
end Go.VM.T0
/- The context is the program's. Printed by eqs.py. -/
set_option maxRecDepth 100000
namespace Go.VM.T0
open Go.Proofs Go.VM
theorem tyOk_ : TyOk Tryz.prog Γ.tys := tyOk (by kernel_rfl)
theorem eqsOk_ : EqsOk Tryz.prog Γ := eqsOk (by kernel_rfl)
theorem k301 : EntOk Tryz.prog Γ 301 e301 := EntOk.fun Tryz.func301 (by kernel_rfl)
theorem k186 : EntOk Tryz.prog Γ 186 e186 := EntOk.fun Tryz.func186 (by kernel_rfl)
theorem k78 : EntOk Tryz.prog Γ 78 e78 := EntOk.fun Tryz.func78 (by kernel_rfl)
theorem entsOk_  : EntsOk Tryz.prog Γ := show EntsOn Tryz.prog Γ Γ.ents from .cons k301 (.cons k186 (.cons k78 (.nil)))
end Go.VM.T0
/- The functions that write into a strings.Builder. -/
namespace Go.Proofs.YtkpkfidlkmjkeaaGreatDoorQ
open Go.VM Go.RowKit
theorem mixed : Tryz.prog.follows .mixedOrders = true := by kernel_rfl
theorem all0 (n g : Nat) : FnOk Tryz.prog T0.Γ g (T0.Γ.ent g).sg (call T0.Γ n g) := call_all mixed T0.tyOk_ T0.eqsOk_ T0.entsOk_ n g
theorem glob0 (θ : Nat → Value) (S : Nat → Prop) (w : World) : GlobOk T0.Γ θ S w := ⟨trivial, fun g p h => by cases h⟩
theorem of256 {p : Nat → Bool} (h : (List.range 256).all p = true) (c : UInt8) : p c.toNat = true := List.all_eq_true.1 h c.toNat (List.mem_range.2 c.toNat_lt)
theorem percent_m (c : UInt8) : T0.m_impl_percent 1 (c.toNat : Int) = some ([37, hexU (c.toNat / 16), hexU (c.toNat % 16)], ()) :=
  of_decide_eq_true (of256 (p := fun n => decide (T0.m_impl_percent 1 (n : Int) = some ([37, hexU (n / 16), hexU (n % 16)], ()))) (by kernel_rfl) c)
theorem hex_m (c : UInt8) : T0.m_impl_hex 1 (c.toNat : Int) = some (hexM c, ()) :=
  (of_decide_eq_true (of256 (p := fun n => decide (T0.m_impl_hex 1 (n : Int) = some (hexM (UInt8.ofNat n), ()))) (by kernel_rfl) c)).trans (by rw [UInt8.ofNat_toNat])
theorem percent_ok (c : UInt8) (w : World) : Calls Tryz.prog 301 #[.int .u8 (c.toNat : Int)] w fun e w' => e = .returned (.string (mkB [37, hexU (c.toNat / 16), hexU (c.toNat % 16)])) ∧ Below w.heap.size w w' := by
  have hk : FnOk Tryz.prog T0.Γ 301 ⟨[(.int .u8, 0)], [(.str, true)]⟩ (call T0.Γ 2 301) := all0 2 301
  refine (calls_flat hk (entersOf Tryz.func301 (by kernel_rfl) rfl) (x := ((c.toNat : Int), ())) ((T0.eq_impl_percent 1 (c.toNat : Int)).trans (percent_m c)) rfl rfl (θ := fun _ => .nilFunc) (ι := fun _ => .nilFunc) (S := fun _ => False)
    (fun _ => rfl) (fun _ => rfl) (fun _ h => h.elim) (glob0 _ _ _) (.cons rfl .nil) (Nat.zero_le _)).mono ?_
  rintro e w' ⟨V, ι', S', rfl, hB, rfl⟩
  exact ⟨rfl, hB⟩
theorem hex_ok (c : UInt8) (w : World) : Calls Tryz.prog 186 #[.int .u8 (c.toNat : Int)] w fun e w' => e = .returned (.int .i64 (hexM c)) ∧ Below w.heap.size w w' := by
  have hk : FnOk Tryz.prog T0.Γ 186 ⟨[(.int .u8, 0)], [(.int .i64, true)]⟩ (call T0.Γ 2 186) := all0 2 186
  refine (calls_flat hk (entersOf Tryz.func186 (by kernel_rfl) rfl) (x := ((c.toNat : Int), ())) ((T0.eq_impl_hex 1 (c.toNat : Int)).trans (hex_m c)) rfl rfl (θ := fun _ => .nilFunc) (ι := fun _ => .nilFunc) (S := fun _ => False)
    (fun _ => rfl) (fun _ => rfl) (fun _ h => h.elim) (glob0 _ _ _) (.cons rfl .nil) (Nat.zero_le _)).mono ?_
  rintro e w' ⟨V, ι', S', rfl, hB, rfl⟩
  exact ⟨rfl, hB⟩
theorem in_m (a b c : Int) : T0.m_impl_in 1 a b c = some (decide (b ≤ a ∧ a ≤ c), ()) := by
  unfold T0.m_impl_in
  by_cases h : b ≤ a <;> simp [h]
theorem in_ok (a b c : Int) (w : World) : Calls Tryz.prog 78 #[.int .i64 a, .int .i64 b, .int .i64 c] w fun e w' => e = .returned (.bool (decide (b ≤ a ∧ a ≤ c))) ∧ Below w.heap.size w w' := by
  have hk : FnOk Tryz.prog T0.Γ 78 ⟨[(.int .i64, 0), (.int .i64, 0), (.int .i64, 0)], [(.bool, true)]⟩ (call T0.Γ 2 78) := all0 2 78
  refine (calls_flat hk (entersOf Tryz.func78 (by kernel_rfl) rfl) (x := (a, b, c, ())) ((T0.eq_impl_in 1 a b c).trans (in_m a b c)) rfl rfl (θ := fun _ => .nilFunc) (ι := fun _ => .nilFunc) (S := fun _ => False)
    (fun _ => rfl) (fun _ => rfl) (fun _ h => h.elim) (glob0 _ _ _) (.cons rfl (.cons rfl (.cons rfl .nil))) (Nat.zero_le _)).mono ?_
  rintro e w' ⟨V, ι', S', rfl, hB, rfl⟩
  exact ⟨rfl, hB⟩
def IsBu (B b : Nat) (l : Bs) (w : World) : Prop := Lib.IsBuilderF 171 5 B b (Lib.byteCells l) w
theorem IsBu.fresh {B b : Nat} {w : World} (h : w.heap[b]? = some (.cells #[.pointer none, .slice none 0 0] 171 (0, 0))) (hB : B ≤ b) : IsBu B b [] w :=
  .inl ⟨hB, _, h, ⟨by simp [Lib.byteCells], .inl ⟨rfl, rfl⟩⟩, by intro h; cases h⟩
theorem IsBu.lt {B b : Nat} {l : Bs} {w : World} (h : IsBu B b l w) : b < w.heap.size := h.elim (fun x => x.lt) (fun x => x.lt)
theorem IsBu.below {B b : Nat} {l : Bs} {w w' : World} (h : IsBu B b l w) (hb : Below w.heap.size w w') : IsBu B b l w' := by
  have same : ∀ {k o}, w.heap[k]? = some o → w'.heap[k]? = some o := fun {k o} hk => (hb.block k (by
    rcases Nat.lt_or_ge k w.heap.size with h | h
    · exact h
    · rw [Array.getElem?_eq_none h] at hk; cases hk)).trans hk
  have at_ : ∀ {p bs}, Lib.BuilderAtF 171 5 B b p bs w → Lib.BuilderAtF 171 5 B b p bs w' := by
    rintro p bs ⟨h1, v, h2, h3, h4⟩
    refine ⟨h1, v, same h2, ⟨h3.1, ?_⟩, h4⟩
    rcases h3.2 with h5 | ⟨g, cap, cur, fz, e1, e2, e3, e4⟩
    · exact .inl h5
    · exact .inr ⟨g, cap, cur, fz, e1, e2, same e3, e4⟩
  exact h.elim (fun x => .inl (at_ x)) (fun x => .inr (at_ x))
theorem writeS (B b : Nat) (l s : Bs) (w : World) (h : IsBu B b l w) (hB : B ≤ w.heap.size) (hl : l.length + s.length ≤ 140737488355328) :
    Calls Tryz.prog 189 #[.pointer (some ⟨b, 0, none⟩), .string (mkB s)] w fun e w' => e = .returned (.tuple #[.int .i64 s.length, .nilIface]) ∧ IsBu B b (l ++ s) w' ∧ Below B w w' := by
  refine (Tryz.Builder_WriteString_kB B b _ (mkB s) w h (by rw [Lib.byteCells_length]; exact hl) hB).mono ?_
  rintro e w' ⟨rfl, h1, h2, h3⟩
  refine ⟨rfl, .inr ?_, h2⟩
  rw [Lib.strCells_eq, ← Lib.byteCells_append] at h1
  exact h1
theorem writeB (B b : Nat) (l : Bs) (c : UInt8) (n : Int) (w : World) (h : IsBu B b l w) (hB : B ≤ w.heap.size) (hl : l.length + 1 ≤ 140737488355328) (hn : n = (c.toNat : Int)) :
    Calls Tryz.prog 302 #[.pointer (some ⟨b, 0, none⟩), .int .u8 n] w fun e w' => e = .returned .nilIface ∧ IsBu B b (l ++ [c]) w' ∧ Below B w w' := by
  subst hn
  refine (Tryz.Builder_WriteByte_kB B b _ _ w h (by rw [Lib.byteCells_length]; exact hl) hB).mono ?_
  rintro e w' ⟨rfl, h1, h2, h3⟩
  refine ⟨rfl, .inr ?_, h2⟩
  rw [Lib.byteCells_append]
  exact h1
theorem theStr (B b : Nat) (l : Bs) (w : World) (h : IsBu B b l w) (hB : B ≤ w.heap.size) :
    Calls Tryz.prog 193 #[.pointer (some ⟨b, 0, none⟩)] w fun e w' => e = .returned (.string (mkB l)) ∧ Below B w w' := by
  refine (Tryz.Builder_String_any_k B b l w h hB).mono ?_
  rintro e w' ⟨rfl, h1, h2, h3⟩
  exact ⟨rfl, h2⟩
theorem path_take (xs : List Bs) (i : Nat) (x : Bs) (h : xs[i]? = some x) : pathM (xs.take (i + 1)) = pathM (xs.take i) ++ (47 :: x) := by
  have app : ∀ l m : List Bs, pathM (l ++ m) = pathM l ++ pathM m := fun l m => by
    induction l with
    | nil => rfl
    | cons s l ih => simp [pathM, ih]
  obtain ⟨hi, rfl⟩ := List.getElem?_eq_some_iff.1 h
  rw [List.take_succ_eq_append_getElem hi, app]
  simp [pathM]
theorem path_le (xs : List Bs) (i : Nat) : (pathM (xs.take i)).length ≤ (pathM xs).length := by
  have app : ∀ l m : List Bs, pathM (l ++ m) = pathM l ++ pathM m := fun l m => by
    induction l with
    | nil => rfl
    | cons s l ih => simp [pathM, ih]
  conv => rhs; rw [← List.take_append_drop i xs]
  rw [app, List.length_append]
  omega
theorem path_len : ∀ xs : List Bs, xs.length ≤ (pathM xs).length
  | [] => Nat.le_refl _
  | s :: l => by have := path_len l; simp [pathM]; omega
set_option maxRecDepth 100000 in
set_option maxHeartbeats 1000000 in
theorem path_ok (xs : List Bs) (A : Option Addr) (c : Nat) (w : World) (hl : (pathM xs).length ≤ 1073741824) (hc : xs.length ≤ c)
    (hx : xs = [] ∨ ∃ b o, A = some ⟨b, o, none⟩ ∧ b < w.heap.size ∧ ∀ (i : Nat) x, (xs.map mkB)[i]? = some x → w.cell? ⟨b, o + i, none⟩ = some (.string x)) :
    Calls Tryz.prog 119 #[.slice A xs.length c] w fun e w' => e = .returned (.string (mkB (pathM xs))) ∧ Below w.heap.size w w' := by
  have HX := Hid.mk hx
  have hlen := path_len xs
  clear hx
  go_enter Tryz.func119, Tryz.ntmps119
  go_wp2
  go_loopg [8] xs.length (fun gf v8 wx => ∃ i : Nat, v8 = .int .i64 i ∧ i + gf = xs.length ∧ IsBu w.heap.size w.heap.size (pathM (xs.take i)) wx ∧ Below w.heap.size w wx)
  case atStart => exact ⟨0, rfl, by omega, IsBu.fresh (heap_alloc_new _ _) (Nat.le_refl _), (Below.refl _ _).alloc (Nat.le_refl _) _⟩
  case round =>
    obtain ⟨i, rfl, hi, hbu, hb⟩ := hrel
    by_cases hlt : i < xs.length
    · obtain ⟨g', rfl⟩ : ∃ g', gk = g' + 1 := ⟨gk - 1, by omega⟩
      obtain ⟨b, o, rfl, hbl, hcell⟩ := HX.out.resolve_left (fun h => by subst h; simp at hlt)
      obtain ⟨x, hxi⟩ : ∃ x, xs[i]? = some x := ⟨_, List.getElem?_eq_getElem hlt⟩
      have hci : wr.cell? ⟨b, o + i, none⟩ = some (.string (mkB x)) := by
        rw [hb.cell (p := ⟨b, o + i, none⟩) hbl]
        exact hcell i _ (by rw [List.getElem?_map, hxi]; rfl)
      have hpt := path_take xs i x hxi
      have hple := path_le xs (i + 1)
      have hplen : (pathM (xs.take (i + 1))).length = (pathM (xs.take i)).length + (x.length + 1) := by rw [hpt]; simp
      go_wp2_with (go_at_call 189; refine (writeS _ _ _ (47 :: x) _ hbu hb.size (by simp; omega)).mono ?_; rintro e w1 ⟨rfl, hbu1, hb1⟩)
      go_roundg g'
      case measure => omega
      case rel => exact ⟨i + 1, by simp, by omega, by rw [hpt]; exact hbu1, hb.trans hb1⟩
    · obtain rfl : i = xs.length := by omega
      rw [List.take_length] at hbu
      go_wp2_with (go_at_call 193; refine (theStr _ _ _ _ hbu hb.size).mono ?_; rintro e w1 ⟨rfl, hb1⟩)
      go_ret
      exact ⟨rfl, hb.trans hb1⟩
theorem enc_take (any l : Bs) (i : Nat) (c : UInt8) (h : l[i]? = some c) : encM any (l.take (i + 1)) = encM any (l.take i) ++ encB any c := by
  obtain ⟨hi, rfl⟩ := List.getElem?_eq_some_iff.1 h
  rw [List.take_succ_eq_append_getElem hi]
  unfold encM
  rw [List.flatMap_append]
  simp
theorem encB_len (any : Bs) (c : UInt8) : (encB any c).length ≤ 3 := by unfold encB; split <;> simp
theorem encM_len (any : Bs) : ∀ l : Bs, (encM any l).length ≤ 3 * l.length
  | [] => by simp [encM]
  | c :: l => by
    have := encM_len any l
    have := encB_len any c
    simp only [encM, List.flatMap_cons, List.length_append, List.length_cons] at *
    omega
theorem index_ge : ∀ (any : Bs) (c : UInt8), decide (0 ≤ Lib.indexByte any c) = any.contains c
  | [], c => rfl
  | b :: l, c => by
    have ih := index_ge l c
    have hg := Lib.indexByte_ge l c
    rw [List.contains_cons, ← ih]
    show decide (0 ≤ (if b == c then 0 else if Lib.indexByte l c == -1 then -1 else Lib.indexByte l c + 1)) = _
    by_cases h : b = c
    · subst h; simp
    · have h1 : (b == c) = false := by simpa using h
      have h2 : (c == b) = false := by simpa using Ne.symm h
      rw [h1, h2, Bool.false_or, if_neg (by simp)]
      by_cases h3 : Lib.indexByte l c = -1
      · rw [h3]; rfl
      · have h4 : (Lib.indexByte l c == -1) = false := by simpa using h3
        rw [h4, if_neg (by simp)]
        exact decide_eq_decide.2 ⟨fun _ => by omega, fun _ => by omega⟩
set_option maxRecDepth 100000 in
set_option maxHeartbeats 1000000 in
theorem enc_ok (k : Int) (t : Bs) (w : World) (hl : t.length ≤ 1073741824) (any : Bs) (hA : any = if 1 ≤ k ∧ k ≤ 5 then setsL.getD k.toNat [] else [])
    (hs : ∃ b o c, w.cell? ⟨1, 0, none⟩ = some (.slice (some ⟨b, o, none⟩) 6 c) ∧ 1 < w.heap.size ∧ b < w.heap.size ∧ ∀ (i : Nat) x, (setsL.map mkB)[i]? = some x → w.cell? ⟨b, o + i, none⟩ = some (.string x)) :
    Calls Tryz.prog 266 #[.int .i64 k, .string (mkB t)] w fun e w' => e = .returned (.string (mkB (encM any t))) ∧ Below w.heap.size w w' := by
  obtain ⟨sb, so, sc, h1, h2, h3, h4⟩ := hs
  have key : ∀ (b : Bool), decide (1 ≤ k ∧ k ≤ 5) = b → Calls Tryz.prog 266 #[.int .i64 k, .string (mkB t)] w fun e w' => e = .returned (.string (mkB (encM any t))) ∧ Below w.heap.size w w' := by
    intro b hb
    cases b with
    | true =>
      have hk : 1 ≤ k ∧ k ≤ 5 := of_decide_eq_true hb
      rw [if_pos hk] at hA
      obtain ⟨j, rfl⟩ : ∃ j : Nat, k = j := ⟨k.toNat, by omega⟩
      have hj : j < setsL.length := by show j < 6; omega
      have hjc := h4 j (mkB any) (by rw [List.getElem?_map, List.getElem?_eq_getElem hj, hA, List.getD_eq_getElem?_getD, Int.toNat_natCast, List.getElem?_eq_getElem hj]; rfl)
      have hin := in_ok j 1 5
      rw [hb] at hin
      have hj6 : j < 6 := hj
      clear hA
      go_enter Tryz.func266, Tryz.ntmps266
      go_wp2_with (go_at_call 78; refine (hin _).mono ?_; rintro e w1 ⟨rfl, hb1⟩; have g1 := (hb1.cell (p := ⟨1, 0, none⟩) h2).trans h1; have g2 := (hb1.cell (p := ⟨sb, so + j, none⟩) h3).trans hjc)
      go_loopg [17] t.length (fun gf v17 wx => ∃ i : Nat, v17 = .int .i64 i ∧ i + gf = t.length ∧ IsBu w1.heap.size w1.heap.size (encM any (t.take i)) wx ∧ Below w1.heap.size w1 wx)
      case atStart => exact ⟨0, rfl, by omega, IsBu.fresh (heap_alloc_new _ _) (Nat.le_refl _), (Below.refl _ _).alloc (Nat.le_refl _) _⟩
      case round =>
        obtain ⟨i, rfl, hi, hbu, hb⟩ := hrel
        by_cases hlt : i < t.length
        · obtain ⟨g', rfl⟩ : ∃ g', gk = g' + 1 := ⟨gk - 1, by omega⟩
          have hlt' : i < (mkB t).size := hlt
          have hci : t[i]? = some ((mkB t)[i]'hlt') := List.getElem?_eq_getElem hlt
          have het := enc_take any t i _ hci
          have hel := encM_len any (t.take (i + 1))
          rw [het, List.length_append, List.length_take] at hel
          have hyes : ((mkB t)[i]'hlt').toNat < 32 ∨ 126 < ((mkB t)[i]'hlt').toNat ∨ any.contains ((mkB t)[i]'hlt') = true → encB any ((mkB t)[i]'hlt') = [37, hexU (((mkB t)[i]'hlt').toNat / 16), hexU (((mkB t)[i]'hlt').toNat % 16)] := fun h => if_pos h
          have hno : ¬ (((mkB t)[i]'hlt').toNat < 32 ∨ 126 < ((mkB t)[i]'hlt').toNat ∨ any.contains ((mkB t)[i]'hlt') = true) → encB any ((mkB t)[i]'hlt') = [(mkB t)[i]'hlt'] := fun h => if_neg h
          have hix := index_ge any ((mkB t)[i]'hlt')
          by_cases c1 : ((mkB t)[i]'hlt').toNat < 32
          · have c1b : decide ((((mkB t)[i]'hlt').toNat : Int) < 32) = true := decide_eq_true (by omega)
            have he := hyes (.inl c1)
            rw [he] at het hel
            clear hyes hno hix
            go_wp2_with (first | (go_at_call 301; refine (percent_ok _ _).mono ?_; rintro e w2 ⟨rfl, hb2⟩) | (go_at_call 189; refine (writeS _ _ _ _ _ (hbu.below hb2) (Nat.le_trans hb.size hb2.size) ?hx).mono ?_; (case hx => simp; omega); rintro e w3 ⟨rfl, hbu3, hb3⟩))
            go_roundg g'
            case measure => omega
            case rel => exact ⟨i + 1, by simp, by omega, by rw [het]; exact hbu3, (hb.trans (hb2.mono hb.size)).trans hb3⟩
          · have c1b : decide ((((mkB t)[i]'hlt').toNat : Int) < 32) = false := decide_eq_false (by omega)
            by_cases c2 : 126 < ((mkB t)[i]'hlt').toNat
            · have c2b : decide ((((mkB t)[i]'hlt').toNat : Int) > 126) = true := decide_eq_true (by omega)
              have he := hyes (.inr (.inl c2))
              rw [he] at het hel
              clear hyes hno hix
              go_wp2_with (first | (go_at_call 301; refine (percent_ok _ _).mono ?_; rintro e w2 ⟨rfl, hb2⟩) | (go_at_call 189; refine (writeS _ _ _ _ _ (hbu.below hb2) (Nat.le_trans hb.size hb2.size) ?hx).mono ?_; (case hx => simp; omega); rintro e w3 ⟨rfl, hbu3, hb3⟩))
              go_roundg g'
              case measure => omega
              case rel => exact ⟨i + 1, by simp, by omega, by rw [het]; exact hbu3, (hb.trans (hb2.mono hb.size)).trans hb3⟩
            · have c2b : decide ((((mkB t)[i]'hlt').toNat : Int) > 126) = false := decide_eq_false (by omega)
              by_cases c3 : any.contains ((mkB t)[i]'hlt') = true
              · have he := hyes (.inr (.inr c3))
                rw [he] at het hel
                rw [c3] at hix
                clear hyes hno
                go_wp2_with (first | (go_at_call 178; refine (Tryz.strings_IndexByte _ _ _).mono ?_; rintro e w4 ⟨rfl, rfl⟩) | (go_at_call 301; refine (percent_ok _ _).mono ?_; rintro e w2 ⟨rfl, hb2⟩) | (go_at_call 189; refine (writeS _ _ _ _ _ (hbu.below hb2) (Nat.le_trans hb.size hb2.size) ?hx).mono ?_; (case hx => simp; omega); rintro e w3 ⟨rfl, hbu3, hb3⟩))
                go_roundg g'
                case measure => omega
                case rel => exact ⟨i + 1, by simp, by omega, by rw [het]; exact hbu3, (hb.trans (hb2.mono hb.size)).trans hb3⟩
              · have he := hno (by rintro (h | h | h) <;> contradiction)
                rw [he] at het hel
                have c3f : any.contains ((mkB t)[i]'hlt') = false := by simpa using c3
                rw [c3f] at hix
                clear hyes hno
                go_wp2_with (first | (go_at_call 178; refine (Tryz.strings_IndexByte _ _ _).mono ?_; rintro e w4 ⟨rfl, rfl⟩) | (go_at_call 302; refine (writeB _ _ _ ((mkB t)[i]'hlt') _ _ hbu hb.size ?hx rfl).mono ?_; (case hx => simp; omega); rintro e w3 ⟨rfl, hbu3, hb3⟩))
                go_roundg g'
                case measure => omega
                case rel => exact ⟨i + 1, by simp, by omega, by rw [het]; exact hbu3, hb.trans hb3⟩
        · obtain rfl : i = t.length := by omega
          rw [List.take_length] at hbu
          go_wp2_with (go_at_call 193; refine (theStr _ _ _ _ hbu hb.size).mono ?_; rintro e w5 ⟨rfl, hb5⟩)
          go_ret
          exact ⟨rfl, hb1.trans ((hb.trans hb5).mono hb1.size)⟩
    | false =>
      have hk : ¬ (1 ≤ k ∧ k ≤ 5) := of_decide_eq_false hb
      rw [if_neg hk] at hA
      subst hA
      have hin := in_ok k 1 5
      rw [hb] at hin
      go_enter Tryz.func266, Tryz.ntmps266
      go_wp2_with (go_at_call 78; refine (hin _).mono ?_; rintro e w1 ⟨rfl, hb1⟩)
      go_loopg [17] t.length (fun gf v17 wx => ∃ i : Nat, v17 = .int .i64 i ∧ i + gf = t.length ∧ IsBu w1.heap.size w1.heap.size (encM [] (t.take i)) wx ∧ Below w1.heap.size w1 wx)
      case atStart => exact ⟨0, rfl, by omega, IsBu.fresh (heap_alloc_new _ _) (Nat.le_refl _), (Below.refl _ _).alloc (Nat.le_refl _) _⟩
      case round =>
        obtain ⟨i, rfl, hi, hbu, hb⟩ := hrel
        by_cases hlt : i < t.length
        · obtain ⟨g', rfl⟩ : ∃ g', gk = g' + 1 := ⟨gk - 1, by omega⟩
          have hlt' : i < (mkB t).size := hlt
          have hci : t[i]? = some ((mkB t)[i]'hlt') := List.getElem?_eq_getElem hlt
          have het := enc_take [] t i _ hci
          have hel := encM_len [] (t.take (i + 1))
          rw [het, List.length_append, List.length_take] at hel
          have hyes : ((mkB t)[i]'hlt').toNat < 32 ∨ 126 < ((mkB t)[i]'hlt').toNat ∨ ([] : Bs).contains ((mkB t)[i]'hlt') = true → encB [] ((mkB t)[i]'hlt') = [37, hexU (((mkB t)[i]'hlt').toNat / 16), hexU (((mkB t)[i]'hlt').toNat % 16)] := fun h => if_pos h
          have hno : ¬ (((mkB t)[i]'hlt').toNat < 32 ∨ 126 < ((mkB t)[i]'hlt').toNat ∨ ([] : Bs).contains ((mkB t)[i]'hlt') = true) → encB [] ((mkB t)[i]'hlt') = [(mkB t)[i]'hlt'] := fun h => if_neg h
          have hix := index_ge [] ((mkB t)[i]'hlt')
          by_cases c1 : ((mkB t)[i]'hlt').toNat < 32
          · have c1b : decide ((((mkB t)[i]'hlt').toNat : Int) < 32) = true := decide_eq_true (by omega)
            have he := hyes (.inl c1)
            rw [he] at het hel
            clear hyes hno hix
            go_wp2_with (first | (go_at_call 301; refine (percent_ok _ _).mono ?_; rintro e w2 ⟨rfl, hb2⟩) | (go_at_call 189; refine (writeS _ _ _ _ _ (hbu.below hb2) (Nat.le_trans hb.size hb2.size) ?hx).mono ?_; (case hx => simp; omega); rintro e w3 ⟨rfl, hbu3, hb3⟩))
            go_roundg g'
            case measure => omega
            case rel => exact ⟨i + 1, by simp, by omega, by rw [het]; exact hbu3, (hb.trans (hb2.mono hb.size)).trans hb3⟩
          · have c1b : decide ((((mkB t)[i]'hlt').toNat : Int) < 32) = false := decide_eq_false (by omega)
            by_cases c2 : 126 < ((mkB t)[i]'hlt').toNat
            · have c2b : decide ((((mkB t)[i]'hlt').toNat : Int) > 126) = true := decide_eq_true (by omega)
              have he := hyes (.inr (.inl c2))
              rw [he] at het hel
              clear hyes hno hix
              go_wp2_with (first | (go_at_call 301; refine (percent_ok _ _).mono ?_; rintro e w2 ⟨rfl, hb2⟩) | (go_at_call 189; refine (writeS _ _ _ _ _ (hbu.below hb2) (Nat.le_trans hb.size hb2.size) ?hx).mono ?_; (case hx => simp; omega); rintro e w3 ⟨rfl, hbu3, hb3⟩))
              go_roundg g'
              case measure => omega
              case rel => exact ⟨i + 1, by simp, by omega, by rw [het]; exact hbu3, (hb.trans (hb2.mono hb.size)).trans hb3⟩
            · have c2b : decide ((((mkB t)[i]'hlt').toNat : Int) > 126) = false := decide_eq_false (by omega)
              by_cases c3 : ([] : Bs).contains ((mkB t)[i]'hlt') = true
              · exact absurd c3 (by simp)
              · have he := hno (by rintro (h | h | h) <;> contradiction)
                rw [he] at het hel
                have hix2 : Lib.indexByte [] ((mkB t)[i]'hlt') < 0 := (show (-1 : Int) < 0 by decide)
                clear hyes hno
                go_wp2_with (first | (go_at_call 178; refine (Tryz.strings_IndexByte _ _ _).mono ?_; rintro e w4 ⟨rfl, rfl⟩) | (go_at_call 302; refine (writeB _ _ _ ((mkB t)[i]'hlt') _ _ hbu hb.size ?hx rfl).mono ?_; (case hx => simp; omega); rintro e w3 ⟨rfl, hbu3, hb3⟩))
                go_roundg g'
                case measure => omega
                case rel => exact ⟨i + 1, by simp, by omega, by rw [het]; exact hbu3, hb.trans hb3⟩
        · obtain rfl : i = t.length := by omega
          rw [List.take_length] at hbu
          go_wp2_with (go_at_call 193; refine (theStr _ _ _ _ hbu hb.size).mono ?_; rintro e w5 ⟨rfl, hb5⟩)
          go_ret
          exact ⟨rfl, hb1.trans ((hb.trans hb5).mono hb1.size)⟩
  exact key _ rfl
theorem IsBu.drew {B b : Nat} {l : Bs} {w : World} (h : IsBu B b l w) : IsBu B b l w.drew := h.below (Below.refl _ _).drew
theorem hexM_le (c : UInt8) : hexM c ≤ 15 := by
  unfold hexM
  repeat' split
  all_goals omega
theorem hexB_int (a b : UInt8) (ha : 0 ≤ hexM a) (hb : 0 ≤ hexM b) : ((hexB a b).toNat : Int) = 16 * hexM a + hexM b := by
  have h1 := hexM_le a
  have h2 := hexM_le b
  unfold hexB
  rw [UInt8.toNat_ofNat']
  omega
theorem decM_pct (a b : UInt8) (r : Bs) (ha : 0 ≤ hexM a) (hb : 0 ≤ hexM b) : decM (37 :: a :: b :: r) = hexB a b :: decM r := by
  rw [decM]; simp [ha, hb]
theorem decM_one (c : UInt8) (l : Bs) (h : ¬ (c = 37 ∧ ∃ a b r, l = a :: b :: r ∧ 0 ≤ hexM a ∧ 0 ≤ hexM b)) : decM (c :: l) = c :: decM l := by
  by_cases hc : c = 37
  · subst hc
    match l, h with
    | [], _ => rfl
    | [a], _ => rfl
    | a :: b :: r, h =>
      rw [decM, if_neg]
      rintro ⟨h1, h2⟩
      exact h ⟨rfl, a, b, r, rfl, h1, h2⟩
  · rw [decM]
    intro a b h1 h2
    exact absurd h2 hc
theorem dec_len (l : Bs) : (decM l).length ≤ l.length := by
  have key : ∀ n (l : Bs), l.length ≤ n → (decM l).length ≤ l.length := by
    intro n
    induction n with
    | zero => intro l hl; cases l with
      | nil => simp [decM]
      | cons c l => simp at hl
    | succ n ih =>
      intro l hl
      cases l with
      | nil => simp [decM]
      | cons c l =>
        by_cases h : c = 37 ∧ ∃ a b r, l = a :: b :: r ∧ 0 ≤ hexM a ∧ 0 ≤ hexM b
        · obtain ⟨rfl, a, b, r, rfl, h1, h2⟩ := h
          rw [decM_pct a b r h1 h2]
          have := ih r (by simp at hl; omega)
          simp
          omega
        · rw [decM_one c l h]
          have := ih l (by simpa using hl)
          simpa using this
  exact key _ l (Nat.le_refl _)
theorem drop_at (t : Bs) (i : Nat) (c : UInt8) (h : t[i]? = some c) : t.drop i = c :: t.drop (i + 1) := by
  obtain ⟨hi, rfl⟩ := List.getElem?_eq_some_iff.1 h
  exact List.drop_eq_getElem_cons hi
theorem dec_pct (t : Bs) (i : Nat) (a b c : UInt8) (h0 : t[i]? = some c) (h1 : t[i + 1]? = some a) (h2 : t[i + 2]? = some b) (hc : c = 37) (ha : 0 ≤ hexM a) (hb : 0 ≤ hexM b) : decM (t.drop i) = hexB a b :: decM (t.drop (i + 3)) := by
  subst hc
  rw [drop_at t i _ h0, drop_at t (i + 1) _ h1, drop_at t (i + 2) _ h2, decM_pct a b _ ha hb]
theorem dec_one (t : Bs) (i : Nat) (c : UInt8) (h0 : t[i]? = some c) (h : ¬ (c = 37 ∧ i + 2 < t.length ∧ 0 ≤ hexM (t.getD (i + 1) 0) ∧ 0 ≤ hexM (t.getD (i + 2) 0))) : decM (t.drop i) = c :: decM (t.drop (i + 1)) := by
  rw [drop_at t i _ h0]
  refine decM_one _ _ ?_
  rintro ⟨rfl, a, b, r, hr, ha, hb⟩
  have e1 : t[i + 1]? = some a := by
    have := congrArg (fun l : Bs => l[0]?) hr
    simpa using this
  have e2 : t[i + 2]? = some b := by
    have := congrArg (fun l : Bs => l[1]?) hr
    simpa using this
  refine h ⟨rfl, (List.getElem?_eq_some_iff.1 e2).1, ?_, ?_⟩
  · rw [List.getD_eq_getElem?_getD, e1]; exact ha
  · rw [List.getD_eq_getElem?_getD, e2]; exact hb
set_option maxRecDepth 100000 in
set_option maxHeartbeats 1000000 in
theorem dec_ok (t : Bs) (w : World) :
    Calls Tryz.prog 303 #[.string (mkB t)] w fun e w' => e = .returned (.string (mkB (if t.length ≤ 600 then decM t else []))) ∧ Below w.heap.size w w' := by
  by_cases hl : t.length ≤ 600
  · rw [if_pos hl]
    have hlz : decide ((t.length : Int) > 600) = false := decide_eq_false (by omega)
    go_enter Tryz.func303, Tryz.ntmps303
    go_wp2
    go_loopg [4] t.length (fun gf v4 wx => ∃ i : Nat, v4 = .int .i64 i ∧ i ≤ t.length ∧ t.length ≤ i + gf ∧ Below w.heap.size w wx ∧ ∃ acc, IsBu w.heap.size w.heap.size acc wx ∧ acc ++ decM (t.drop i) = decM t)
    case atStart => exact ⟨0, rfl, by omega, by omega, (Below.refl _ _).alloc (Nat.le_refl _) _, [], IsBu.fresh (heap_alloc_new _ _) (Nat.le_refl _), rfl⟩
    case round =>
      obtain ⟨i, rfl, hi, hgf, hb, acc, hbu, hacc⟩ := hrel
      have hsz : acc.length ≤ 600 := by
        have := congrArg List.length hacc
        rw [List.length_append] at this
        have := dec_len t
        omega
      by_cases hlt : i < t.length
      · obtain ⟨g', rfl⟩ : ∃ g', gk = g' + 1 := ⟨gk - 1, by omega⟩
        have hlt' : i < (mkB t).size := hlt
        have hci : t[i]? = some ((mkB t)[i]'hlt') := List.getElem?_eq_getElem hlt
        by_cases c1 : ((mkB t)[i]'hlt').toNat = 37
        · have c1b : ((((mkB t)[i]'hlt').toNat : Int) == 37) = true := by rw [c1]; rfl
          by_cases c2 : i + 2 < t.length
          · have c2b : decide ((i : Int) + 2 < (t.length : Int)) = true := decide_eq_true (by omega)
            have p1 : (0 : Int) ≤ (i : Int) + 1 := by omega
            have p2 : (i : Int) + 1 < (t.length : Int) := by omega
            have p3 : (0 : Int) ≤ (i : Int) + 2 := by omega
            have p4 : (i : Int) + 2 < (t.length : Int) := by omega
            have hlt1 : i + 1 < (mkB t).size := (by omega : i + 1 < t.length)
            have hlt2 : i + 2 < (mkB t).size := c2
            have hc1 : t[i + 1]? = some ((mkB t)[i + 1]'hlt1) := List.getElem?_eq_getElem (by omega)
            have hc2 : t[i + 2]? = some ((mkB t)[i + 2]'hlt2) := List.getElem?_eq_getElem (by omega)
            by_cases c3 : 0 ≤ hexM ((mkB t)[i + 1]'hlt1)
            · have c3b : decide (hexM ((mkB t)[i + 1]'hlt1) ≥ 0) = true := decide_eq_true c3
              by_cases c4 : 0 ≤ hexM ((mkB t)[i + 2]'hlt2)
              · have c4b : decide (hexM ((mkB t)[i + 2]'hlt2) ≥ 0) = true := decide_eq_true c4
                go_wp2_with (go_at_call 186; refine (hex_ok _ _).mono ?_; rintro e w2 ⟨rfl, hb2⟩; replace hb := hb.trans (hb2.mono hb.size); replace hbu := hbu.below hb2; clear hb2)
                have v1 : IntKind.i64.wrap ((i : Int) + 1) = (i : Int) + 1 := w64 (by omega) (by omega)
                have v2 : IntKind.i64.wrap ((i : Int) + 2) = (i : Int) + 2 := w64 (by omega) (by omega)
                have u1 := hexM_le ((mkB t)[i + 1]'hlt1)
                have u2 := hexM_le ((mkB t)[i + 2]'hlt2)
                have hbi := hexB_int ((mkB t)[i + 1]'hlt1) ((mkB t)[i + 2]'hlt2) c3 c4
                have v3 : IntKind.i64.wrap (16 * hexM ((mkB t)[i + 1]'hlt1)) = 16 * hexM ((mkB t)[i + 1]'hlt1) := w64 (by omega) (by omega)
                have v4 : IntKind.i64.wrap (16 * hexM ((mkB t)[i + 1]'hlt1) + hexM ((mkB t)[i + 2]'hlt2)) = 16 * hexM ((mkB t)[i + 1]'hlt1) + hexM ((mkB t)[i + 2]'hlt2) := w64 (by omega) (by omega)
                have v5 : IntKind.u8.wrap (16 * hexM ((mkB t)[i + 1]'hlt1) + hexM ((mkB t)[i + 2]'hlt2)) = 16 * hexM ((mkB t)[i + 1]'hlt1) + hexM ((mkB t)[i + 2]'hlt2) := w8 (by omega) (by omega)
                have hd := dec_pct t i _ _ _ hci hc1 hc2 (UInt8.toNat_inj.1 c1) c3 c4
                clear hci hc1 hc2
                go_region_held3 (fun _ => True) (trivial) (first
                  | (go_at_call 186; refine (hex_ok _ _).mono ?_; rintro e w2 ⟨rfl, hb2⟩; replace hb := hb.drew.trans (hb2.mono hb.size); replace hbu := hbu.drew.below hb2; clear hb2)
                  | (go_at_call 186; refine (hex_ok _ _).mono ?_; rintro e w2 ⟨rfl, hb2⟩; replace hb := hb.trans (hb2.mono hb.size); replace hbu := hbu.below hb2; clear hb2)
                  | (go_at_call 302; refine (writeB _ _ _ (hexB ((mkB t)[i + 1]'hlt1) ((mkB t)[i + 2]'hlt2)) _ _ hbu hb.size ?hx ?hn).mono ?_; (case hx => omega); (case hn => simp only [show ((i : Int) + 1).toNat = i + 1 by omega, show ((i : Int) + 2).toNat = i + 2 by omega, v3, v4, v5]; exact hbi.symm); rintro e w3 ⟨rfl, hbu3, hb3⟩))
                all_goals
                  go_wp2
                  go_roundg g'
                  case measure => omega
                  case rel => exact ⟨i + 3, by first | rfl | simp | (simp; omega), by omega, by omega, hb.trans hb3, _, hbu3, by rw [← hacc, hd]; simp⟩
              · have c4b : decide (hexM ((mkB t)[i + 2]'hlt2) ≥ 0) = false := decide_eq_false c4
                have hd := dec_one t i _ hci (fun h => c4 (by have := h.2.2.2; rwa [List.getD_eq_getElem?_getD, hc2] at this))
                clear hci
                go_wp2_with (first | (go_at_call 186; refine (hex_ok _ _).mono ?_; rintro e w2 ⟨rfl, hb2⟩; replace hb := hb.trans (hb2.mono hb.size); replace hbu := hbu.below hb2; clear hb2) | (go_at_call 302; refine (writeB _ _ _ ((mkB t)[i]'hlt') _ _ hbu hb.size ?hx (by rw [c1]; rfl)).mono ?_; (case hx => omega); rintro e w3 ⟨rfl, hbu3, hb3⟩))
                go_roundg g'
                case measure => omega
                case rel => exact ⟨i + 1, by simp, by omega, by omega, hb.trans hb3, _, hbu3, by rw [← hacc, hd]; simp⟩
            · have c3b : decide (hexM ((mkB t)[i + 1]'hlt1) ≥ 0) = false := decide_eq_false c3
              have hd := dec_one t i _ hci (fun h => c3 (by have := h.2.2.1; rwa [List.getD_eq_getElem?_getD, hc1] at this))
              clear hci
              go_wp2_with (first | (go_at_call 186; refine (hex_ok _ _).mono ?_; rintro e w2 ⟨rfl, hb2⟩; replace hb := hb.trans (hb2.mono hb.size); replace hbu := hbu.below hb2; clear hb2) | (go_at_call 302; refine (writeB _ _ _ ((mkB t)[i]'hlt') _ _ hbu hb.size ?hx (by rw [c1]; rfl)).mono ?_; (case hx => omega); rintro e w3 ⟨rfl, hbu3, hb3⟩))
              go_roundg g'
              case measure => omega
              case rel => exact ⟨i + 1, by simp, by omega, by omega, hb.trans hb3, _, hbu3, by rw [← hacc, hd]; simp⟩
          · have c2b : decide ((i : Int) + 2 < (t.length : Int)) = false := decide_eq_false (by omega)
            have hd := dec_one t i _ hci (fun h => c2 h.2.1)
            clear hci
            go_wp2_with (first | (go_at_call 186; refine (hex_ok _ _).mono ?_; rintro e w2 ⟨rfl, hb2⟩; replace hb := hb.trans (hb2.mono hb.size); replace hbu := hbu.below hb2; clear hb2) | (go_at_call 302; refine (writeB _ _ _ ((mkB t)[i]'hlt') _ _ hbu hb.size ?hx (by rw [c1]; rfl)).mono ?_; (case hx => omega); rintro e w3 ⟨rfl, hbu3, hb3⟩))
            go_roundg g'
            case measure => omega
            case rel => exact ⟨i + 1, by simp, by omega, by omega, hb.trans hb3, _, hbu3, by rw [← hacc, hd]; simp⟩
        · have c1b : ((((mkB t)[i]'hlt').toNat : Int) == 37) = false := by
            rw [beq_eq_false_iff_ne]; omega
          have hd := dec_one t i _ hci (fun h => c1 (by rw [h.1]; rfl))
          clear hci
          go_wp2_with (first | (go_at_call 186; refine (hex_ok _ _).mono ?_; rintro e w2 ⟨rfl, hb2⟩; replace hb := hb.trans (hb2.mono hb.size); replace hbu := hbu.below hb2; clear hb2) | (go_at_call 302; refine (writeB _ _ _ ((mkB t)[i]'hlt') _ _ hbu hb.size ?hx rfl).mono ?_; (case hx => omega); rintro e w3 ⟨rfl, hbu3, hb3⟩))
          go_roundg g'
          case measure => omega
          case rel => exact ⟨i + 1, by simp, by omega, by omega, hb.trans hb3, _, hbu3, by rw [← hacc, hd]; simp⟩
      · obtain rfl : i = t.length := by omega
        rw [List.drop_length] at hacc
        have hac2 : acc = decM t := by rw [← hacc]; simp [decM]
        subst hac2
        go_wp2_with (go_at_call 193; refine (theStr _ _ _ _ hbu hb.size).mono ?_; rintro e w5 ⟨rfl, hb5⟩)
        go_ret
        exact ⟨rfl, hb.trans hb5⟩
  · rw [if_neg hl]
    have hlz : decide ((t.length : Int) > 600) = true := decide_eq_true (by omega)
    go_enter Tryz.func303, Tryz.ntmps303
    go_wp2
    go_ret
    exact ⟨rfl, Below.refl _ _⟩
end Go.Proofs.YtkpkfidlkmjkeaaGreatDoorQ
/- The functions that write into a strings.Builder, as they are asked for. -/
namespace Go.Proofs.YtkpkfidlkmjkeaaGreatDoorQ
open Go.VM Go.RowKit
variable {Γ : Ctx}
theorem ext_PathPut : FnOk Tryz.prog Γ 119 ⟨[(.lst .str, 0)], [(.str, true)]⟩ x_impl_PathPut := by
  refine fnok_flat (fun _ => rfl) (fun _ _ => rfl) (fun _ => rfl) (entersOf Tryz.func119 (by kernel_rfl) rfl) ?_
  rintro ⟨xs, ⟨⟩⟩ ⟨r, ⟨⟩⟩ hF θ S w ι Vs hGl hS hA
  have key : ∀ (xs : List Bs) (r : Bs), x_impl_PathPut (xs, ()) = some (r, ()) → ∀ V, RepC θ S w (.lst .str) xs [V] →
      Calls Tryz.prog 119 #[V] w fun e w' => e = .returned (.string (mkB r)) ∧ Below w.heap.size w w' := by
    intro xs r hF V hV
    simp only [x_impl_PathPut] at hF
    split at hF
    case isFalse => cases hF
    case isTrue hl =>
      obtain rfl : pathM xs = r := by injection hF with e; injection e
      obtain ⟨p, cap, rfl, hcap, hx⟩ := rep_strs hV
      exact path_ok xs p cap w hl hcap (hx.imp id fun ⟨b, o, h1, h2, h3⟩ => ⟨b, o, h1, hS b h2, h3⟩)
  obtain ⟨x, rfl, hx⟩ := all2_one hA
  refine (key xs r hF x hx).mono ?_
  rintro e w' ⟨rfl, hB⟩
  exact ⟨_, rfl, hB, fun _ _ _ => rfl⟩
theorem ext_Decode : FnOk Tryz.prog Γ 303 ⟨[(.str, 0)], [(.str, true)]⟩ x_impl_Decode := by
  refine fnok_flat (fun _ => rfl) (fun _ _ => rfl) (fun _ => rfl) (entersOf Tryz.func303 (by kernel_rfl) rfl) ?_
  rintro ⟨t, ⟨⟩⟩ ⟨r, ⟨⟩⟩ hF θ S w ι Vs hGl hS hA
  obtain ⟨x, rfl, rfl⟩ := all2_one hA
  refine (dec_ok t w).mono ?_
  rintro e w' ⟨rfl, hB⟩
  refine ⟨_, rfl, hB, fun _ _ _ => ?_⟩
  have key : ∀ t r : Bs, x_impl_Decode (t, ()) = some (r, ()) → (if t.length ≤ 600 then decM t else []) = r := fun t r h => by
    simp only [x_impl_Decode] at h
    split <;> rename_i hl
    · rw [if_pos hl] at h; injection h with e; injection e
    · rw [if_neg hl] at h; injection h with e; injection e
  exact congrArg (fun l => Value.string (mkB l)) (key t r hF)
theorem ext_encode (hg : Go.VM.look Γ.globs 1 = some ⟨.lst .str, setsL⟩) : FnOk Tryz.prog Γ 266 ⟨[(.int .i64, 0), (.str, 0)], [(.str, true)]⟩ x_impl_encode := by
  refine fnok_flat (fun _ => rfl) (fun _ _ => rfl) (fun _ => rfl) (entersOf Tryz.func266 (by kernel_rfl) rfl) ?_
  rintro ⟨k, t, ⟨⟩⟩ ⟨r, ⟨⟩⟩ hF θ S w ι Vs hGl hS hA
  obtain ⟨_, hS1, ws, hR, hC⟩ := hGl.2 _ _ hg
  obtain ⟨V, rfl⟩ : ∃ V, ws = [V] := by
    have := hR.len
    match ws, this with
    | [V], _ => exact ⟨V, rfl⟩
  obtain ⟨p, cap, rfl, hcap, hx⟩ := rep_strs hR
  obtain ⟨b, o, rfl, hb, hc⟩ := hx.resolve_left (by decide)
  have key : ∀ (k : Int) (t r : Bs), x_impl_encode (k, t, ()) = some (r, ()) → Calls Tryz.prog 266 #[.int .i64 k, .string (mkB t)] w fun e w' => e = .returned (.string (mkB r)) ∧ Below w.heap.size w w' := by
    intro k t r hF
    simp only [x_impl_encode] at hF
    split at hF
    case isFalse => cases hF
    case isTrue hl =>
      obtain rfl : encM (if 1 ≤ k ∧ k ≤ 5 then setsL.getD k.toNat [] else []) t = r := by injection hF with e; injection e
      exact enc_ok k t w hl _ rfl ⟨b, o, cap, hC 0 _ rfl, hS _ hS1, hS b hb, hc⟩
  obtain ⟨x, y, rfl, rfl, rfl⟩ := all2_two hA
  refine (key k t r hF).mono ?_
  rintro e w' ⟨rfl, hB⟩
  exact ⟨_, rfl, hB, fun _ _ _ => rfl⟩
end Go.Proofs.YtkpkfidlkmjkeaaGreatDoorQ
/- strings.IndexAny, at whatever bytes. -/
namespace Go.Proofs.YtkpkfidlkmjkeaaGreatDoorQ
open Go.VM Go.RowKit
def btz (s : ByteArray) (i : Int) : Int := if h : i.toNat < s.size then ((s[i.toNat]'h).toNat : Int) else 0
theorem btz_at (s : ByteArray) (i : Int) : ∀ h : i.toNat < s.size, ((s[i.toNat]'h).toNat : Int) = btz s i := fun h => by simp [btz, h]

theorem ascii_at {s : ByteArray} (ha : s.data.toList.all (fun b => b.toNat < 128) = true) (i : Nat) (h : i < s.size) : (s[i]'h).toNat < 128 := by
  rw [List.all_eq_true] at ha
  have := ha (s[i]'h) (List.mem_of_getElem? (i := i) (by rw [List.getElem?_eq_getElem (by simpa using h)]; rfl))
  simpa using this
set_option maxHeartbeats 8000000 in
set_option maxRecDepth 100000 in
theorem rune_high (s : ByteArray) (r : Int) (w : World) (hr : 128 ≤ r) (ha : s.data.toList.all (fun b => b.toNat < 128) = true) (hs : s.size ≤ 8) :
    Calls Tryz.prog 282 #[.string s, .int .i32 r] w fun e w' => e = .returned (.int .i64 (-1)) ∧ Below w.heap.size w w' := by
  have hAt := ascii_at ha
  clear ha
  have c0 : decide ((0 : Int) ≤ r) = true := decide_eq_true (by omega)
  have c1 : decide (r < 128) = false := decide_eq_false (by omega)
  by_cases c2 : r = 65533
  · subst c2
    go_enter Tryz.func282, Tryz.ntmps282
    go_wp2
    go_loopg [] (s.size + 1) (fun gf wx => ∃ pos : Nat, wx.heap[w.heap.size]? = some (.stringIter s pos) ∧ Below w.heap.size w wx ∧ s.size < pos + gf)
    case atStart => exact ⟨0, World.iter_heap w s 0, (Below.refl _ w).alloc (Nat.le_refl _) _, by omega⟩
    case round =>
      obtain ⟨pos, hit, hbw, hfu⟩ := hrel
      by_cases hps : pos < s.size
      · obtain ⟨g', rfl⟩ : ∃ g', gk = g' + 1 := ⟨gk - 1, by omega⟩
        have hlt := hAt pos hps
        have hnx : ∀ ty, (Instr.next (.pointer (some ⟨w.heap.size, 0, none⟩)) true ty).run Tryz.prog wr = _ := fun ty => Lib.run_next_ascii_at wr w.heap.size s pos ty hit hps hlt
        have hit2 := Lib.iterAt_heap wr w.heap.size s pos (pos + 1) hit
        have hbw2 := Lib.below_iterAt hbw (k := w.heap.size) (Nat.le_refl _) s (pos + 1)
        obtain ⟨W, hWd⟩ : ∃ W, wr.iterAt w.heap.size s (pos + 1) = W := ⟨_, rfl⟩
        rw [hWd] at hnx hit2 hbw2
        have c3 : (((s[pos]'hps).toNat : Int) == 65533) = false := by simp; omega
        generalize (s[pos]'hps).toNat = v at hnx c3
        go_wp2
        go_roundg g'
        case measure => omega
        case rel => exact ⟨pos + 1, hit2, hbw2, by omega⟩
      · have hnx : ∀ ty, (Instr.next (.pointer (some ⟨w.heap.size, 0, none⟩)) true ty).run Tryz.prog wr = _ := fun ty => Lib.run_next_end_at wr w.heap.size s pos ty hit hps
        go_wp2
        go_ret
        exact ⟨rfl, hbw⟩
  · have c2b : (r == 65533) = false := beq_eq_false_iff_ne.2 c2
    cases hv : Lib.validRune r
    · go_enter Tryz.func282, Tryz.ntmps282
      go_wp2_with (go_at_call 312; refine (Tryz.utf8_ValidRune r _).mono ?_; rintro e w4 ⟨rfl, rfl⟩; rw [hv])
      go_ret
      exact ⟨rfl, Below.refl _ _⟩
    · have hv2 : Utf8.valid r = true := by
        simp only [Lib.validRune, decide_eq_true_eq] at hv
        simp [Utf8.valid]; omega
      obtain ⟨e1, e2, e3⟩ := encode_facts r hv2 hr
      have hcv : ∀ W, (convert 21 9 (.int .i32 r)).run Tryz.prog W = .ok (.string (Utf8.encode r)) W := fun W => run_convert_int_string W 21 9 .i32 r (by rw [Tryz.underlying21]; rfl) Tryz.underlying9
      generalize hE : Utf8.encode r = E at e1 e2 e3 hcv
      have c4b : decide (0 < (s.size : Int)) = decide (0 < (s.size : Int)) := rfl
      have c5 : decide ((0 : Int) > (0 : Int)) = false := rfl
      by_cases c3 : E.size - 1 < s.size
      · have c3b : decide ((E.size : Int) - 1 < (s.size : Int)) = true := decide_eq_true (by omega)
        obtain ⟨ji, hji⟩ : ∃ j_ : Int, (E.size : Int) - 1 = j_ := ⟨_, rfl⟩
        rw [hji] at c3b
        have p1 : (0 ≤ ji) = True := eq_true (by omega)
        have p2 : (ji < (s.size : Int)) = True := eq_true (by omega)
        have p3 : (ji < (E.size : Int)) = True := eq_true (by omega)
        have q1 : ji.toNat = E.size - 1 := by omega
        have hl := e3 (by omega)
        have hs1 := hAt _ c3
        have b1 : btz s ji < 128 := by
          unfold btz; rw [q1, dif_pos c3]; omega
        have b2 : 128 ≤ btz E ji := by
          unfold btz; rw [q1, dif_pos (by omega)]; omega
        have b3 : btz E ji < 256 := by
          unfold btz; rw [q1, dif_pos (by omega)]; have := (E[E.size - 1]'(by omega)).toNat_lt; omega
        have c6 : (btz s ji != btz E ji) = true := by simp; omega
        have hib : ∀ a b, Lib.indexByte (s.extract a b).data.toList (btz E ji).toNat.toUInt8 = -1 := by
          intro a b
          have h1 := Lib.indexByte_ge (s.extract a b).data.toList (btz E ji).toNat.toUInt8
          by_cases h2 : Lib.indexByte (s.extract a b).data.toList (btz E ji).toNat.toUInt8 = -1
          · exact h2
          · obtain ⟨o, ho⟩ : ∃ o : Nat, Lib.indexByte (s.extract a b).data.toList (btz E ji).toNat.toUInt8 = (o : Int) := ⟨(Lib.indexByte (s.extract a b).data.toList (btz E ji).toNat.toUInt8).toNat, by omega⟩
            have h3 := (Lib.indexByte_some ho).1
            have h4 : (btz E ji).toNat.toUInt8 ∈ s.data.toList := by
              have := List.mem_of_getElem? h3
              rw [ByteArray.data_extract] at this
              simp only [Array.toList_extract, List.extract] at this
              exact List.mem_of_mem_drop (List.mem_of_mem_take this)
            obtain ⟨j, hj, hje⟩ := List.getElem_of_mem h4
            have h5 := hAt j (by simpa using hj)
            have h6 : (s[j]'(by simpa using hj)) = (btz E ji).toNat.toUInt8 := by rw [← hje]; rfl
            rw [h6] at h5
            have h7 : (btz E ji).toNat.toUInt8.toNat = (btz E ji).toNat := by simp; omega
            omega
        have hx1 := btz_at s ji
        have hx2 := btz_at E ji
        have p4 : (0 ≤ (E.size : Int)) = True := eq_true (by omega)
        have p5 : ((E.size : Int) ≤ (s.size : Int)) = True := eq_true (by omega)
        clear hl hs1 q1
        obtain ⟨jk, hjk⟩ : ∃ j_ : Int, ji + 1 = j_ := ⟨_, rfl⟩
        have hjkw : IntKind.i64.wrap jk = jk := w64 (by omega) (by omega)
        have p6 : (0 ≤ jk) = True := eq_true (by omega)
        have p7 : (jk ≤ (s.size : Int)) = True := eq_true (by omega)
        go_enter Tryz.func282, Tryz.ntmps282
        go_wp2_with (go_at_call 312; refine (Tryz.utf8_ValidRune r _).mono ?_; rintro e w4 ⟨rfl, rfl⟩; rw [hv])
        refine wp_scope_straight ?_
        go_wp2
        go_loopg [9, 10] 1 (fun gf v9 v10 w' => v9 = .int .i64 ji ∧ v10 = .int .i64 0 ∧ Below w4.heap.size w4 w')
        case atStart => exact ⟨rfl, rfl, Below.refl _ _⟩
        case round =>
          obtain ⟨rfl, rfl, hb⟩ := hrel
          go_wp2
          refine wp_scope_straight ?_
          go_wp2
          go_quiet (fail)
          go_wp2
          go_quiet (first | (go_at_call 178; refine (Tryz.strings_IndexByte _ _ _).mono ?_; rintro e w1 ⟨rfl, rfl⟩; rw [hib]; exact ⟨rfl, _, rfl⟩))
          go_wp2
          simp only [Exit.then, Exit.noGoto, Exit.inBlock]
          go_ret
          exact ⟨rfl, ⟨hb.os, hb.tape, hb.output, hb.size, hb.block⟩⟩
      · have c3b : decide ((E.size : Int) - 1 < (s.size : Int)) = false := decide_eq_false (by omega)
        go_enter Tryz.func282, Tryz.ntmps282
        go_wp2_with (go_at_call 312; refine (Tryz.utf8_ValidRune r _).mono ?_; rintro e w4 ⟨rfl, rfl⟩; rw [hv])
        refine wp_scope_straight ?_
        go_wp2
        go_loopg [9, 10] 1 (fun gf v9 v10 w' => v9 = .int .i64 ((E.size : Int) - 1) ∧ v10 = .int .i64 0 ∧ Below w4.heap.size w4 w')
        case atStart => exact ⟨rfl, rfl, Below.refl _ _⟩
        case round =>
          obtain ⟨rfl, rfl, hb⟩ := hrel
          go_wp2
          simp only [Exit.noGoto, Exit.inBlock]
          go_ret
          exact ⟨rfl, hb⟩
theorem rune_any (s : ByteArray) (r : Nat) (w : World) (ha : s.data.toList.all (fun b => b.toNat < 128) = true) (hs : s.size ≤ 8) :
    Calls Tryz.prog 282 #[.string s, .int .i32 (r : Int)] w fun e w' => e = .returned (.int .i64 (if r < 128 then Lib.indexByte s.data.toList r.toUInt8 else -1)) ∧ Below w.heap.size w w' := by
  by_cases h : r < 128
  · rw [if_pos h]
    refine (Tryz.strings_IndexRune_ascii s (r : Int) w (by omega) (by omega)).mono ?_
    rintro e w' ⟨rfl, rfl⟩
    exact ⟨by simp, Below.refl _ _⟩
  · rw [if_neg h]
    exact rune_high s r w (by omega) ha hs
theorem width_pos_ (s : ByteArray) (i : Nat) : 1 ≤ (Utf8.decode s i).2 := by
  simp only [Utf8.decode]
  repeat' split
  all_goals simp
theorem decode_cont (s : ByteArray) (i : Nat) : ∀ k, 0 < k → k < (Utf8.decode s i).2 → i + k < s.size ∧ 128 ≤ (s.get! (i + k)).toNat := by
  intro k h1 h2
  simp only [Utf8.decode] at h2
  repeat' split at h2
  all_goals try omega
  all_goals rename_i hA _
  all_goals simp only [Bool.and_eq_true, decide_eq_true_eq, beq_iff_eq] at *
  all_goals
    have hk : k = 1 ∨ k = 2 ∨ k = 3 := by omega
    rcases hk with rfl | rfl | rfl <;> first | omega | (constructor <;> omega)
set_option maxHeartbeats 8000000 in
set_option maxRecDepth 100000 in
theorem any_short (s chars : ByteArray) (w : World) (h2 : 2 ≤ chars.size) (h3 : chars.size ≤ 8) (h8 : s.size ≤ 8) (ha : chars.data.toList.all (fun b => b.toNat < 128) = true) :
    Calls Tryz.prog 300 #[.string s, .string chars] w fun e w' => e = .returned (.int .i64 (Lib.indexAny s.data.toList chars.data.toList)) ∧ Below w.heap.size w w' := by
  have c1 : chars.toList.isEmpty = false := by
    rw [ByteArray.toList_eq]
    cases h : chars.data.toList with
    | nil =>
      have hl : chars.data.toList.length = chars.size := rfl
      rw [h] at hl
      have : chars.size = 0 := hl.symm
      omega
    | cons a l => rfl
  have c2 : ((chars.size : Int) == 1) = false := by rw [beq_eq_false_iff_ne]; omega
  have c3 : decide ((8 : Int) < (s.size : Int)) = false := decide_eq_false (by omega)
  go_enter Tryz.func300, Tryz.ntmps300
  go_wp2_with (go_at_call 322; refine (Tryz.strings_shouldUseASCIISet (s.size : Int) _).mono ?_; rintro e w4 ⟨rfl, rfl⟩; rw [c3])
  go_loopg [] (s.size + 1) (fun gf wx => ∃ pos : Nat, wx.heap[w4.heap.size]? = some (.stringIter s pos) ∧ Below w4.heap.size w4 wx ∧ s.size < pos + gf ∧ Lib.NoAny s.data.toList chars.data.toList pos)
  case atStart => exact ⟨0, World.iter_heap _ s 0, (Below.refl _ _).alloc (Nat.le_refl _) _, by omega, Lib.NoAny.zero _ _⟩
  case round =>
    obtain ⟨pos, hit, hbw, hfu, hno⟩ := hrel
    by_cases hps : pos < s.size
    · obtain ⟨g', rfl⟩ : ∃ g', gk = g' + 1 := ⟨gk - 1, by omega⟩
      have hnx : ∀ ty, (Instr.next (.pointer (some ⟨w4.heap.size, 0, none⟩)) true ty).run Tryz.prog wr = _ := fun ty => Lib.run_next_any_at wr w4.heap.size s pos ty hit hps
      have hwd := width_pos_ s pos
      have hcont := decode_cont s pos
      have hdec : (s[pos]'hps).toNat < 128 ∧ (Utf8.decode s pos).1 = (s[pos]'hps).toNat ∧ (Utf8.decode s pos).2 = 1 ∨ 128 ≤ (s[pos]'hps).toNat ∧ 128 ≤ (Utf8.decode s pos).1 := by
        rcases Nat.lt_or_ge (s[pos]'hps).toNat 128 with h | h
        · rw [decode_ascii s pos hps h]; exact .inl ⟨h, rfl, rfl⟩
        · exact .inr ⟨h, (decode_high s pos hps h).1⟩
      obtain ⟨R, hR⟩ : ∃ R, (Utf8.decode s pos).1 = R := ⟨_, rfl⟩
      obtain ⟨K, hK⟩ : ∃ K, (Utf8.decode s pos).2 = K := ⟨_, rfl⟩
      rw [hR, hK] at hnx hdec
      rw [hK] at hwd hcont
      have hit2 := Lib.iterAt_heap wr w4.heap.size s pos (pos + K) hit
      have hbw2 := Lib.below_iterAt hbw (k := w4.heap.size) (Nat.le_refl _) s (pos + K)
      obtain ⟨W, hWd⟩ : ∃ W, wr.iterAt w4.heap.size s (pos + K) = W := ⟨_, rfl⟩
      rw [hWd] at hnx hit2 hbw2
      have hget : s.data.toList[pos]? = some (s[pos]'hps) := by rw [List.getElem?_eq_getElem (by simpa using hps)]; rfl
      by_cases hc : chars.data.toList.contains (s[pos]'hps) = true
      · -- a hit
        have hres := Lib.indexAny_hit hno hget hc
        have hlt : (s[pos]'hps).toNat < 128 := by
          have := List.all_eq_true.1 ha (s[pos]'hps) (by simpa using hc)
          simpa using this
        have hRK : R = (s[pos]'hps).toNat := by
          rcases hdec with h | h
          · exact h.2.1
          · omega
        have hib : decide (Lib.indexByte chars.data.toList R.toUInt8 ≥ 0) = true := by
          have h1 := Lib.indexByte_ge chars.data.toList R.toUInt8
          have h2 : R.toUInt8 = s[pos]'hps := by rw [hRK]; simp
          by_cases h3 : Lib.indexByte chars.data.toList R.toUInt8 = -1
          · exfalso
            have h4 := Lib.indexByte_none h3
            have h5 : (s[pos]'hps) ∈ chars.data.toList := by simpa using hc
            obtain ⟨j, hj, hje⟩ := List.getElem_of_mem h5
            exact h4 j (by rw [List.getElem?_eq_getElem hj, hje, h2])
          · exact decide_eq_true (by omega)
        have cS := rune_any chars R W ha h3
        rw [if_pos (by omega)] at cS
        generalize Lib.indexByte chars.data.toList R.toUInt8 = V at cS hib
        clear hdec hcont hno hget hc hRK hlt ha hwd hK hR
        go_wp2_with (go_at_call 282; refine cS.mono ?_; rintro e w6 ⟨rfl, hb6⟩)
        go_ret
        exact ⟨by rw [hres]; try rfl, hbw2.trans (hb6.mono hbw2.size)⟩
      · have hno2 : Lib.NoAny s.data.toList chars.data.toList (pos + K) := by
          intro j b hj hb
          rcases Nat.lt_or_ge j pos with h | h
          · exact hno j b h hb
          · have hjs : j < s.size := by have := (List.getElem?_eq_some_iff.1 hb).1; simpa using this
            have hbj : b = s[j]'hjs := by have := (List.getElem?_eq_some_iff.1 hb).2; rw [← this]; rfl
            rcases Nat.eq_or_lt_of_le h with h4 | h4
            · subst h4; rw [hbj]; simpa using hc
            · have h5 := (hcont (j - pos) (by omega) (by omega)).2
              rw [show pos + (j - pos) = j by omega] at h5
              have h6 : s.get! j = s[j]'hjs := get_at s j hjs
              rw [h6, ← hbj] at h5
              cases h7 : chars.data.toList.contains b
              · rfl
              · have := List.all_eq_true.1 ha b (by simpa using h7)
                simp at this
                omega
        have hib : decide ((if R < 128 then Lib.indexByte chars.data.toList R.toUInt8 else -1) ≥ 0) = false := by
          rcases hdec with ⟨h4, h5, h6⟩ | ⟨h4, h5⟩
          · rw [if_pos (by omega)]
            have h2 : R.toUInt8 = s[pos]'hps := by rw [h5]; simp
            refine decide_eq_false (fun h7 => hc ?_)
            obtain ⟨o, ho⟩ : ∃ o : Nat, Lib.indexByte chars.data.toList R.toUInt8 = (o : Int) := ⟨(Lib.indexByte chars.data.toList R.toUInt8).toNat, by omega⟩
            have h8 := List.mem_of_getElem? (Lib.indexByte_some ho).1
            rw [h2] at h8
            simpa using h8
          · rw [if_neg (by omega)]; rfl
        have cS := rune_any chars R W ha h3
        generalize (if R < 128 then Lib.indexByte chars.data.toList R.toUInt8 else -1) = V at cS hib
        clear hdec hcont hno hget hc ha hK hR
        go_wp2_with (go_at_call 282; refine cS.mono ?_; rintro e w6 ⟨rfl, hb6⟩)
        go_roundg g'
        case measure => omega
        case rel => exact ⟨pos + K, (hb6.block _ (Array.getElem?_eq_some_iff.1 hit2).1).trans hit2, hbw2.trans (hb6.mono hbw2.size), by omega, hno2⟩
    · have hnx : ∀ ty, (Instr.next (.pointer (some ⟨w4.heap.size, 0, none⟩)) true ty).run Tryz.prog wr = _ := fun ty => Lib.run_next_end_at wr w4.heap.size s pos ty hit hps
      have hres : Lib.indexAny s.data.toList chars.data.toList = -1 := Lib.indexAny_none (fun j b hj hb => hno j b (by simp at hj; omega) hb)
      go_wp2
      go_ret
      exact ⟨by rw [hres]; try rfl, hbw⟩
set_option maxRecDepth 1000000 in
theorem hv_set : ∀ w, (zeroValue 152).run Tryz.prog w = .ok (.agg (Array.replicate 256 (.bool false))) w := by
  intro w
  kernel_rfl
theorem any_ok (s cs : ByteArray) (w : World) (h1 : s.size < 4294967281) (h2 : 2 ≤ cs.size) (h3 : cs.size ≤ 8) (h4 : cs.data.toList.all (fun b => b.toNat < 128) = true) :
    Calls Tryz.prog 300 #[.string s, .string cs] w fun e w' => e = .returned (.int .i64 (Lib.indexAny s.data.toList cs.data.toList)) ∧ Below w.heap.size w w' := by
  by_cases h8 : s.size ≤ 8
  · exact any_short s cs w h2 h3 h8 h4
  · refine (Tryz.strings_IndexAny_long hv_set s cs w h2 (by omega) h1 (by omega) (fun j b hb => ?_)).mono ?_
    · have := List.all_eq_true.1 h4 b (List.mem_of_getElem? hb)
      simpa using this
    · rintro e w' ⟨rfl, rfl⟩
      exact ⟨rfl, ((Below.refl _ _).alloc (Nat.le_refl _) _).alloc (by simp) _⟩
end Go.Proofs.YtkpkfidlkmjkeaaGreatDoorQ
