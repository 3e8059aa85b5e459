-- printed by a program of this session's (wip/myprint.py) out of the translation; Lean checks it
import Derived.Test.YtakobibclhdakaaDoorPFnExactJarSavex0
import Derived.Test.YtakobibclhdakaaDoorPFnExactJarSavex1
import Derived.Test.YtakobibclhdakaaDoorPFnExactJarSavex10
import Derived.Test.YtakobibclhdakaaDoorPFnExactJarSavex11
import Derived.Test.YtakobibclhdakaaDoorPFnExactJarSavex12
namespace Go.Proofs.YtakobibclhdakaaDoor.PFnExactJarSave
open Go.RowKit Go.Proofs.YtakobibclhdakaaDoorG Go.Proofs.YtakobibclhdakaaDoorZ Go.Proofs.YtakobibclhdakaaDoorW.PrintWords Go.Proofs.YtakobibclhdakaaDoorW.PrintLast Go.Proofs.YtakobibclhdakaaDoorW.PrintMore
attribute [local go_sem] str_leq str_gtr str_geq max2_int min2_int max_two min_two max_three min_three max_four min_four   -- for this text's walks alone
set_option linter.unusedVariables false
set_option linter.unusedSimpArgs false

attribute [local go_sem high] eqA77
/-! ### impl_FourGet: function 73 -/
mutual
def impl_FourGet.j0 : Nat → List ByteArray → Bool → Option (Int × Bool)
 | 0, _, _ => none
 | k + 1, x4, x20 => if x20 = true then (some (0, false)) else (impl_FourGet.l0 k x4 0 x4 (x4.length : Int) 0)
def impl_FourGet.l0 : Nat → List ByteArray → Int → List ByteArray → Int → Int → Option (Int × Bool)
 | 0, _, _, _, _, _ => none
 | k + 1, x4, x5, x21, x22, x23 => if x23 < x22 then (if 0 ≤ x23 then (if x23 < (x21.length : Int) then ((impl_labelNumber.f k (rdOf ByteArray.empty x21 x23)).bind fun bt262 => (if x23 = (wrap64 ((x4.length : Int) - 1)) then (if 0 ≤ (wrap64 (8 * (wrap64 (5 - (x4.length : Int))))) then (impl_FourGet.j2 k x4 x5 x23 bt262.1 bt262.2 (wrap64 ((shl .i64 1 (wrap64 (8 * (wrap64 (5 - (x4.length : Int)))))) - 1)) x21 x22 x23) else (none)) else (impl_FourGet.j2 k x4 x5 x23 bt262.1 bt262.2 255 x21 x22 x23))) else (none)) else (none)) else (some (x5, true))
def impl_FourGet.j2 : Nat → List ByteArray → Int → Int → Int → Bool → Int → List ByteArray → Int → Int → Option (Int × Bool)
 | 0, _, _, _, _, _, _, _, _, _ => none
 | k + 1, x4, x5, x6, x8, x9, x10, x21, x22, x23 => if x9 = true then (impl_FourGet.j3 k x4 x5 x6 x8 x21 x22 x23 (decide (x8 > x10))) else (impl_FourGet.j3 k x4 x5 x6 x8 x21 x22 x23 true)
def impl_FourGet.j3 : Nat → List ByteArray → Int → Int → Int → List ByteArray → Int → Int → Bool → Option (Int × Bool)
 | 0, _, _, _, _, _, _, _, _ => none
 | k + 1, x4, x5, x6, x8, x21, x22, x23, x50 => if x50 = true then (some (0, false)) else (if x6 < (wrap64 ((x4.length : Int) - 1)) then (if 0 ≤ (wrap64 (8 * (wrap64 (3 - x6)))) then (impl_FourGet.l0 k x4 (wrap64 (x5 + (shl .i64 x8 (wrap64 (8 * (wrap64 (3 - x6))))))) x21 x22 (wrap64 (x23 + 1))) else (none)) else (impl_FourGet.l0 k x4 (wrap64 (x5 + x8)) x21 x22 (wrap64 (x23 + 1))))
end
def impl_FourGet.f (k : Nat) (a0 : ByteArray) : Option (Int × Bool) := (impl_labels.f a0).bind fun t258 => (if (a0.size : Int) > 200 then (impl_FourGet.j0 k t258 true) else (impl_FourGet.j0 k t258 (decide ((t258.length : Int) > 4))))
theorem impl_FourGet.mono_l : ∀ k, (∀ y0 y1, LeO (impl_FourGet.j0 k y0 y1) (impl_FourGet.j0 (k + 1) y0 y1)) ∧ (∀ y0 y1 y2 y3 y4, LeO (impl_FourGet.l0 k y0 y1 y2 y3 y4) (impl_FourGet.l0 (k + 1) y0 y1 y2 y3 y4)) ∧ (∀ y0 y1 y2 y3 y4 y5 y6 y7 y8, LeO (impl_FourGet.j2 k y0 y1 y2 y3 y4 y5 y6 y7 y8) (impl_FourGet.j2 (k + 1) y0 y1 y2 y3 y4 y5 y6 y7 y8)) ∧ (∀ y0 y1 y2 y3 y4 y5 y6 y7, LeO (impl_FourGet.j3 k y0 y1 y2 y3 y4 y5 y6 y7) (impl_FourGet.j3 (k + 1) y0 y1 y2 y3 y4 y5 y6 y7))
 | 0 => ⟨fun _ _ r h => by simp [impl_FourGet.j0] at h, fun _ _ _ _ _ r h => by simp [impl_FourGet.l0] at h, fun _ _ _ _ _ _ _ _ _ r h => by simp [impl_FourGet.j2] at h, fun _ _ _ _ _ _ _ _ r h => by simp [impl_FourGet.j3] at h⟩
 | k + 1 => by
  obtain ⟨ih0, ih1, ih2, ih3⟩ := impl_FourGet.mono_l k
  refine ⟨?_, ?_, ?_, ?_⟩
  all_goals intros
  all_goals first | unfold impl_FourGet.j0 | unfold impl_FourGet.l0 | unfold impl_FourGet.j2 | unfold impl_FourGet.j3
  all_goals repeat' (first | (with_reducible first | apply ih0 | apply ih1 | apply ih2 | apply ih3 | apply impl_labelNumber.mono | exact LeO.refl _ | exact LeO.none _ | refine LeO.ite ?_ ?_ | refine LeO.bind ?_ fun _ => ?_) | apply ih0 | apply ih1 | apply ih2 | apply ih3 | apply impl_labelNumber.mono | exact LeO.none _ | refine LeO.ite ?_ ?_ | refine LeO.bind ?_ fun _ => ?_)
theorem impl_FourGet.mono : ∀ a0 k, LeO (impl_FourGet.f k a0) (impl_FourGet.f (k + 1) a0) := by
 intro a0 k
 obtain ⟨ih0, ih1, ih2, ih3⟩ := impl_FourGet.mono_l k
 unfold impl_FourGet.f
 repeat' (first | (with_reducible first | apply ih0 | apply ih1 | apply ih2 | apply ih3 | apply impl_labelNumber.mono | exact LeO.refl _ | exact LeO.none _ | refine LeO.ite ?_ ?_ | refine LeO.bind ?_ fun _ => ?_) | apply ih0 | apply ih1 | apply ih2 | apply ih3 | apply impl_labelNumber.mono | exact LeO.none _ | refine LeO.ite ?_ ?_ | refine LeO.bind ?_ fun _ => ?_)
set_option maxHeartbeats 8000000 in
set_option maxRecDepth 100000 in
theorem impl_FourGet.calls (k : Nat) (a0 : ByteArray) (r1 : Int) (r2 : Bool) (w : World) (h : impl_FourGet.f k a0 = some (r1, r2)) (hG : GW w) :
  Calls Tryd.prog 73 #[.string a0] w fun e w' => e = .returned (.tuple #[.int .i64 r1, .bool r2]) ∧ Below w.heap.size w w' := by
 have HG := Aside0.mk hG
 clear hG
 have HB := Aside0.mk (Below.refl w.heap.size w)
 have H : ((impl_labels.f a0).bind fun t258 => (if (a0.size : Int) > 200 then (impl_FourGet.j0 k t258 true) else (impl_FourGet.j0 k t258 (decide ((t258.length : Int) > 4))))) = some (r1, r2) := h
 clear h
 obtain ⟨t258, A2, H⟩ := zO H
 have HC3 := Aside0.mk H
 clear H
 go_enter Tryd.func73, Tryd.ntmps73
 try dsimp only [List.append]
 go_upto_region 2 with (first | ((with_reducible refine gate_callee (f := 86) rfl ?_); refine goesL_ (some 12) rfl rfl Tryd.func86 (by kernel_rfl) rfl #[.string a0] rfl zM ?_; (with_reducible refine (impl_labels.calls a0 t258 _ A2.out ?side1).mono ?_); (case side1 => exact GW.below HG.out zB); rintro e w4 ⟨v259, rfl, ho0, hb⟩; refine ⟨_, rfl, ?_⟩; have HO260 := zL ho0; replace HB := zT hb; (try clear hb ho0)))
 (try simp only [Act.put, List.setIfInBounds_toArray, List.set_cons_zero, List.set_cons_succ])
 go_cut [20] (fun v20 wc => ∃ (kq : Nat) (x20_2 : Bool), v20 = .bool x20_2 ∧ Aside0 (impl_FourGet.j0 kq t258 x20_2 = some (r1, r2)) ∧ Aside0 (kq ≤ k) ∧ Aside0 (Kd.R Kd.string 9 wc w.heap.size (fun _ => True) v259 t258) ∧ Aside0 (Below w.heap.size w wc))
 case first =>
  have H := HC3.out
  clear HC3
  by_cases c5 : (a0.size : Int) > 200
  ·rw [if_pos c5] at H
   have c5b0 := decide_eq_true c5
   have c5b1 : decide (200 < a0.size) = true := decide_eq_true (by omega)
   clear c5
   (first | rw [c5b0] | (simp only [i64_w, i32_w]; rw [c5b0]) | skip)
   have H' := Aside0.mk H
   clear H
   go_wp2
   go_meet
   case rel => exact ⟨_, (true), zS, H', ⟨by first | omega | exact Nat.le_refl _⟩, ⟨zR HO260⟩, ⟨zB⟩⟩
  ·rw [if_neg c5] at H
   have c5b0 := decide_eq_false c5
   have c5b1 : decide (200 < a0.size) = false := decide_eq_false (by omega)
   clear c5
   (first | rw [c5b0] | (simp only [i64_w, i32_w]; rw [c5b0]) | skip)
   have H' := Aside0.mk H
   clear H
   obtain ⟨Ao6, co6, eo6⟩ := Kd.R_slice HO260.out
   subst eo6
   go_wp2
   go_meet
   case rel => exact ⟨_, (decide ((t258.length : Int) > 4)), zS, H', ⟨by first | omega | exact Nat.le_refl _⟩, ⟨zR HO260⟩, ⟨zB⟩⟩
 case rest =>
  clear HC3
  obtain ⟨kq, x20_2, rfl, HA, HJ2, HO_4, HB⟩ := hcut
  cases kq with
  | zero => exact absurd HA.out (by simp [impl_FourGet.j0])
  | succ kj2 =>
   have H := HA.out
   clear HA
   simp only [impl_FourGet.j0] at H
   by_cases c7 : x20_2 = true
   ·subst c7
    replace H := zI H rfl
    simp only [Option.some.injEq, Prod.mk.injEq] at H
    obtain ⟨rfl, rfl⟩ := H
    go_wp2
    go_ret2
    exact ⟨zE, zB⟩
   ·replace c7 := Bool.eq_false_iff.mpr c7
    subst c7
    replace H := zJ H zF
    have H' := Aside0.mk H
    clear H
    obtain ⟨Ao8, co8, eo8⟩ := Kd.R_slice HO_4.out
    subst eo8
    go_wp2
    go_loopg [5, 23] kj2 (fun kq v5 v23 w' => ∃ (x5_2 : Int) (x23_2 : Int), v5 = .int .i64 x5_2 ∧ v23 = .int .i64 x23_2 ∧ Aside0 (impl_FourGet.l0 kq t258 x5_2 t258 (t258.length : Int) x23_2 = some (r1, r2)) ∧ Aside0 (kq ≤ kj2) ∧ Aside0 (Kd.R Kd.string 9 w' w.heap.size (fun _ => True) (.slice Ao8 t258.length co8) t258) ∧ Aside0 (Kd.R Kd.string 9 w' w.heap.size (fun _ => True) (.slice Ao8 t258.length co8) t258) ∧ Aside0 (Below w.heap.size w w'))
    case atStart => exact ⟨(0), (0), zS, zS, H', ⟨Nat.le_refl _⟩, ⟨zR HO_4⟩, ⟨zR HO_4⟩, ⟨zB⟩⟩
    case round =>
     clear H'
     try clear c7
     obtain ⟨x5_2, x23_2, rfl, rfl, HA, HK2, HO_4, HO_21, HB⟩ := hrel
     cases gk with
     | zero => exact absurd HA.out (by simp [impl_FourGet.l0])
     | succ k2 =>
      have H := HA.out
      clear HA
      simp only [impl_FourGet.l0] at H
      by_cases c9 : x23_2 < (t258.length : Int)
      ·rw [if_pos c9] at H
       have c9b0 := decide_eq_true c9
       clear c9
       by_cases c10 : 0 ≤ x23_2
       ·rw [if_pos c10] at H
        have c10b0 := decide_eq_true c10
        clear c10
        by_cases c11 : x23_2 < (t258.length : Int)
        ·rw [if_pos c11] at H
         have c11b0 := decide_eq_true c11
         clear c11
         replace H := Option.bind_eq_some_iff.mp H
         obtain ⟨⟨t262, t263⟩, A120, H⟩ := H
         replace H : (if x23_2 = (wrap64 ((t258.length : Int) - 1)) then (if 0 ≤ (wrap64 (8 * (wrap64 (5 - (t258.length : Int))))) then (impl_FourGet.j2 k2 t258 x5_2 x23_2 t262 t263 (wrap64 ((shl .i64 1 (wrap64 (8 * (wrap64 (5 - (t258.length : Int)))))) - 1)) t258 (t258.length : Int) x23_2) else (none)) else (impl_FourGet.j2 k2 t258 x5_2 x23_2 t262 t263 255 t258 (t258.length : Int) x23_2)) = some (r1, r2) := H
         have A12 := Aside0.mk A120
         clear A120
         have HC13 := Aside0.mk H
         clear H
         obtain ⟨ad261, e261, hx261_0, p261, q261⟩ := zA (Kd.R_reads' HO_21.out).2.2 x23_2
         cases e261
         go_upto_if 37 with (first | ((with_reducible refine gate_callee (f := 87) rfl ?_); refine goesL_ (some 30) rfl rfl Tryd.func87 (by kernel_rfl) rfl #[.string (rdOf ByteArray.empty t258 x23_2)] rfl zM ?_; (with_reducible refine (impl_labelNumber.calls k2 (rdOf ByteArray.empty t258 x23_2) t262 t263 _ A12.out).mono ?_); rintro e w' ⟨rfl, ⟨nd, rfl⟩⟩; refine ⟨_, rfl, ?_⟩))
         (try simp only [Act.put, List.setIfInBounds_toArray, List.set_cons_zero, List.set_cons_succ])
         go_cut [10] (fun v10 wc => ∃ (kq : Nat) (x10_12 : Int), v10 = .int .i64 x10_12 ∧ Aside0 (impl_FourGet.j2 kq t258 x5_2 x23_2 t262 t263 x10_12 t258 (t258.length : Int) x23_2 = some (r1, r2)) ∧ Aside0 (kq ≤ k2) ∧ Aside0 (Kd.R Kd.string 9 wc w.heap.size (fun _ => True) (.slice (some ad261) t258.length co8) t258) ∧ Aside0 (Kd.R Kd.string 9 wc w.heap.size (fun _ => True) (.slice (some ad261) t258.length co8) t258) ∧ Aside0 (Below w.heap.size w wc))
         case first =>
          have H := HC13.out
          clear HC13
          by_cases c14 : x23_2 = (wrap64 ((t258.length : Int) - 1))
          ·rw [if_pos c14] at H
           have c14b0 := beq_iff_eq.mpr c14
           have c14b1 := bne_eq_false_iff_eq.mpr c14
           clear c14
           (first | rw [c14b0] | (simp only [i64_w, i32_w]; rw [c14b0]) | skip)
           obtain ⟨ji15, hji15⟩ : ∃ j_ : Int, (wrap64 (8 * (wrap64 (5 - (t258.length : Int))))) = j_ := ⟨_, rfl⟩
           replace H : (if 0 ≤ (ji15) then (impl_FourGet.j2 k2 t258 x5_2 x23_2 t262 t263 (wrap64 ((shl .i64 1 (ji15)) - 1)) t258 (t258.length : Int) x23_2) else (none)) = some (r1, r2) := by first | (rw [hji15] at H; exact H) | (simp only [hji15] at H ⊢; exact H)
           have hji15w : (IntKind.i64.wrap (8 * (wrap64 (5 - (t258.length : Int))))) = ji15 := (i64_w _).trans hji15
           by_cases c16 : 0 ≤ (ji15)
           ·rw [if_pos c16] at H
            have c16b0 := eq_true c16
            have c16b1 := decide_eq_true c16
            clear c16
            obtain ⟨ji17, hji17⟩ : ∃ j_ : Int, (shl .i64 1 (ji15)) = j_ := ⟨_, rfl⟩
            replace H : (impl_FourGet.j2 k2 t258 x5_2 x23_2 t262 t263 (wrap64 ((ji17) - 1)) t258 (t258.length : Int) x23_2) = some (r1, r2) := by first | (rw [hji17] at H; exact H) | (simp only [hji17] at H ⊢; exact H)
            have hji17_ : (IntKind.i64.wrap (1 * 2 ^ min (ji15).toNat 64)) = ji17 := hji17
            have hji17z : (ji15) ≤ 64 → (IntKind.i64.wrap (1 * 2 ^ (ji15).toNat)) = ji17 := shl_small hji17
            have hji17u : (IntKind.i64.wrap (2 ^ min (ji15).toNat 64)) = ji17 := by have h_ := hji17_; rw [Int.one_mul] at h_; exact h_
            have hji17v : (ji15) ≤ 64 → (IntKind.i64.wrap (2 ^ (ji15).toNat)) = ji17 := fun hle_ => by have h_ := hji17z hle_; rw [Int.one_mul] at h_; exact h_
            have hji17y : (wrap64 (1 * 2 ^ min (ji15).toNat 64)) = ji17 := (i64_w _).symm.trans hji17_
            have hji17x : (ji15) ≤ 64 → (wrap64 (1 * 2 ^ (ji15).toNat)) = ji17 := fun h_ => (i64_w _).symm.trans (hji17z h_)
            have H' := Aside0.mk H
            clear H
            go_wp2
            go_meet
            case rel => exact ⟨_, (wrap64 ((ji17) - 1)), (by first | rfl | (simp; done) | (simp only [← hji17] <;> (first | rfl | simp)) | (simp [*]; done)), H', ⟨by have := HJ2.out; have := HK2.out; first | omega | exact Nat.le_refl _⟩, ⟨zR HO_4⟩, ⟨zR HO_21⟩, ⟨zB⟩⟩
           ·rw [if_neg c16] at H
            exact absurd H (by simp)
          ·rw [if_neg c14] at H
           have c14b0 := beq_eq_false_iff_ne.mpr c14
           have c14b1 := bne_iff_ne.mpr c14
           (first | rw [c14b0] | (simp only [i64_w, i32_w]; rw [c14b0]) | skip)
           have H' := Aside0.mk H
           clear H
           go_wp2
           go_meet
           case rel => exact ⟨_, (255), zS, H', ⟨by have := HJ2.out; have := HK2.out; first | omega | exact Nat.le_refl _⟩, ⟨zR HO_4⟩, ⟨zR HO_21⟩, ⟨zB⟩⟩
         case rest =>
          clear HC13
          try clear c7
          try clear c9
          try clear c9b0
          try clear c10
          try clear c10b0
          try clear c11
          try clear c11b0
          try clear hx261_0
          try clear p261
          try clear q261
          obtain ⟨kq, x10_12, rfl, HA, HJ12, HO_4, HO_21, HB⟩ := hcut
          cases kq with
          | zero => exact absurd HA.out (by simp [impl_FourGet.j2])
          | succ kj12 =>
           have H := HA.out
           clear HA
           simp only [impl_FourGet.j2] at H
           have HC18 := Aside0.mk H
           clear H
           go_upto_region 12 with (fail)
           go_cut [50] (fun v50 wc => ∃ (kq : Nat) (x50_17 : Bool), v50 = .bool x50_17 ∧ Aside0 (impl_FourGet.j3 kq t258 x5_2 x23_2 t262 t258 (t258.length : Int) x23_2 x50_17 = some (r1, r2)) ∧ Aside0 (kq ≤ kj12) ∧ Aside0 (Kd.R Kd.string 9 wc w.heap.size (fun _ => True) (.slice (some ad261) t258.length co8) t258) ∧ Aside0 (Kd.R Kd.string 9 wc w.heap.size (fun _ => True) (.slice (some ad261) t258.length co8) t258) ∧ Aside0 (Below w.heap.size w wc))
           case first =>
            have H := HC18.out
            clear HC18
            by_cases c19 : t263 = true
            ·subst c19
             replace H := zI H rfl
             have H' := Aside0.mk H
             clear H
             go_wp2
             go_meet
             case rel => exact ⟨_, (decide (t262 > x10_12)), zS, H', ⟨by have := HJ2.out; have := HK2.out; have := HJ12.out; first | omega | exact Nat.le_refl _⟩, ⟨zR HO_4⟩, ⟨zR HO_21⟩, ⟨zB⟩⟩
            ·replace c19 := Bool.eq_false_iff.mpr c19
             subst c19
             replace H := zJ H zF
             have H' := Aside0.mk H
             clear H
             go_wp2
             go_meet
             case rel => exact ⟨_, (true), zS, H', ⟨by have := HJ2.out; have := HK2.out; have := HJ12.out; first | omega | exact Nat.le_refl _⟩, ⟨zR HO_4⟩, ⟨zR HO_21⟩, ⟨zB⟩⟩
           case rest =>
            clear HC18
            try clear c7
            try clear c9
            try clear c9b0
            try clear c10
            try clear c10b0
            try clear c11
            try clear c11b0
            try clear hx261_0
            try clear p261
            try clear q261
            obtain ⟨kq, x50_17, rfl, HA, HJ17, HO_4, HO_21, HB⟩ := hcut
            cases kq with
            | zero => exact absurd HA.out (by simp [impl_FourGet.j3])
            | succ kj17 =>
             have H := HA.out
             clear HA
             simp only [impl_FourGet.j3] at H
             by_cases c20 : x50_17 = true
             ·subst c20
              replace H := zI H rfl
              simp only [Option.some.injEq, Prod.mk.injEq] at H
              obtain ⟨rfl, rfl⟩ := H
              go_wp2
              go_ret2
              exact ⟨zE, zB⟩
             ·replace c20 := Bool.eq_false_iff.mpr c20
              subst c20
              replace H := zJ H zF
              by_cases c21 : x23_2 < (wrap64 ((t258.length : Int) - 1))
              ·rw [if_pos c21] at H
               have c21b0 := decide_eq_true c21
               clear c21
               obtain ⟨ji22, hji22⟩ : ∃ j_ : Int, (wrap64 (8 * (wrap64 (3 - x23_2)))) = j_ := ⟨_, rfl⟩
               replace H : (if 0 ≤ (ji22) then (impl_FourGet.l0 kj17 t258 (wrap64 (x5_2 + (shl .i64 t262 (ji22)))) t258 (t258.length : Int) (wrap64 (x23_2 + 1))) else (none)) = some (r1, r2) := by first | (rw [hji22] at H; exact H) | (simp only [hji22] at H ⊢; exact H)
               have hji22w : (IntKind.i64.wrap (8 * (wrap64 (3 - x23_2)))) = ji22 := (i64_w _).trans hji22
               by_cases c23 : 0 ≤ (ji22)
               ·rw [if_pos c23] at H
                have c23b0 := eq_true c23
                have c23b1 := decide_eq_true c23
                clear c23
                obtain ⟨ji24, hji24⟩ : ∃ j_ : Int, (shl .i64 t262 (ji22)) = j_ := ⟨_, rfl⟩
                replace H : (impl_FourGet.l0 kj17 t258 (wrap64 (x5_2 + (ji24))) t258 (t258.length : Int) (wrap64 (x23_2 + 1))) = some (r1, r2) := by first | (rw [hji24] at H; exact H) | (simp only [hji24] at H ⊢; exact H)
                have hji24_ : (IntKind.i64.wrap (t262 * 2 ^ min (ji22).toNat 64)) = ji24 := hji24
                have hji24z : (ji22) ≤ 64 → (IntKind.i64.wrap (t262 * 2 ^ (ji22).toNat)) = ji24 := shl_small hji24
                have hji24y : (wrap64 (t262 * 2 ^ min (ji22).toNat 64)) = ji24 := (i64_w _).symm.trans hji24_
                have hji24x : (ji22) ≤ 64 → (wrap64 (t262 * 2 ^ (ji22).toNat)) = ji24 := fun h_ => (i64_w _).symm.trans (hji24z h_)
                have H' := Aside0.mk H
                clear H
                go_wp2
                go_roundg kj17
                case measure => have := HJ2.out; have := HK2.out; have := HJ12.out; have := HJ17.out; omega
                case rel => exact ⟨(wrap64 (x5_2 + (ji24))), (wrap64 (x23_2 + 1)), (by first | rfl | (simp; done) | (simp only [← hji24] <;> (first | rfl | simp)) | (simp [*]; done)), zS, H', ⟨by have := HJ2.out; have := HK2.out; have := HJ12.out; have := HJ17.out; omega⟩, ⟨zR HO_4⟩, ⟨zR HO_21⟩, ⟨zB⟩⟩
               ·rw [if_neg c23] at H
                exact absurd H (by simp)
              ·rw [if_neg c21] at H
               have c21b0 := decide_eq_false c21
               clear c21
               have H' := Aside0.mk H
               clear H
               go_wp2
               go_roundg kj17
               case measure => have := HJ2.out; have := HK2.out; have := HJ12.out; have := HJ17.out; omega
               case rel => exact ⟨(wrap64 (x5_2 + t262)), (wrap64 (x23_2 + 1)), zS, zS, H', ⟨by have := HJ2.out; have := HK2.out; have := HJ12.out; have := HJ17.out; omega⟩, ⟨zR HO_4⟩, ⟨zR HO_21⟩, ⟨zB⟩⟩
        ·rw [if_neg c11] at H
         exact absurd H (by simp)
       ·rw [if_neg c10] at H
        exact absurd H (by simp)
      ·rw [if_neg c9] at H
       have c9b0 := decide_eq_false c9
       clear c9
       simp only [Option.some.injEq, Prod.mk.injEq] at H
       obtain ⟨rfl, rfl⟩ := H
       go_wp2
       go_ret2
       exact ⟨zE, zB⟩

/-! ### strings_Join: function 53 -/
def strings_Join.f (l0 : List ByteArray) (a1 : ByteArray) : Option ByteArray :=
 if l0.length ≤ 140737488355328 ∧ (Lib.join (l0.map (·.data.toList)) a1.data.toList).length ≤ 140737488355328 then some ⟨(Lib.join (l0.map (·.data.toList)) a1.data.toList).toArray⟩ else none
theorem strings_Join.calls (A0 : Option Addr) (c0 : Nat) (l0 : List ByteArray) (a1 : ByteArray) (r : ByteArray) (w : World) (hr0 : Kd.C Kd.string w A0 l0.length l0) (hc0 : l0.length ≤ c0) (h : strings_Join.f l0 a1 = some r) :
  Calls Tryd.prog 53 #[.slice A0 l0.length c0, .string a1] w fun e w' => e = .returned (.string r) ∧ Below w.heap.size w w' := by
 unfold strings_Join.f at h
 split at h
 case isFalse => cases h
 case isTrue hc =>
  obtain rfl := Option.some.inj h
  rcases Nat.eq_zero_or_pos l0.length with h0 | h0
  ·obtain rfl := List.eq_nil_of_length_eq_zero h0
   refine (Tryd.strings_Join_none A0 c0 a1 w).mono ?_
   rintro e w' ⟨rfl, rfl⟩
   exact ⟨by rw [List.map_nil, Lib.join_nil], Below.refl _ _⟩
  ·obtain ⟨b, o, rfl, hb, hcell⟩ := kd_string_cells hr0 h0
   refine (Tryd.strings_Join b o c0 l0 a1 w hcell hb hc.1 hc0 hc.2).mono ?_
   rintro e w' ⟨rfl, hbel⟩
   exact ⟨rfl, hbel⟩

/-! ### strconv_Itoa: function 59 -/
def strconv_Itoa.f (a0 : Int) : Option ByteArray := if -9223372036854775808 ≤ a0 ∧ a0 ≤ 9223372036854775807 then some ⟨(Lib.itoa a0).toArray⟩ else none
theorem strconv_Itoa.calls (a0 : Int) (r : ByteArray) (w : World) (h : strconv_Itoa.f a0 = some r) (hG : GW w) :
  Calls Tryd.prog 59 #[.int .i64 a0] w fun e w' => e = .returned (.string r) ∧ Below w.heap.size w w' := by
 unfold strconv_Itoa.f at h
 split at h
 case isFalse => cases h
 case isTrue hc =>
  obtain rfl := Option.some.inj h
  refine (Tryd.strconv_Itoa a0 hc.1 hc.2 w hG.pow10).mono ?_
  rintro e w' ⟨rfl, k, os, rfl⟩
  exact ⟨rfl, Lib.below_grow _ _ (Nat.le_refl _) _ _⟩

/-! ### impl_HostOk: function 93 -/
def impl_HostOk.f (k : Nat) (a0_0 : Int) (a0_1 : ByteArray) (a0_2 : Int) : Option (Bool) := if a0_0 = 0 then (some (a0_0 == 0 && (a0_1.toList == ([] : List UInt8) && (a0_2 == 0)))) else (if a0_0 = 1 then (if a0_2 = 0 then ((impl_isHostName.f k a0_1).bind fun t265 => (if t265 = true then ((impl_endsInNumber.f k a0_1).bind fun t266 => (some (!t266))) else (some false))) else (some false)) else (if a0_0 = 2 then (if a0_1.toList = ([] : List UInt8) then ((impl_in.f a0_2 0 4294967295).bind fun t267 => (some t267)) else (some false)) else (some false)))
theorem impl_HostOk.mono : ∀ a0 a1 a2 k, LeO (impl_HostOk.f k a0 a1 a2) (impl_HostOk.f (k + 1) a0 a1 a2) := by
 intro a0 a1 a2 k
 unfold impl_HostOk.f
 repeat' (first | (with_reducible first | apply impl_endsInNumber.mono | apply impl_isHostName.mono | exact LeO.refl _ | exact LeO.none _ | refine LeO.ite ?_ ?_ | refine LeO.bind ?_ fun _ => ?_) | apply impl_endsInNumber.mono | apply impl_isHostName.mono | exact LeO.none _ | refine LeO.ite ?_ ?_ | refine LeO.bind ?_ fun _ => ?_)
set_option maxHeartbeats 8000000 in
set_option maxRecDepth 100000 in
theorem impl_HostOk.calls (k : Nat) (a0_0 : Int) (a0_1 : ByteArray) (a0_2 : Int) (r : Bool) (w : World) (h : impl_HostOk.f k a0_0 a0_1 a0_2 = some r) (hG : GW w) :
  Calls Tryd.prog 93 #[.agg #[.int .i64 a0_0, .string a0_1, .int .i64 a0_2]] w fun e w' => e = .returned (.bool r) ∧ Below w.heap.size w w' := by
 have HG := Aside0.mk hG
 clear hG
 have hu77 := Tryd.underlying77
 have HB := Aside0.mk (Below.refl w.heap.size w)
 have H : (if a0_0 = 0 then (some (a0_0 == 0 && (a0_1.toList == ([] : List UInt8) && (a0_2 == 0)))) else (if a0_0 = 1 then (if a0_2 = 0 then ((impl_isHostName.f k a0_1).bind fun t265 => (if t265 = true then ((impl_endsInNumber.f k a0_1).bind fun t266 => (some (!t266))) else (some false))) else (some false)) else (if a0_0 = 2 then (if a0_1.toList = ([] : List UInt8) then ((impl_in.f a0_2 0 4294967295).bind fun t267 => (some t267)) else (some false)) else (some false)))) = some r := h
 clear h
 by_cases c2 : a0_0 = 0
 ·rw [if_pos c2] at H
  have c2b0 := beq_iff_eq.mpr c2
  have c2b1 := bne_eq_false_iff_eq.mpr c2
  clear c2
  obtain rfl := Option.some.inj H
  go_enter Tryd.func93, Tryd.ntmps93
  go_wp2_with (first | ((with_reducible refine gate_dst (N := 1) rfl ?_); refine zX (N := 1) (cs := #[.int .i64 a0_0, .string a0_1, .int .i64 a0_2]) (t := 77) rfl rfl ?hr zB ?_; (case hr => first | (go_simp; done) | (go_simp; rfl)); clear HB; intro gb264 w3 HB BK264 GW264; have GE264 := GW264; obtain ⟨hcz4_0, hcz4_1, hcz4_2, hfz4_0, hfz4_1, hfz4_2⟩ := zc3 BK264))
  go_ret
  exact ⟨zE, zB⟩
 ·rw [if_neg c2] at H
  have c2b0 := beq_eq_false_iff_ne.mpr c2
  have c2b1 := bne_iff_ne.mpr c2
  by_cases c5 : a0_0 = 1
  ·rw [if_pos c5] at H
   have c5b0 := beq_iff_eq.mpr c5
   have c5b1 := bne_eq_false_iff_eq.mpr c5
   clear c5
   by_cases c6 : a0_2 = 0
   ·rw [if_pos c6] at H
    have c6b0 := beq_iff_eq.mpr c6
    have c6b1 := bne_eq_false_iff_eq.mpr c6
    clear c6
    obtain ⟨t265, A7, H⟩ := zO H
    by_cases c8 : t265 = true
    ·subst c8
     replace H := zI H rfl
     obtain ⟨t266, A9, H⟩ := zO H
     obtain rfl := Option.some.inj H
     go_enter Tryd.func93, Tryd.ntmps93
     go_wp2_with (first | ((with_reducible refine gate_dst (N := 1) rfl ?_); refine zX (N := 1) (cs := #[.int .i64 a0_0, .string a0_1, .int .i64 a0_2]) (t := 77) rfl rfl ?hr zB ?_; (case hr => first | (go_simp; done) | (go_simp; rfl)); clear HB; intro gb264 w10 HB BK264 GW264; have GE264 := GW264; obtain ⟨hcz11_0, hcz11_1, hcz11_2, hfz11_0, hfz11_1, hfz11_2⟩ := zc3 BK264) | (go_at_call 62; (with_reducible refine (impl_isHostName.calls k a0_1 true _ A7.out ?side1).mono ?_); (case side1 => exact GW.below HG.out zB); rintro e w12 ⟨rfl, hb⟩; replace BK264 := zK BK264 hb; replace HB := zT hb; (try clear hb); obtain ⟨hcz13_0, hcz13_1, hcz13_2, hfz13_0, hfz13_1, hfz13_2⟩ := zc3 BK264) | (go_at_call 63; (with_reducible refine (impl_endsInNumber.calls k a0_1 t266 _ A9.out ?side1).mono ?_); (case side1 => exact GW.below HG.out zB); rintro e w14 ⟨rfl, hb⟩; replace BK264 := zK BK264 hb; replace HB := zT hb; (try clear hb)))
     go_ret
     exact ⟨zE, zB⟩
    ·replace c8 := Bool.eq_false_iff.mpr c8
     subst c8
     replace H := zJ H zF
     obtain rfl := Option.some.inj H
     go_enter Tryd.func93, Tryd.ntmps93
     go_wp2_with (first | ((with_reducible refine gate_dst (N := 1) rfl ?_); refine zX (N := 1) (cs := #[.int .i64 a0_0, .string a0_1, .int .i64 a0_2]) (t := 77) rfl rfl ?hr zB ?_; (case hr => first | (go_simp; done) | (go_simp; rfl)); clear HB; intro gb264 w15 HB BK264 GW264; have GE264 := GW264; obtain ⟨hcz16_0, hcz16_1, hcz16_2, hfz16_0, hfz16_1, hfz16_2⟩ := zc3 BK264) | (go_at_call 62; (with_reducible refine (impl_isHostName.calls k a0_1 false _ A7.out ?side1).mono ?_); (case side1 => exact GW.below HG.out zB); rintro e w17 ⟨rfl, hb⟩; replace BK264 := zK BK264 hb; replace HB := zT hb; (try clear hb)))
     go_ret
     exact ⟨zE, zB⟩
   ·rw [if_neg c6] at H
    have c6b0 := beq_eq_false_iff_ne.mpr c6
    have c6b1 := bne_iff_ne.mpr c6
    obtain rfl := Option.some.inj H
    go_enter Tryd.func93, Tryd.ntmps93
    go_wp2_with (first | ((with_reducible refine gate_dst (N := 1) rfl ?_); refine zX (N := 1) (cs := #[.int .i64 a0_0, .string a0_1, .int .i64 a0_2]) (t := 77) rfl rfl ?hr zB ?_; (case hr => first | (go_simp; done) | (go_simp; rfl)); clear HB; intro gb264 w18 HB BK264 GW264; have GE264 := GW264; obtain ⟨hcz19_0, hcz19_1, hcz19_2, hfz19_0, hfz19_1, hfz19_2⟩ := zc3 BK264))
    go_ret
    exact ⟨zE, zB⟩
  ·rw [if_neg c5] at H
   have c5b0 := beq_eq_false_iff_ne.mpr c5
   have c5b1 := bne_iff_ne.mpr c5
   by_cases c20 : a0_0 = 2
   ·rw [if_pos c20] at H
    have c20b0 := beq_iff_eq.mpr c20
    have c20b1 := bne_eq_false_iff_eq.mpr c20
    clear c20
    by_cases c21 : a0_1.toList = ([] : List UInt8)
    ·rw [if_pos c21] at H
     have c21b0 := beq_iff_eq.mpr c21
     have c21b1 := bne_eq_false_iff_eq.mpr c21
     clear c21
     obtain ⟨t267, A22, H⟩ := zO H
     obtain rfl := Option.some.inj H
     go_enter Tryd.func93, Tryd.ntmps93
     go_wp2_with (first | ((with_reducible refine gate_dst (N := 1) rfl ?_); refine zX (N := 1) (cs := #[.int .i64 a0_0, .string a0_1, .int .i64 a0_2]) (t := 77) rfl rfl ?hr zB ?_; (case hr => first | (go_simp; done) | (go_simp; rfl)); clear HB; intro gb264 w23 HB BK264 GW264; have GE264 := GW264; obtain ⟨hcz24_0, hcz24_1, hcz24_2, hfz24_0, hfz24_1, hfz24_2⟩ := zc3 BK264) | (go_at_call 47; (with_reducible refine (impl_in.calls a0_2 0 4294967295 t267 _ A22.out).mono ?_); rintro e w' ⟨rfl, ⟨nd, rfl⟩⟩))
     go_ret
     exact ⟨zE, zB⟩
    ·rw [if_neg c21] at H
     have c21b0 := beq_eq_false_iff_ne.mpr c21
     have c21b1 := bne_iff_ne.mpr c21
     obtain rfl := Option.some.inj H
     go_enter Tryd.func93, Tryd.ntmps93
     go_wp2_with (first | ((with_reducible refine gate_dst (N := 1) rfl ?_); refine zX (N := 1) (cs := #[.int .i64 a0_0, .string a0_1, .int .i64 a0_2]) (t := 77) rfl rfl ?hr zB ?_; (case hr => first | (go_simp; done) | (go_simp; rfl)); clear HB; intro gb264 w25 HB BK264 GW264; have GE264 := GW264; obtain ⟨hcz26_0, hcz26_1, hcz26_2, hfz26_0, hfz26_1, hfz26_2⟩ := zc3 BK264))
     go_ret
     exact ⟨zE, zB⟩
   ·rw [if_neg c20] at H
    have c20b0 := beq_eq_false_iff_ne.mpr c20
    have c20b1 := bne_iff_ne.mpr c20
    obtain rfl := Option.some.inj H
    go_enter Tryd.func93, Tryd.ntmps93
    go_wp2_with (first | ((with_reducible refine gate_dst (N := 1) rfl ?_); refine zX (N := 1) (cs := #[.int .i64 a0_0, .string a0_1, .int .i64 a0_2]) (t := 77) rfl rfl ?hr zB ?_; (case hr => first | (go_simp; done) | (go_simp; rfl)); clear HB; intro gb264 w27 HB BK264 GW264; have GE264 := GW264; obtain ⟨hcz28_0, hcz28_1, hcz28_2, hfz28_0, hfz28_1, hfz28_2⟩ := zc3 BK264))
    go_ret
    exact ⟨zE, zB⟩

/-! ### impl_HostPut: function 74 -/
mutual
def impl_HostPut.j0 : Nat → Bool → Int → ByteArray → Int → Option (ByteArray)
 | 0, _, _, _, _ => none
 | k + 1, x12, x269000, x269001, x269002 => if x12 = true then ((impl_HostOk.f k x269000 x269001 x269002).bind fun t270 => (if t270 = true then (some x269001) else (some (⟨#[]⟩ : ByteArray)))) else (impl_HostPut.l0 k ([] : List ByteArray) 24 x269000 x269001 x269002)
def impl_HostPut.l0 : Nat → List ByteArray → Int → Int → ByteArray → Int → Option (ByteArray)
 | 0, _, _, _, _, _ => none
 | k + 1, x3, x4, x269000, x269001, x269002 => if x4 ≥ 0 then (if 0 ≤ x4 then ((strconv_Itoa.f (Go.bits .and .i64 (shr .i64 x269002 x4) 255)).bind fun t271 => (if x3.length < 8796093022208 then (impl_HostPut.l0 k (x3 ++ [t271]) (wrap64 (x4 - 8)) x269000 x269001 x269002) else (none))) else (none)) else ((strings_Join.f x3 (⟨#[46]⟩ : ByteArray)).bind fun t275 => (some t275))
end
def impl_HostPut.f (k : Nat) (a0_0 : Int) (a0_1 : ByteArray) (a0_2 : Int) : Option (ByteArray) := (impl_HostOk.f k a0_0 a0_1 a0_2).bind fun t269 => (if t269 = true then (impl_HostPut.j0 k (a0_0 != 2) a0_0 a0_1 a0_2) else (impl_HostPut.j0 k true a0_0 a0_1 a0_2))
theorem impl_HostPut.mono_l : ∀ k, (∀ y0 y1 y2 y3, LeO (impl_HostPut.j0 k y0 y1 y2 y3) (impl_HostPut.j0 (k + 1) y0 y1 y2 y3)) ∧ (∀ y0 y1 y2 y3 y4, LeO (impl_HostPut.l0 k y0 y1 y2 y3 y4) (impl_HostPut.l0 (k + 1) y0 y1 y2 y3 y4))
 | 0 => ⟨fun _ _ _ _ r h => by simp [impl_HostPut.j0] at h, fun _ _ _ _ _ r h => by simp [impl_HostPut.l0] at h⟩
 | k + 1 => by
  obtain ⟨ih0, ih1⟩ := impl_HostPut.mono_l k
  refine ⟨?_, ?_⟩
  all_goals intros
  all_goals first | unfold impl_HostPut.j0 | unfold impl_HostPut.l0
  all_goals repeat' (first | (with_reducible first | apply ih0 | apply ih1 | apply impl_HostOk.mono | exact LeO.refl _ | exact LeO.none _ | refine LeO.ite ?_ ?_ | refine LeO.bind ?_ fun _ => ?_) | apply ih0 | apply ih1 | apply impl_HostOk.mono | exact LeO.none _ | refine LeO.ite ?_ ?_ | refine LeO.bind ?_ fun _ => ?_)
theorem impl_HostPut.mono : ∀ a0 a1 a2 k, LeO (impl_HostPut.f k a0 a1 a2) (impl_HostPut.f (k + 1) a0 a1 a2) := by
 intro a0 a1 a2 k
 obtain ⟨ih0, ih1⟩ := impl_HostPut.mono_l k
 unfold impl_HostPut.f
 repeat' (first | (with_reducible first | apply ih0 | apply ih1 | apply impl_HostOk.mono | exact LeO.refl _ | exact LeO.none _ | refine LeO.ite ?_ ?_ | refine LeO.bind ?_ fun _ => ?_) | apply ih0 | apply ih1 | apply impl_HostOk.mono | exact LeO.none _ | refine LeO.ite ?_ ?_ | refine LeO.bind ?_ fun _ => ?_)
set_option maxHeartbeats 8000000 in
set_option maxRecDepth 100000 in
theorem impl_HostPut.calls (k : Nat) (a0_0 : Int) (a0_1 : ByteArray) (a0_2 : Int) (r : ByteArray) (w : World) (h : impl_HostPut.f k a0_0 a0_1 a0_2 = some r) (hG : GW w) :
  Calls Tryd.prog 74 #[.agg #[.int .i64 a0_0, .string a0_1, .int .i64 a0_2]] w fun e w' => e = .returned (.string r) ∧ Below w.heap.size w w' := by
 have HG := Aside0.mk hG
 clear hG
 have hu77 := Tryd.underlying77
 have HB := Aside0.mk (Below.refl w.heap.size w)
 have H : ((impl_HostOk.f k a0_0 a0_1 a0_2).bind fun t269 => (if t269 = true then (impl_HostPut.j0 k (a0_0 != 2) a0_0 a0_1 a0_2) else (impl_HostPut.j0 k true a0_0 a0_1 a0_2))) = some r := h
 clear h
 have HC2 := Aside0.mk H
 clear H
 go_enter Tryd.func74, Tryd.ntmps74
 go_upto_region 1 with (first | ((with_reducible refine gate_dst (N := 1) rfl ?_); refine zX (N := 1) (cs := #[.int .i64 a0_0, .string a0_1, .int .i64 a0_2]) (t := 77) rfl rfl ?hr zB ?_; (case hr => first | (go_simp; done) | (go_simp; rfl)); clear HB; intro gb268 w3 HB BK268 GW268; have GE268 := GW268))
 (try simp only [Act.put, List.setIfInBounds_toArray, List.set_cons_zero, List.set_cons_succ])
 go_cut [12] (fun v12 wc => ∃ (kq : Nat) (x12_1 : Bool), v12 = .bool x12_1 ∧ Aside0 (impl_HostPut.j0 kq x12_1 a0_0 a0_1 a0_2 = some r) ∧ Aside0 (kq ≤ k) ∧ Aside0 (wc.heap[gb268]? = some (.cells #[.int .i64 a0_0, .string a0_1, .int .i64 a0_2] 77 (0, 0))) ∧ Aside0 (Below w.heap.size w wc))
 case first =>
  have H := HC2.out
  clear HC2
  obtain ⟨t269, A4, H⟩ := zO H
  by_cases c5 : t269 = true
  ·subst c5
   replace H := zI H rfl
   have H' := Aside0.mk H
   clear H
   obtain ⟨hcz6_0, hcz6_1, hcz6_2, hfz6_0, hfz6_1, hfz6_2⟩ := zc3 BK268
   go_wp2_with (first | ((with_reducible refine gate_callee (f := 93) rfl ?_); refine goesL_ (some 6) rfl rfl Tryd.func93 (by kernel_rfl) rfl #[.agg #[.int .i64 a0_0, .string a0_1, .int .i64 a0_2]] rfl zM ?_; (with_reducible refine (impl_HostOk.calls k a0_0 a0_1 a0_2 true _ A4.out ?side1).mono ?_); (case side1 => exact GW.below HG.out zB); rintro e w7 ⟨rfl, hb⟩; refine ⟨_, rfl, ?_⟩; replace BK268 := zK BK268 hb; replace HB := zT hb; (try clear hb); obtain ⟨hcz8_0, hcz8_1, hcz8_2, hfz8_0, hfz8_1, hfz8_2⟩ := zc3 BK268))
   go_meet
   case rel => exact ⟨_, ((a0_0 != 2)), zS, H', ⟨by first | omega | exact Nat.le_refl _⟩, ⟨by (with_reducible repeat (first | refine blk_drewN ?_ _ | refine blk_drew ?_ | refine blk_alloc ?_ _)); exact BK268.out⟩, ⟨zB⟩⟩
  ·replace c5 := Bool.eq_false_iff.mpr c5
   subst c5
   replace H := zJ H zF
   have H' := Aside0.mk H
   clear H
   obtain ⟨hcz9_0, hcz9_1, hcz9_2, hfz9_0, hfz9_1, hfz9_2⟩ := zc3 BK268
   go_wp2_with (first | ((with_reducible refine gate_callee (f := 93) rfl ?_); refine goesL_ (some 6) rfl rfl Tryd.func93 (by kernel_rfl) rfl #[.agg #[.int .i64 a0_0, .string a0_1, .int .i64 a0_2]] rfl zM ?_; (with_reducible refine (impl_HostOk.calls k a0_0 a0_1 a0_2 false _ A4.out ?side1).mono ?_); (case side1 => exact GW.below HG.out zB); rintro e w10 ⟨rfl, hb⟩; refine ⟨_, rfl, ?_⟩; replace BK268 := zK BK268 hb; replace HB := zT hb; (try clear hb)))
   go_meet
   case rel => exact ⟨_, (true), zS, H', ⟨by first | omega | exact Nat.le_refl _⟩, ⟨by (with_reducible repeat (first | refine blk_drewN ?_ _ | refine blk_drew ?_ | refine blk_alloc ?_ _)); exact BK268.out⟩, ⟨zB⟩⟩
 case rest =>
  clear HC2
  obtain ⟨kq, x12_1, rfl, HA, HJ1, BK268, HB⟩ := hcut
  cases kq with
  | zero => exact absurd HA.out (by simp [impl_HostPut.j0])
  | succ kj1 =>
   have H := HA.out
   clear HA
   simp only [impl_HostPut.j0] at H
   by_cases c11 : x12_1 = true
   ·subst c11
    replace H := zI H rfl
    obtain ⟨t270, A12, H⟩ := zO H
    by_cases c13 : t270 = true
    ·subst c13
     replace H := zI H rfl
     obtain rfl := Option.some.inj H
     obtain ⟨hcz14_0, hcz14_1, hcz14_2, hfz14_0, hfz14_1, hfz14_2⟩ := zc3 BK268
     go_wp2_with (first | ((with_reducible refine gate_callee (f := 93) rfl ?_); refine goesL_ (some 14) rfl rfl Tryd.func93 (by kernel_rfl) rfl #[.agg #[.int .i64 a0_0, .string a0_1, .int .i64 a0_2]] rfl zM ?_; (with_reducible refine (impl_HostOk.calls kj1 a0_0 a0_1 a0_2 true _ A12.out ?side1).mono ?_); (case side1 => exact GW.below HG.out zB); rintro e w15 ⟨rfl, hb⟩; refine ⟨_, rfl, ?_⟩; replace BK268 := zK BK268 hb; replace HB := zT hb; (try clear hb); obtain ⟨hcz16_0, hcz16_1, hcz16_2, hfz16_0, hfz16_1, hfz16_2⟩ := zc3 BK268))
     go_ret
     exact ⟨zE, zB⟩
    ·replace c13 := Bool.eq_false_iff.mpr c13
     subst c13
     replace H := zJ H zF
     obtain rfl := Option.some.inj H
     obtain ⟨hcz17_0, hcz17_1, hcz17_2, hfz17_0, hfz17_1, hfz17_2⟩ := zc3 BK268
     go_wp2_with (first | ((with_reducible refine gate_callee (f := 93) rfl ?_); refine goesL_ (some 14) rfl rfl Tryd.func93 (by kernel_rfl) rfl #[.agg #[.int .i64 a0_0, .string a0_1, .int .i64 a0_2]] rfl zM ?_; (with_reducible refine (impl_HostOk.calls kj1 a0_0 a0_1 a0_2 false _ A12.out ?side1).mono ?_); (case side1 => exact GW.below HG.out zB); rintro e w18 ⟨rfl, hb⟩; refine ⟨_, rfl, ?_⟩; replace BK268 := zK BK268 hb; replace HB := zT hb; (try clear hb)))
     go_ret
     exact ⟨zE, zB⟩
   ·replace c11 := Bool.eq_false_iff.mpr c11
    subst c11
    replace H := zJ H zF
    have H' := Aside0.mk H
    clear H
    go_wp2
    go_loopg [3, 4] kj1 (fun kq v3 v4 w' => ∃ (x3_2 : List ByteArray) (x4_2 : Int), v4 = .int .i64 x4_2 ∧ Aside0 (impl_HostPut.l0 kq x3_2 x4_2 a0_0 a0_1 a0_2 = some r) ∧ Aside0 (kq ≤ kj1) ∧ Aside0 (Kd.R Kd.string 9 w' w.heap.size (fun _ => True) v3 x3_2) ∧ Aside0 (w'.heap[gb268]? = some (.cells #[.int .i64 a0_0, .string a0_1, .int .i64 a0_2] 77 (0, 0))) ∧ Aside0 (Below w.heap.size w w'))
    case atStart => exact ⟨(([] : List ByteArray)), (24), zS, H', ⟨Nat.le_refl _⟩, ⟨by first | exact Kd.R_nil _ _ _ _ _ | exact Kd.N_nil _ _ _ _ _ | exact Kd.V_nil _ _ _ _ _ | exact Kd.Q_nil _ _ _ _ _ | exact Kd.S_nil _ _ _ _ _⟩, ⟨by (with_reducible repeat (first | refine blk_drewN ?_ _ | refine blk_drew ?_ | refine blk_alloc ?_ _)); exact BK268.out⟩, ⟨zB⟩⟩
    case round =>
     clear H'
     try clear c11
     obtain ⟨x3_2, x4_2, rfl, HA, HK2, HO_3, BK268, HB⟩ := hrel
     cases gk with
     | zero => exact absurd HA.out (by simp [impl_HostPut.l0])
     | succ k2 =>
      have H := HA.out
      clear HA
      simp only [impl_HostPut.l0] at H
      by_cases c19 : x4_2 ≥ 0
      ·rw [if_pos c19] at H
       have c19b0 := decide_eq_true c19
       clear c19
       by_cases c20 : 0 ≤ x4_2
       ·rw [if_pos c20] at H
        have c20b0 := eq_true c20
        have c20b1 := decide_eq_true c20
        clear c20
        obtain ⟨ji21, hji21⟩ : ∃ j_ : Int, (shr .i64 a0_2 x4_2) = j_ := ⟨_, rfl⟩
        replace H : ((strconv_Itoa.f (Go.bits .and .i64 (ji21) 255)).bind fun t271 => (if x3_2.length < 8796093022208 then (impl_HostPut.l0 k2 (x3_2 ++ [t271]) (wrap64 (x4_2 - 8)) a0_0 a0_1 a0_2) else (none))) = some r := by first | (rw [hji21] at H; exact H) | (simp only [hji21] at H ⊢; exact H)
        have hji21_ : (a0_2 / 2 ^ min x4_2.toNat 64) = ji21 := hji21
        have hji21z : x4_2 ≤ 64 → (a0_2 / 2 ^ x4_2.toNat) = ji21 := shr_small hji21
        obtain ⟨t271, A22, H⟩ := zO H
        by_cases c23 : x3_2.length < 8796093022208
        ·rw [if_pos c23] at H
         have LMc23 := Aside0.mk c23
         clear c23
         obtain ⟨y272, hy272⟩ : ∃ y_ : List ByteArray, y_ = (x3_2 ++ [t271]) := ⟨_, rfl⟩
         replace H : (impl_HostPut.l0 k2 y272 (wrap64 (x4_2 - 8)) a0_0 a0_1 a0_2) = some r := by first | (rw [hy272]; with_reducible exact H) | (have H2_ := (Option.bind_some _ _).symm.trans H; rw [hy272]; with_reducible exact H2_) | (have H2_ := (Option.bind_some _ _).symm.trans H; with_reducible exact H2_) | with_reducible exact H | (rw [hy272]; exact H) | exact H
         have Ny272 := Aside0.mk hy272
         clear hy272
         have H' := Aside0.mk H
         clear H
         obtain ⟨hcz24_0, hcz24_1, hcz24_2, hfz24_0, hfz24_1, hfz24_2⟩ := zc3 BK268
         go_wp2_with (first | ((with_reducible refine gate_callee (f := 59) rfl ?_); refine goesL_ (some 28) rfl rfl Tryd.func59 (by kernel_rfl) rfl #[.int .i64 (Go.bits .and .i64 (ji21) 255)] rfl (by (try simp only [List.map_toArray, List.map_cons, List.map_nil]); first | done | (simp only [hji21]; rfl) | rfl | (simp only [List.length_drop, List.length_take]; rfl)) ?_; (with_reducible refine (strconv_Itoa.calls (Go.bits .and .i64 (ji21) 255) t271 _ A22.out ?side1).mono ?_); (case side1 => exact GW.below HG.out zB); rintro e w25 ⟨rfl, hb⟩; refine ⟨_, rfl, ?_⟩; replace HO_3 := Aside0.mk (Kd.R_below (zR HO_3) hb); replace BK268 := zK BK268 hb; replace HB := zT hb; (try clear hb)) | ((with_reducible refine gate_builtin (b := .append) (xs := #[.tmp 22, .tmp 29]) rfl ?_); at_builtin; refine Kd.R_append Kd.string (w0 := w) w.heap.size rfl (.tmp 22) (.tmp 29) 22 9 (.string ⟨#[]⟩) 16 rfl Tryd.underlying22 info9 rfl (by decide) (by omega) u3 x3_2 t271 [.string t271] (fun _ => True) (fun _ => False) rfl rfl ?aP (fun _ hk => hk.elim) ?aF ?aO ?aB ?aS ?aL ?_; (case aP => exact rfl); (case aB => exact zB); (case aF => exact (fun _ _ => trivial)); (case aO => exact (zR HO_3)); (case aS => exact (below_size zB)); (case aL => have := LMc23.out; omega); intro v273 w26 ho hb hg hat; rw [← Ny272.out] at ho; have n0_ := Aside0.mk (blk_grown (g := gb268) (o := .cells #[.int .i64 a0_0, .string a0_1, .int .i64 a0_2] 77 (0, 0)) (by (with_reducible repeat (first | refine blk_drewN ?_ _ | refine blk_drew ?_ | refine blk_alloc ?_ _)); exact BK268.out) hg (Kd.R_ne HO_3.out BK268.out (by decide))); have n1_ := Aside0.mk (hb); have n2_ := Aside0.mk (ho); clear BK268; clear HB; clear HO_3; have BK268 := n0_; have HB := n1_; have HO274 := n2_; clear n0_ n1_ n2_; clear ho hb hg hat))
         go_roundg k2
         case measure => have := HJ1.out; have := HK2.out; omega
         case rel => exact ⟨(y272), (wrap64 (x4_2 - 8)), zS, H', ⟨by have := HJ1.out; have := HK2.out; omega⟩, ⟨zR HO274⟩, ⟨by (with_reducible repeat (first | refine blk_drewN ?_ _ | refine blk_drew ?_ | refine blk_alloc ?_ _)); exact BK268.out⟩, ⟨zB⟩⟩
        ·rw [if_neg c23] at H
         exact absurd H (by simp)
       ·rw [if_neg c20] at H
        exact absurd H (by simp)
      ·rw [if_neg c19] at H
       have c19b0 := decide_eq_false c19
       clear c19
       obtain ⟨t275, A27, H⟩ := zO H
       obtain rfl := Option.some.inj H
       obtain ⟨Ao28, co28, eo28⟩ := Kd.R_slice HO_3.out
       subst eo28
       go_wp2_with (first | ((with_reducible refine gate_callee (f := 53) rfl ?_); refine goesL_ (some 32) rfl rfl Tryd.func53 (by kernel_rfl) rfl #[.slice Ao28 x3_2.length co28, .string (⟨#[46]⟩ : ByteArray)] rfl zM ?_; (with_reducible refine (strings_Join.calls _ _ x3_2 (⟨#[46]⟩ : ByteArray) t275 _ ?side1 ?side2 A27.out).mono ?_); (case side1 => repeat (first | exact (Kd.R_reads' HO_3.out).2.2 | (with_reducible refine Kd.C_alloc ?_ _) | (with_reducible refine Kd.C_drewN ?_ _) | (with_reducible refine Kd.C_drew ?_))); (case side2 => exact (Kd.R_reads' HO_3.out).2.1); rintro e w29 ⟨rfl, hb⟩; refine ⟨_, rfl, ?_⟩; replace HO_3 := Aside0.mk (Kd.R_below (zR HO_3) hb); replace BK268 := zK BK268 hb; replace HB := zT hb; (try clear hb)))
       go_ret
       exact ⟨zE, zB⟩

/-! ### impl_isFour: function 45 -/
def impl_isFour.f (k : Nat) (a0 : ByteArray) : Option (Bool) := (impl_FourGet.f k a0).bind fun bt276 => (if bt276.2 = true then ((impl_HostPut.f k 2 (⟨#[]⟩ : ByteArray) bt276.1).bind fun t278 => (some (t278.toList == a0.toList))) else (some false))
theorem impl_isFour.mono : ∀ a0 k, LeO (impl_isFour.f k a0) (impl_isFour.f (k + 1) a0) := by
 intro a0 k
 unfold impl_isFour.f
 repeat' (first | (with_reducible first | apply impl_FourGet.mono | apply impl_HostPut.mono | exact LeO.refl _ | exact LeO.none _ | refine LeO.ite ?_ ?_ | refine LeO.bind ?_ fun _ => ?_) | apply impl_FourGet.mono | apply impl_HostPut.mono | exact LeO.none _ | refine LeO.ite ?_ ?_ | refine LeO.bind ?_ fun _ => ?_)
set_option maxHeartbeats 8000000 in
set_option maxRecDepth 100000 in
theorem impl_isFour.calls (k : Nat) (a0 : ByteArray) (r : Bool) (w : World) (h : impl_isFour.f k a0 = some r) (hG : GW w) :
  Calls Tryd.prog 45 #[.string a0] w fun e w' => e = .returned (.bool r) ∧ Below w.heap.size w w' := by
 have HG := Aside0.mk hG
 clear hG
 have hu77 := Tryd.underlying77
 have HB := Aside0.mk (Below.refl w.heap.size w)
 have H : ((impl_FourGet.f k a0).bind fun bt276 => (if bt276.2 = true then ((impl_HostPut.f k 2 (⟨#[]⟩ : ByteArray) bt276.1).bind fun t278 => (some (t278.toList == a0.toList))) else (some false))) = some r := h
 clear h
 replace H := Option.bind_eq_some_iff.mp H
 obtain ⟨⟨t276, t277⟩, A20, H⟩ := H
 replace H : (if t277 = true then ((impl_HostPut.f k 2 (⟨#[]⟩ : ByteArray) t276).bind fun t278 => (some (t278.toList == a0.toList))) else (some false)) = some r := H
 have A2 := Aside0.mk A20
 clear A20
 by_cases c3 : t277 = true
 ·subst c3
  replace H := zI H rfl
  obtain ⟨t278, A4, H⟩ := zO H
  obtain rfl := Option.some.inj H
  go_enter Tryd.func45, Tryd.ntmps45
  go_wp2_with (first | ((with_reducible refine gate_callee (f := 73) rfl ?_); refine goesL_ (some 7) rfl rfl Tryd.func73 (by kernel_rfl) rfl #[.string a0] rfl zM ?_; (with_reducible refine (impl_FourGet.calls k a0 t276 true _ A2.out ?side1).mono ?_); (case side1 => exact GW.below HG.out zB); rintro e w5 ⟨rfl, hb⟩; refine ⟨_, rfl, ?_⟩; replace HB := zT hb; (try clear hb)) | (go_at_call 74; (with_reducible refine (impl_HostPut.calls k 2 (⟨#[]⟩ : ByteArray) t276 t278 _ A4.out ?side1).mono ?_); (case side1 => exact GW.below HG.out zB); rintro e w6 ⟨rfl, hb⟩; replace HB := zT hb; (try clear hb)))
  go_ret
  exact ⟨zE, zB⟩
 ·replace c3 := Bool.eq_false_iff.mpr c3
  subst c3
  replace H := zJ H zF
  obtain rfl := Option.some.inj H
  go_enter Tryd.func45, Tryd.ntmps45
  go_wp2_with (first | ((with_reducible refine gate_callee (f := 73) rfl ?_); refine goesL_ (some 7) rfl rfl Tryd.func73 (by kernel_rfl) rfl #[.string a0] rfl zM ?_; (with_reducible refine (impl_FourGet.calls k a0 t276 false _ A2.out ?side1).mono ?_); (case side1 => exact GW.below HG.out zB); rintro e w7 ⟨rfl, hb⟩; refine ⟨_, rfl, ?_⟩; replace HB := zT hb; (try clear hb)))
  go_ret
  exact ⟨zE, zB⟩

/-! ### strings_IndexByte: function 75 -/
def strings_IndexByte.f (a0 : ByteArray) (a1 : Int) : Option Int := some (Lib.indexByte a0.data.toList a1.toNat.toUInt8)
theorem strings_IndexByte.calls (a0 : ByteArray) (a1 : Int) (r : Int) (w : World) (h : strings_IndexByte.f a0 a1 = some r) :
  Calls Tryd.prog 75 #[.string a0, .int .u8 a1] w fun e w' => e = .returned (.int .i64 r) ∧ Drawn0 w w' := by
 obtain rfl := Option.some.inj h
 refine (Tryd.strings_IndexByte a0 a1 w).mono ?_
 rintro e w' ⟨rfl, rfl⟩
 exact ⟨rfl, Drawn0.refl _⟩

end Go.Proofs.YtakobibclhdakaaDoor.PFnExactJarSave
