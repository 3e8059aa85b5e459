-- printed by a program of this session's (wip/myprint.py) out of the translation; Lean checks it
import Derived.Test.YtakobibclhdakaaDoorPFnExactJarSavex0
import Derived.Test.YtakobibclhdakaaDoorPFnExactJarSavex3
import Derived.Test.YtakobibclhdakaaDoorPFnExactJarSavex4
namespace Go.Proofs.YtakobibclhdakaaDoor.PFnExactJarSave
open Go.RowKit Go.Proofs.YtakobibclhdakaaDoorG Go.Proofs.YtakobibclhdakaaDoorZ Go.Proofs.YtakobibclhdakaaDoorW.PrintWords Go.Proofs.YtakobibclhdakaaDoorW.PrintLast Go.Proofs.YtakobibclhdakaaDoorW.PrintMore
attribute [local go_sem] str_leq str_gtr str_geq max2_int min2_int max_two min_two max_three min_three max_four min_four   -- for this text's walks alone
set_option linter.unusedVariables false
set_option linter.unusedSimpArgs false

/-! ### spec_l2Ends: function 83 -/
def spec_l2Ends.l0 : Nat → ByteArray → Bool → Int → Option (Bool)
 | 0, _, _, _ => none
 | k + 1, x4, x5, x6 => if x6 < (x4.size : Int) then (if x5 = true then (if 0 ≤ x6 then (if (bt x4 x6) ≥ 48 then (spec_l2Ends.l0 k x4 (decide ((bt x4 x6) ≤ 57)) (wrap64 (x6 + 1))) else (spec_l2Ends.l0 k x4 false (wrap64 (x6 + 1)))) else (none)) else (spec_l2Ends.l0 k x4 false (wrap64 (x6 + 1)))) else (if x5 = true then (some true) else (if (x4.size : Int) ≥ 2 then (if 0 < (x4.size : Int) then (if (bt x4 0) = 48 then (if 1 < (x4.size : Int) then (if (bt x4 1) = 120 then ((spec_l2Part.f k x4).bind fun t157 => (some (decide (t157 ≥ 0)))) else (if (bt x4 1) = 88 then ((spec_l2Part.f k x4).bind fun t158 => (some (decide (t158 ≥ 0)))) else (some false))) else (none)) else (some false)) else (none)) else (some false)))
def spec_l2Ends.f (k : Nat) (a0 : ByteArray) : Option (Bool) := (spec_l2Parts.f k a0).bind fun t153 => (if 0 ≤ (wrap64 ((t153.length : Int) - 1)) then (if (wrap64 ((t153.length : Int) - 1)) < (t153.length : Int) then (if (rdOf ByteArray.empty t153 (wrap64 ((t153.length : Int) - 1))).toList = ([] : List UInt8) then (some false) else (spec_l2Ends.l0 k (rdOf ByteArray.empty t153 (wrap64 ((t153.length : Int) - 1))) true 0)) else (none)) else (none))
theorem spec_l2Ends.mono_l : ∀ k, (∀ y0 y1 y2, LeO (spec_l2Ends.l0 k y0 y1 y2) (spec_l2Ends.l0 (k + 1) y0 y1 y2))
 | 0 => fun _ _ _ r h => by simp [spec_l2Ends.l0] at h
 | k + 1 => by
  have ih0 := spec_l2Ends.mono_l k
  all_goals intros
  all_goals first | unfold spec_l2Ends.l0
  all_goals repeat' (first | (with_reducible first | apply ih0 | apply spec_l2Part.mono | apply spec_l2Parts.mono | exact LeO.refl _ | exact LeO.none _ | refine LeO.ite ?_ ?_ | refine LeO.bind ?_ fun _ => ?_) | apply ih0 | apply spec_l2Part.mono | apply spec_l2Parts.mono | exact LeO.none _ | refine LeO.ite ?_ ?_ | refine LeO.bind ?_ fun _ => ?_)
theorem spec_l2Ends.mono : ∀ a0 k, LeO (spec_l2Ends.f k a0) (spec_l2Ends.f (k + 1) a0) := by
 intro a0 k
 have ih0 := spec_l2Ends.mono_l k
 unfold spec_l2Ends.f
 repeat' (first | (with_reducible first | apply ih0 | apply spec_l2Part.mono | apply spec_l2Parts.mono | exact LeO.refl _ | exact LeO.none _ | refine LeO.ite ?_ ?_ | refine LeO.bind ?_ fun _ => ?_) | apply ih0 | apply spec_l2Part.mono | apply spec_l2Parts.mono | exact LeO.none _ | refine LeO.ite ?_ ?_ | refine LeO.bind ?_ fun _ => ?_)
set_option maxHeartbeats 8000000 in
set_option maxRecDepth 100000 in
theorem spec_l2Ends.calls (k : Nat) (a0 : ByteArray) (r : Bool) (w : World) (h : spec_l2Ends.f k a0 = some r) :
  Calls Tryd.prog 83 #[.string a0] w fun e w' => e = .returned (.bool r) ∧ Below w.heap.size w w' := by
 have HB := Aside0.mk (Below.refl w.heap.size w)
 have H : ((spec_l2Parts.f k a0).bind fun t153 => (if 0 ≤ (wrap64 ((t153.length : Int) - 1)) then (if (wrap64 ((t153.length : Int) - 1)) < (t153.length : Int) then (if (rdOf ByteArray.empty t153 (wrap64 ((t153.length : Int) - 1))).toList = ([] : List UInt8) then (some false) else (spec_l2Ends.l0 k (rdOf ByteArray.empty t153 (wrap64 ((t153.length : Int) - 1))) true 0)) else (none)) else (none))) = some r := h
 clear h
 obtain ⟨t153, A2, H⟩ := zO H
 obtain ⟨ji3, hji3⟩ : ∃ j_ : Int, (wrap64 ((t153.length : Int) - 1)) = j_ := ⟨_, rfl⟩
 replace H : (if 0 ≤ (ji3) then (if (ji3) < (t153.length : Int) then (if (rdOf ByteArray.empty t153 (ji3)).toList = ([] : List UInt8) then (some false) else (spec_l2Ends.l0 k (rdOf ByteArray.empty t153 (ji3)) true 0)) else (none)) else (none)) = some r := by first | (rw [hji3] at H; exact H) | (simp only [hji3] at H ⊢; exact H)
 (try rw [hji3] at A2)
 have hji3w : (IntKind.i64.wrap ((t153.length : Int) - 1)) = ji3 := (i64_w _).trans hji3
 by_cases c4 : 0 ≤ (ji3)
 ·rw [if_pos c4] at H
  have c4b0 := decide_eq_true c4
  clear c4
  by_cases c5 : (ji3) < (t153.length : Int)
  ·rw [if_pos c5] at H
   have c5b0 := decide_eq_true c5
   clear c5
   by_cases c6 : (rdOf ByteArray.empty t153 (ji3)).toList = ([] : List UInt8)
   ·rw [if_pos c6] at H
    have c6b0 := beq_iff_eq.mpr c6
    have c6b1 := bne_eq_false_iff_eq.mpr c6
    clear c6
    obtain rfl := Option.some.inj H
    go_enter Tryd.func83, Tryd.ntmps83
    go_wp2_with (first | ((with_reducible refine gate_callee (f := 90) rfl ?_); refine goesL_ (some 8) rfl rfl Tryd.func90 (by kernel_rfl) rfl #[.string a0] rfl zM ?_; (with_reducible refine (spec_l2Parts.calls k a0 t153 _ A2.out).mono ?_); rintro e w7 ⟨v154, rfl, ho0, hb⟩; refine ⟨_, rfl, ?_⟩; have HO155 := zL ho0; replace HB := zT hb; (try clear hb ho0); obtain ⟨Ao8, co8, eo8⟩ := Kd.R_slice HO155.out; subst eo8; obtain ⟨ad156, e156, hx156_0, p156, q156⟩ := zA (Kd.R_reads' HO155.out).2.2 (ji3); cases e156))
    go_ret
    exact ⟨by first | rfl | (simp [errW_none, errW_some] <;> rfl) | (simp only [← hji3]; first | rfl | (simp [errW_none, errW_some] <;> rfl)) | (simp [*, errW_none, errW_some] <;> rfl), zB⟩
   ·rw [if_neg c6] at H
    have c6b0 := beq_eq_false_iff_ne.mpr c6
    have c6b1 := bne_iff_ne.mpr c6
    have H' := Aside0.mk H
    clear H
    go_enter Tryd.func83, Tryd.ntmps83
    go_wp2_with (first | ((with_reducible refine gate_callee (f := 90) rfl ?_); refine goesL_ (some 8) rfl rfl Tryd.func90 (by kernel_rfl) rfl #[.string a0] rfl zM ?_; (with_reducible refine (spec_l2Parts.calls k a0 t153 _ A2.out).mono ?_); rintro e w9 ⟨v154, rfl, ho0, hb⟩; refine ⟨_, rfl, ?_⟩; have HO155 := zL ho0; replace HB := zT hb; (try clear hb ho0); obtain ⟨Ao10, co10, eo10⟩ := Kd.R_slice HO155.out; subst eo10; obtain ⟨ad156, e156, hx156_0, p156, q156⟩ := zA (Kd.R_reads' HO155.out).2.2 (ji3); cases e156))
    go_loopg [5, 6] k (fun kq v5 v6 w' => ∃ (x5_1 : Bool) (x6_1 : Int), v5 = .bool x5_1 ∧ v6 = .int .i64 x6_1 ∧ Aside0 (spec_l2Ends.l0 kq (rdOf ByteArray.empty t153 (ji3)) x5_1 x6_1 = some r) ∧ Aside0 (kq ≤ k) ∧ Aside0 (Below w.heap.size w w'))
    case atStart => exact ⟨(true), (0), zS, zS, H', ⟨Nat.le_refl _⟩, ⟨zB⟩⟩
    case round =>
     clear H'
     try clear c4
     try clear c4b0
     try clear c5
     try clear c5b0
     try clear c6
     try clear c6b0
     try clear c6b1
     try clear hx156_0
     try clear p156
     try clear q156
     obtain ⟨x5_1, x6_1, rfl, rfl, HA, HK1, HB⟩ := hrel
     cases gk with
     | zero => exact absurd HA.out (by simp [spec_l2Ends.l0])
     | succ k1 =>
      have H := HA.out
      clear HA
      simp only [spec_l2Ends.l0] at H
      by_cases c11 : x6_1 < ((rdOf ByteArray.empty t153 (ji3)).size : Int)
      ·rw [if_pos c11] at H
       have c11b0 := decide_eq_true c11
       clear c11
       by_cases c12 : x5_1 = true
       ·subst c12
        replace H := zI H rfl
        by_cases c13 : 0 ≤ x6_1
        ·rw [if_pos c13] at H
         have c13b0 := decide_eq_true c13
         clear c13
         by_cases c15 : (bt (rdOf ByteArray.empty t153 (ji3)) x6_1) ≥ 48
         ·rw [if_pos c15] at H
          have c15b0 := decide_eq_true c15
          clear c15
          have H' := Aside0.mk H
          clear H
          obtain ⟨p14, q14⟩ := zN x6_1 ((rdOf ByteArray.empty t153 (ji3)).size : Int)
          have hx14 := bt_at (rdOf ByteArray.empty t153 (ji3)) x6_1
          obtain ⟨p16, q16⟩ := zN x6_1 ((rdOf ByteArray.empty t153 (ji3)).size : Int)
          have hx16 := bt_at (rdOf ByteArray.empty t153 (ji3)) x6_1
          go_wp2
          go_roundg k1
          case measure => have := HK1.out; omega
          case rel => exact ⟨(decide ((bt (rdOf ByteArray.empty t153 (ji3)) x6_1) ≤ 57)), (wrap64 (x6_1 + 1)), (by first | rfl | (simp; done) | (simp only [← hji3] <;> (first | rfl | simp)) | (simp [*]; done)), zS, H', ⟨by have := HK1.out; omega⟩, ⟨zB⟩⟩
         ·rw [if_neg c15] at H
          have c15b0 := decide_eq_false c15
          clear c15
          have H' := Aside0.mk H
          clear H
          obtain ⟨p14, q14⟩ := zN x6_1 ((rdOf ByteArray.empty t153 (ji3)).size : Int)
          have hx14 := bt_at (rdOf ByteArray.empty t153 (ji3)) x6_1
          go_wp2
          go_roundg k1
          case measure => have := HK1.out; omega
          case rel => exact ⟨(false), (wrap64 (x6_1 + 1)), zS, zS, H', ⟨by have := HK1.out; omega⟩, ⟨zB⟩⟩
        ·rw [if_neg c13] at H
         exact absurd H (by simp)
       ·replace c12 := Bool.eq_false_iff.mpr c12
        subst c12
        replace H := zJ H zF
        have H' := Aside0.mk H
        clear H
        go_wp2
        go_roundg k1
        case measure => have := HK1.out; omega
        case rel => exact ⟨(false), (wrap64 (x6_1 + 1)), zS, zS, H', ⟨by have := HK1.out; omega⟩, ⟨zB⟩⟩
      ·rw [if_neg c11] at H
       have c11b0 := decide_eq_false c11
       clear c11
       by_cases c17 : x5_1 = true
       ·subst c17
        replace H := zI H rfl
        obtain rfl := Option.some.inj H
        go_wp2
        go_ret
        exact ⟨by first | rfl | (simp [errW_none, errW_some] <;> rfl) | (simp only [← hji3]; first | rfl | (simp [errW_none, errW_some] <;> rfl)) | (simp [*, errW_none, errW_some] <;> rfl), zB⟩
       ·replace c17 := Bool.eq_false_iff.mpr c17
        subst c17
        replace H := zJ H zF
        by_cases c18 : ((rdOf ByteArray.empty t153 (ji3)).size : Int) ≥ 2
        ·rw [if_pos c18] at H
         have c18b0 := decide_eq_true c18
         have c18b1 : decide (2 ≤ (rdOf ByteArray.empty t153 (ji3)).size) = true := decide_eq_true (by omega)
         clear c18
         by_cases c19 : 0 < ((rdOf ByteArray.empty t153 (ji3)).size : Int)
         ·rw [if_pos c19] at H
          have c19b0 := decide_eq_true c19
          have c19b1 : decide (0 < (rdOf ByteArray.empty t153 (ji3)).size) = true := decide_eq_true (by omega)
          clear c19
          by_cases c21 : (bt (rdOf ByteArray.empty t153 (ji3)) 0) = 48
          ·rw [if_pos c21] at H
           have c21b0 := beq_iff_eq.mpr c21
           have c21b1 := bne_eq_false_iff_eq.mpr c21
           clear c21
           by_cases c22 : 1 < ((rdOf ByteArray.empty t153 (ji3)).size : Int)
           ·rw [if_pos c22] at H
            have c22b0 := decide_eq_true c22
            have c22b1 : decide (1 < (rdOf ByteArray.empty t153 (ji3)).size) = true := decide_eq_true (by omega)
            clear c22
            by_cases c24 : (bt (rdOf ByteArray.empty t153 (ji3)) 1) = 120
            ·rw [if_pos c24] at H
             have c24b0 := beq_iff_eq.mpr c24
             have c24b1 := bne_eq_false_iff_eq.mpr c24
             clear c24
             obtain ⟨t157, A25, H⟩ := zO H
             obtain rfl := Option.some.inj H
             have p20 : 0 ≤ (0 : Int) := (by omega)
             have q20 : 0 < (rdOf ByteArray.empty t153 (ji3)).size := (by have : (0 : Int) < ((rdOf ByteArray.empty t153 (ji3)).size : Int) := zD; omega)
             have hx20 : ∀ h : 0 < (rdOf ByteArray.empty t153 (ji3)).size, (((rdOf ByteArray.empty t153 (ji3))[0]'h).toNat : Int) = bt (rdOf ByteArray.empty t153 (ji3)) 0 := bt_at (rdOf ByteArray.empty t153 (ji3)) 0
             clear p20
             have qi20 : (0 < ((rdOf ByteArray.empty t153 (ji3)).size : Int)) = True := eq_true zD
             replace q20 := eq_true q20
             have p23 : 0 ≤ (1 : Int) := (by omega)
             have q23 : 1 < (rdOf ByteArray.empty t153 (ji3)).size := (by have : (1 : Int) < ((rdOf ByteArray.empty t153 (ji3)).size : Int) := zD; omega)
             have hx23 : ∀ h : 1 < (rdOf ByteArray.empty t153 (ji3)).size, (((rdOf ByteArray.empty t153 (ji3))[1]'h).toNat : Int) = bt (rdOf ByteArray.empty t153 (ji3)) 1 := bt_at (rdOf ByteArray.empty t153 (ji3)) 1
             clear p23
             have qi23 : (1 < ((rdOf ByteArray.empty t153 (ji3)).size : Int)) = True := eq_true zD
             replace q23 := eq_true q23
             go_wp2_with (first | (go_at_call 91; (with_reducible refine (spec_l2Part.calls k1 (rdOf ByteArray.empty t153 (ji3)) t157 _ A25.out).mono ?_); rintro e w' ⟨rfl, ⟨nd, rfl⟩⟩))
             go_ret
             exact ⟨by first | rfl | (simp [errW_none, errW_some] <;> rfl) | (simp only [← hji3]; first | rfl | (simp [errW_none, errW_some] <;> rfl)) | (simp [*, errW_none, errW_some] <;> rfl), zB⟩
            ·rw [if_neg c24] at H
             have c24b0 := beq_eq_false_iff_ne.mpr c24
             have c24b1 := bne_iff_ne.mpr c24
             by_cases c27 : (bt (rdOf ByteArray.empty t153 (ji3)) 1) = 88
             ·rw [if_pos c27] at H
              have c27b0 := beq_iff_eq.mpr c27
              have c27b1 := bne_eq_false_iff_eq.mpr c27
              clear c27
              obtain ⟨t158, A28, H⟩ := zO H
              obtain rfl := Option.some.inj H
              have p20 : 0 ≤ (0 : Int) := (by omega)
              have q20 : 0 < (rdOf ByteArray.empty t153 (ji3)).size := (by have : (0 : Int) < ((rdOf ByteArray.empty t153 (ji3)).size : Int) := zD; omega)
              have hx20 : ∀ h : 0 < (rdOf ByteArray.empty t153 (ji3)).size, (((rdOf ByteArray.empty t153 (ji3))[0]'h).toNat : Int) = bt (rdOf ByteArray.empty t153 (ji3)) 0 := bt_at (rdOf ByteArray.empty t153 (ji3)) 0
              clear p20
              have qi20 : (0 < ((rdOf ByteArray.empty t153 (ji3)).size : Int)) = True := eq_true zD
              replace q20 := eq_true q20
              have p23 : 0 ≤ (1 : Int) := (by omega)
              have q23 : 1 < (rdOf ByteArray.empty t153 (ji3)).size := (by have : (1 : Int) < ((rdOf ByteArray.empty t153 (ji3)).size : Int) := zD; omega)
              have hx23 : ∀ h : 1 < (rdOf ByteArray.empty t153 (ji3)).size, (((rdOf ByteArray.empty t153 (ji3))[1]'h).toNat : Int) = bt (rdOf ByteArray.empty t153 (ji3)) 1 := bt_at (rdOf ByteArray.empty t153 (ji3)) 1
              clear p23
              have qi23 : (1 < ((rdOf ByteArray.empty t153 (ji3)).size : Int)) = True := eq_true zD
              replace q23 := eq_true q23
              have p26 : 0 ≤ (1 : Int) := (by omega)
              have q26 : 1 < (rdOf ByteArray.empty t153 (ji3)).size := (by have : (1 : Int) < ((rdOf ByteArray.empty t153 (ji3)).size : Int) := zD; omega)
              have hx26 : ∀ h : 1 < (rdOf ByteArray.empty t153 (ji3)).size, (((rdOf ByteArray.empty t153 (ji3))[1]'h).toNat : Int) = bt (rdOf ByteArray.empty t153 (ji3)) 1 := bt_at (rdOf ByteArray.empty t153 (ji3)) 1
              clear p26
              have qi26 : (1 < ((rdOf ByteArray.empty t153 (ji3)).size : Int)) = True := eq_true zD
              replace q26 := eq_true q26
              go_wp2_with (first | (go_at_call 91; (with_reducible refine (spec_l2Part.calls k1 (rdOf ByteArray.empty t153 (ji3)) t158 _ A28.out).mono ?_); rintro e w' ⟨rfl, ⟨nd, rfl⟩⟩))
              go_ret
              exact ⟨by first | rfl | (simp [errW_none, errW_some] <;> rfl) | (simp only [← hji3]; first | rfl | (simp [errW_none, errW_some] <;> rfl)) | (simp [*, errW_none, errW_some] <;> rfl), zB⟩
             ·rw [if_neg c27] at H
              have c27b0 := beq_eq_false_iff_ne.mpr c27
              have c27b1 := bne_iff_ne.mpr c27
              obtain rfl := Option.some.inj H
              have p20 : 0 ≤ (0 : Int) := (by omega)
              have q20 : 0 < (rdOf ByteArray.empty t153 (ji3)).size := (by have : (0 : Int) < ((rdOf ByteArray.empty t153 (ji3)).size : Int) := zD; omega)
              have hx20 : ∀ h : 0 < (rdOf ByteArray.empty t153 (ji3)).size, (((rdOf ByteArray.empty t153 (ji3))[0]'h).toNat : Int) = bt (rdOf ByteArray.empty t153 (ji3)) 0 := bt_at (rdOf ByteArray.empty t153 (ji3)) 0
              clear p20
              have qi20 : (0 < ((rdOf ByteArray.empty t153 (ji3)).size : Int)) = True := eq_true zD
              replace q20 := eq_true q20
              have p23 : 0 ≤ (1 : Int) := (by omega)
              have q23 : 1 < (rdOf ByteArray.empty t153 (ji3)).size := (by have : (1 : Int) < ((rdOf ByteArray.empty t153 (ji3)).size : Int) := zD; omega)
              have hx23 : ∀ h : 1 < (rdOf ByteArray.empty t153 (ji3)).size, (((rdOf ByteArray.empty t153 (ji3))[1]'h).toNat : Int) = bt (rdOf ByteArray.empty t153 (ji3)) 1 := bt_at (rdOf ByteArray.empty t153 (ji3)) 1
              clear p23
              have qi23 : (1 < ((rdOf ByteArray.empty t153 (ji3)).size : Int)) = True := eq_true zD
              replace q23 := eq_true q23
              have p26 : 0 ≤ (1 : Int) := (by omega)
              have q26 : 1 < (rdOf ByteArray.empty t153 (ji3)).size := (by have : (1 : Int) < ((rdOf ByteArray.empty t153 (ji3)).size : Int) := zD; omega)
              have hx26 : ∀ h : 1 < (rdOf ByteArray.empty t153 (ji3)).size, (((rdOf ByteArray.empty t153 (ji3))[1]'h).toNat : Int) = bt (rdOf ByteArray.empty t153 (ji3)) 1 := bt_at (rdOf ByteArray.empty t153 (ji3)) 1
              clear p26
              have qi26 : (1 < ((rdOf ByteArray.empty t153 (ji3)).size : Int)) = True := eq_true zD
              replace q26 := eq_true q26
              go_wp2
              go_ret
              exact ⟨by first | rfl | (simp [errW_none, errW_some] <;> rfl) | (simp only [← hji3]; first | rfl | (simp [errW_none, errW_some] <;> rfl)) | (simp [*, errW_none, errW_some] <;> rfl), zB⟩
           ·rw [if_neg c22] at H
            exact absurd H (by simp)
          ·rw [if_neg c21] at H
           have c21b0 := beq_eq_false_iff_ne.mpr c21
           have c21b1 := bne_iff_ne.mpr c21
           obtain rfl := Option.some.inj H
           have p20 : 0 ≤ (0 : Int) := (by omega)
           have q20 : 0 < (rdOf ByteArray.empty t153 (ji3)).size := (by have : (0 : Int) < ((rdOf ByteArray.empty t153 (ji3)).size : Int) := zD; omega)
           have hx20 : ∀ h : 0 < (rdOf ByteArray.empty t153 (ji3)).size, (((rdOf ByteArray.empty t153 (ji3))[0]'h).toNat : Int) = bt (rdOf ByteArray.empty t153 (ji3)) 0 := bt_at (rdOf ByteArray.empty t153 (ji3)) 0
           clear p20
           have qi20 : (0 < ((rdOf ByteArray.empty t153 (ji3)).size : Int)) = True := eq_true zD
           replace q20 := eq_true q20
           go_wp2
           go_ret
           exact ⟨by first | rfl | (simp [errW_none, errW_some] <;> rfl) | (simp only [← hji3]; first | rfl | (simp [errW_none, errW_some] <;> rfl)) | (simp [*, errW_none, errW_some] <;> rfl), zB⟩
         ·rw [if_neg c19] at H
          exact absurd H (by simp)
        ·rw [if_neg c18] at H
         have c18b0 := decide_eq_false c18
         have c18b1 : decide (2 ≤ (rdOf ByteArray.empty t153 (ji3)).size) = false := decide_eq_false (by omega)
         clear c18
         obtain rfl := Option.some.inj H
         go_wp2
         go_ret
         exact ⟨by first | rfl | (simp [errW_none, errW_some] <;> rfl) | (simp only [← hji3]; first | rfl | (simp [errW_none, errW_some] <;> rfl)) | (simp [*, errW_none, errW_some] <;> rfl), zB⟩
  ·rw [if_neg c5] at H
   exact absurd H (by simp)
 ·rw [if_neg c4] at H
  exact absurd H (by simp)

/-! ### spec_HostOk: function 61 -/
def spec_HostOk.f (k : Nat) (a0_0 : Int) (a0_1 : ByteArray) (a0_2 : Int) : Option (Bool) := if a0_0 = 0 then (if a0_1.toList = ([] : List UInt8) then (some (a0_2 == 0)) else (some false)) else (if a0_0 = 1 then ((spec_l2Name.f k a0_1).bind fun t160 => (if t160 = true then ((spec_l2Ends.f k a0_1).bind fun t161 => (if t161 = true then (some false) else (some (a0_2 == 0)))) else (some false))) else (if a0_0 = 2 then (if a0_1.toList = ([] : List UInt8) then ((spec_l1In.f a0_2 0 4294967295).bind fun t162 => (some t162)) else (some false)) else (some false)))
theorem spec_HostOk.mono : ∀ a0 a1 a2 k, LeO (spec_HostOk.f k a0 a1 a2) (spec_HostOk.f (k + 1) a0 a1 a2) := by
 intro a0 a1 a2 k
 unfold spec_HostOk.f
 repeat' (first | (with_reducible first | apply spec_l2Ends.mono | apply spec_l2Name.mono | exact LeO.refl _ | exact LeO.none _ | refine LeO.ite ?_ ?_ | refine LeO.bind ?_ fun _ => ?_) | apply spec_l2Ends.mono | apply spec_l2Name.mono | exact LeO.none _ | refine LeO.ite ?_ ?_ | refine LeO.bind ?_ fun _ => ?_)
set_option maxHeartbeats 8000000 in
set_option maxRecDepth 100000 in
theorem spec_HostOk.calls (k : Nat) (a0_0 : Int) (a0_1 : ByteArray) (a0_2 : Int) (r : Bool) (w : World) (h : spec_HostOk.f k a0_0 a0_1 a0_2 = some r) :
  Calls Tryd.prog 61 #[.agg #[.int .i64 a0_0, .string a0_1, .int .i64 a0_2]] w fun e w' => e = .returned (.bool r) ∧ Below w.heap.size w w' := by
 have hu77 := Tryd.underlying77
 have HB := Aside0.mk (Below.refl w.heap.size w)
 have H : (if a0_0 = 0 then (if a0_1.toList = ([] : List UInt8) then (some (a0_2 == 0)) else (some false)) else (if a0_0 = 1 then ((spec_l2Name.f k a0_1).bind fun t160 => (if t160 = true then ((spec_l2Ends.f k a0_1).bind fun t161 => (if t161 = true then (some false) else (some (a0_2 == 0)))) else (some false))) else (if a0_0 = 2 then (if a0_1.toList = ([] : List UInt8) then ((spec_l1In.f a0_2 0 4294967295).bind fun t162 => (some t162)) else (some false)) else (some false)))) = some r := h
 clear h
 by_cases c2 : a0_0 = 0
 ·rw [if_pos c2] at H
  have c2b0 := beq_iff_eq.mpr c2
  have c2b1 := bne_eq_false_iff_eq.mpr c2
  clear c2
  by_cases c3 : a0_1.toList = ([] : List UInt8)
  ·rw [if_pos c3] at H
   have c3b0 := beq_iff_eq.mpr c3
   have c3b1 := bne_eq_false_iff_eq.mpr c3
   clear c3
   obtain rfl := Option.some.inj H
   go_enter Tryd.func61, Tryd.ntmps61
   go_wp2_with (first | ((with_reducible refine gate_dst (N := 1) rfl ?_); refine zX (N := 1) (cs := #[.int .i64 a0_0, .string a0_1, .int .i64 a0_2]) (t := 77) rfl rfl ?hr zB ?_; (case hr => first | (go_simp; done) | (go_simp; rfl)); clear HB; intro gb159 w4 HB BK159 GW159; have GE159 := GW159; obtain ⟨hcz5_0, hcz5_1, hcz5_2, hfz5_0, hfz5_1, hfz5_2⟩ := zc3 BK159))
   go_ret
   exact ⟨zE, zB⟩
  ·rw [if_neg c3] at H
   have c3b0 := beq_eq_false_iff_ne.mpr c3
   have c3b1 := bne_iff_ne.mpr c3
   obtain rfl := Option.some.inj H
   go_enter Tryd.func61, Tryd.ntmps61
   go_wp2_with (first | ((with_reducible refine gate_dst (N := 1) rfl ?_); refine zX (N := 1) (cs := #[.int .i64 a0_0, .string a0_1, .int .i64 a0_2]) (t := 77) rfl rfl ?hr zB ?_; (case hr => first | (go_simp; done) | (go_simp; rfl)); clear HB; intro gb159 w6 HB BK159 GW159; have GE159 := GW159; obtain ⟨hcz7_0, hcz7_1, hcz7_2, hfz7_0, hfz7_1, hfz7_2⟩ := zc3 BK159))
   go_ret
   exact ⟨zE, zB⟩
 ·rw [if_neg c2] at H
  have c2b0 := beq_eq_false_iff_ne.mpr c2
  have c2b1 := bne_iff_ne.mpr c2
  by_cases c8 : a0_0 = 1
  ·rw [if_pos c8] at H
   have c8b0 := beq_iff_eq.mpr c8
   have c8b1 := bne_eq_false_iff_eq.mpr c8
   clear c8
   obtain ⟨t160, A9, H⟩ := zO H
   by_cases c10 : t160 = true
   ·subst c10
    replace H := zI H rfl
    obtain ⟨t161, A11, H⟩ := zO H
    by_cases c12 : t161 = true
    ·subst c12
     replace H := zI H rfl
     obtain rfl := Option.some.inj H
     go_enter Tryd.func61, Tryd.ntmps61
     go_wp2_with (first | ((with_reducible refine gate_dst (N := 1) rfl ?_); refine zX (N := 1) (cs := #[.int .i64 a0_0, .string a0_1, .int .i64 a0_2]) (t := 77) rfl rfl ?hr zB ?_; (case hr => first | (go_simp; done) | (go_simp; rfl)); clear HB; intro gb159 w13 HB BK159 GW159; have GE159 := GW159; obtain ⟨hcz14_0, hcz14_1, hcz14_2, hfz14_0, hfz14_1, hfz14_2⟩ := zc3 BK159) | ((with_reducible refine gate_callee (f := 82) rfl ?_); refine goesL_ (some 19) rfl rfl Tryd.func82 (by kernel_rfl) rfl #[.string a0_1] rfl zM ?_; (with_reducible refine (spec_l2Name.calls k a0_1 true _ A9.out).mono ?_); rintro e w15 ⟨rfl, hb⟩; refine ⟨_, rfl, ?_⟩; replace BK159 := zK BK159 hb; replace HB := zT hb; (try clear hb); obtain ⟨hcz16_0, hcz16_1, hcz16_2, hfz16_0, hfz16_1, hfz16_2⟩ := zc3 BK159) | (go_at_call 83; (with_reducible refine (spec_l2Ends.calls k a0_1 true _ A11.out).mono ?_); rintro e w17 ⟨rfl, hb⟩; replace BK159 := zK BK159 hb; replace HB := zT hb; (try clear hb)))
     go_ret
     exact ⟨zE, zB⟩
    ·replace c12 := Bool.eq_false_iff.mpr c12
     subst c12
     replace H := zJ H zF
     obtain rfl := Option.some.inj H
     go_enter Tryd.func61, Tryd.ntmps61
     go_wp2_with (first | ((with_reducible refine gate_dst (N := 1) rfl ?_); refine zX (N := 1) (cs := #[.int .i64 a0_0, .string a0_1, .int .i64 a0_2]) (t := 77) rfl rfl ?hr zB ?_; (case hr => first | (go_simp; done) | (go_simp; rfl)); clear HB; intro gb159 w18 HB BK159 GW159; have GE159 := GW159; obtain ⟨hcz19_0, hcz19_1, hcz19_2, hfz19_0, hfz19_1, hfz19_2⟩ := zc3 BK159) | ((with_reducible refine gate_callee (f := 82) rfl ?_); refine goesL_ (some 19) rfl rfl Tryd.func82 (by kernel_rfl) rfl #[.string a0_1] rfl zM ?_; (with_reducible refine (spec_l2Name.calls k a0_1 true _ A9.out).mono ?_); rintro e w20 ⟨rfl, hb⟩; refine ⟨_, rfl, ?_⟩; replace BK159 := zK BK159 hb; replace HB := zT hb; (try clear hb); obtain ⟨hcz21_0, hcz21_1, hcz21_2, hfz21_0, hfz21_1, hfz21_2⟩ := zc3 BK159) | (go_at_call 83; (with_reducible refine (spec_l2Ends.calls k a0_1 false _ A11.out).mono ?_); rintro e w22 ⟨rfl, hb⟩; replace BK159 := zK BK159 hb; replace HB := zT hb; (try clear hb); obtain ⟨hcz23_0, hcz23_1, hcz23_2, hfz23_0, hfz23_1, hfz23_2⟩ := zc3 BK159))
     go_ret
     exact ⟨zE, zB⟩
   ·replace c10 := Bool.eq_false_iff.mpr c10
    subst c10
    replace H := zJ H zF
    obtain rfl := Option.some.inj H
    go_enter Tryd.func61, Tryd.ntmps61
    go_wp2_with (first | ((with_reducible refine gate_dst (N := 1) rfl ?_); refine zX (N := 1) (cs := #[.int .i64 a0_0, .string a0_1, .int .i64 a0_2]) (t := 77) rfl rfl ?hr zB ?_; (case hr => first | (go_simp; done) | (go_simp; rfl)); clear HB; intro gb159 w24 HB BK159 GW159; have GE159 := GW159; obtain ⟨hcz25_0, hcz25_1, hcz25_2, hfz25_0, hfz25_1, hfz25_2⟩ := zc3 BK159) | ((with_reducible refine gate_callee (f := 82) rfl ?_); refine goesL_ (some 19) rfl rfl Tryd.func82 (by kernel_rfl) rfl #[.string a0_1] rfl zM ?_; (with_reducible refine (spec_l2Name.calls k a0_1 false _ A9.out).mono ?_); rintro e w26 ⟨rfl, hb⟩; refine ⟨_, rfl, ?_⟩; replace BK159 := zK BK159 hb; replace HB := zT hb; (try clear hb)))
    go_ret
    exact ⟨zE, zB⟩
  ·rw [if_neg c8] at H
   have c8b0 := beq_eq_false_iff_ne.mpr c8
   have c8b1 := bne_iff_ne.mpr c8
   by_cases c27 : a0_0 = 2
   ·rw [if_pos c27] at H
    have c27b0 := beq_iff_eq.mpr c27
    have c27b1 := bne_eq_false_iff_eq.mpr c27
    clear c27
    by_cases c28 : a0_1.toList = ([] : List UInt8)
    ·rw [if_pos c28] at H
     have c28b0 := beq_iff_eq.mpr c28
     have c28b1 := bne_eq_false_iff_eq.mpr c28
     clear c28
     obtain ⟨t162, A29, H⟩ := zO H
     obtain rfl := Option.some.inj H
     go_enter Tryd.func61, Tryd.ntmps61
     go_wp2_with (first | ((with_reducible refine gate_dst (N := 1) rfl ?_); refine zX (N := 1) (cs := #[.int .i64 a0_0, .string a0_1, .int .i64 a0_2]) (t := 77) rfl rfl ?hr zB ?_; (case hr => first | (go_simp; done) | (go_simp; rfl)); clear HB; intro gb159 w30 HB BK159 GW159; have GE159 := GW159; obtain ⟨hcz31_0, hcz31_1, hcz31_2, hfz31_0, hfz31_1, hfz31_2⟩ := zc3 BK159) | (go_at_call 44; (with_reducible refine (spec_l1In.calls a0_2 0 4294967295 t162 _ A29.out).mono ?_); rintro e w' ⟨rfl, ⟨nd, rfl⟩⟩))
     go_ret
     exact ⟨zE, zB⟩
    ·rw [if_neg c28] at H
     have c28b0 := beq_eq_false_iff_ne.mpr c28
     have c28b1 := bne_iff_ne.mpr c28
     obtain rfl := Option.some.inj H
     go_enter Tryd.func61, Tryd.ntmps61
     go_wp2_with (first | ((with_reducible refine gate_dst (N := 1) rfl ?_); refine zX (N := 1) (cs := #[.int .i64 a0_0, .string a0_1, .int .i64 a0_2]) (t := 77) rfl rfl ?hr zB ?_; (case hr => first | (go_simp; done) | (go_simp; rfl)); clear HB; intro gb159 w32 HB BK159 GW159; have GE159 := GW159; obtain ⟨hcz33_0, hcz33_1, hcz33_2, hfz33_0, hfz33_1, hfz33_2⟩ := zc3 BK159))
     go_ret
     exact ⟨zE, zB⟩
   ·rw [if_neg c27] at H
    have c27b0 := beq_eq_false_iff_ne.mpr c27
    have c27b1 := bne_iff_ne.mpr c27
    obtain rfl := Option.some.inj H
    go_enter Tryd.func61, Tryd.ntmps61
    go_wp2_with (first | ((with_reducible refine gate_dst (N := 1) rfl ?_); refine zX (N := 1) (cs := #[.int .i64 a0_0, .string a0_1, .int .i64 a0_2]) (t := 77) rfl rfl ?hr zB ?_; (case hr => first | (go_simp; done) | (go_simp; rfl)); clear HB; intro gb159 w34 HB BK159 GW159; have GE159 := GW159; obtain ⟨hcz35_0, hcz35_1, hcz35_2, hfz35_0, hfz35_1, hfz35_2⟩ := zc3 BK159))
    go_ret
    exact ⟨zE, zB⟩

/-! ### spec_l7Name: function 32 -/
def spec_l7Name.f (k : Nat) (a0 : ByteArray) : Option (Bool) := (spec_HostOk.f k 1 a0 0).bind fun t163 => (some t163)
theorem spec_l7Name.mono : ∀ a0 k, LeO (spec_l7Name.f k a0) (spec_l7Name.f (k + 1) a0) := by
 intro a0 k
 unfold spec_l7Name.f
 repeat' (first | (with_reducible first | apply spec_HostOk.mono | exact LeO.refl _ | exact LeO.none _ | refine LeO.ite ?_ ?_ | refine LeO.bind ?_ fun _ => ?_) | apply spec_HostOk.mono | exact LeO.none _ | refine LeO.ite ?_ ?_ | refine LeO.bind ?_ fun _ => ?_)
set_option maxHeartbeats 8000000 in
set_option maxRecDepth 100000 in
theorem spec_l7Name.calls (k : Nat) (a0 : ByteArray) (r : Bool) (w : World) (h : spec_l7Name.f k a0 = some r) :
  Calls Tryd.prog 32 #[.string a0] w fun e w' => e = .returned (.bool r) ∧ Below w.heap.size w w' := by
 have hu77 := Tryd.underlying77
 have HB := Aside0.mk (Below.refl w.heap.size w)
 have H : ((spec_HostOk.f k 1 a0 0).bind fun t163 => (some t163)) = some r := h
 clear h
 obtain ⟨t163, A2, H⟩ := zO H
 obtain rfl := Option.some.inj H
 go_enter Tryd.func32, Tryd.ntmps32
 go_wp2_with (first | ((with_reducible refine gate_callee (f := 61) rfl ?_); refine goesL_ (some 5) rfl rfl Tryd.func61 (by kernel_rfl) rfl #[.agg #[.int .i64 1, .string a0, .int .i64 0]] rfl zM ?_; (with_reducible refine (spec_HostOk.calls k 1 a0 0 t163 _ A2.out).mono ?_); rintro e w3 ⟨rfl, hb⟩; refine ⟨_, rfl, ?_⟩; replace HB := zT hb; (try clear hb)))
 go_ret
 exact ⟨zE, zB⟩

/-! ### spec_FourGet: function 71 -/
mutual
def spec_FourGet.j0 : Nat → List ByteArray → Bool → Option (Int × Bool)
 | 0, _, _ => none
 | k + 1, x4, x19 => if x19 = true then (some (0, false)) else (spec_FourGet.l0 k x4 0 0)
def spec_FourGet.l0 : Nat → List ByteArray → Int → Int → Option (Int × Bool)
 | 0, _, _, _ => none
 | k + 1, x4, x5, x6 => if x6 < (x4.length : Int) then (if 0 ≤ x6 then ((spec_l2Part.f k (rdOf ByteArray.empty x4 x6)).bind fun t168 => (if x6 = (wrap64 ((x4.length : Int) - 1)) then (spec_FourGet.l1 k x4 x5 x6 t168 255 x6) else ((spec_l1In.f t168 0 255).bind fun t170 => (if t170 = true then (spec_FourGet.l0 k x4 (wrap64 ((wrap64 (x5 * 256)) + t168)) (wrap64 (x6 + 1))) else (some (0, false)))))) else (none)) else (some (x5, true))
def spec_FourGet.l1 : Nat → List ByteArray → Int → Int → Int → Int → Int → Option (Int × Bool)
 | 0, _, _, _, _, _, _ => none
 | k + 1, x4, x5, x6, x7, x8, x9 => if x9 < 3 then (spec_FourGet.l1 k x4 x5 x6 x7 (wrap64 ((wrap64 (x8 * 256)) + 255)) (wrap64 (x9 + 1))) else ((spec_l1In.f x7 0 x8).bind fun t169 => (if t169 = true then (spec_FourGet.l0 k x4 (wrap64 ((wrap64 (x5 * (wrap64 (x8 + 1)))) + x7)) (wrap64 (x6 + 1))) else (some (0, false))))
end
def spec_FourGet.f (k : Nat) (a0 : ByteArray) : Option (Int × Bool) := (spec_l2Parts.f k a0).bind fun t164 => (if (t164.length : Int) > 4 then (spec_FourGet.j0 k t164 true) else (spec_FourGet.j0 k t164 (decide ((a0.size : Int) > 200))))
theorem spec_FourGet.mono_l : ∀ k, (∀ y0 y1, LeO (spec_FourGet.j0 k y0 y1) (spec_FourGet.j0 (k + 1) y0 y1)) ∧ (∀ y0 y1 y2, LeO (spec_FourGet.l0 k y0 y1 y2) (spec_FourGet.l0 (k + 1) y0 y1 y2)) ∧ (∀ y0 y1 y2 y3 y4 y5, LeO (spec_FourGet.l1 k y0 y1 y2 y3 y4 y5) (spec_FourGet.l1 (k + 1) y0 y1 y2 y3 y4 y5))
 | 0 => ⟨fun _ _ r h => by simp [spec_FourGet.j0] at h, fun _ _ _ r h => by simp [spec_FourGet.l0] at h, fun _ _ _ _ _ _ r h => by simp [spec_FourGet.l1] at h⟩
 | k + 1 => by
  obtain ⟨ih0, ih1, ih2⟩ := spec_FourGet.mono_l k
  refine ⟨?_, ?_, ?_⟩
  all_goals intros
  all_goals first | unfold spec_FourGet.j0 | unfold spec_FourGet.l0 | unfold spec_FourGet.l1
  all_goals repeat' (first | (with_reducible first | apply ih0 | apply ih1 | apply ih2 | apply spec_l2Part.mono | apply spec_l2Parts.mono | exact LeO.refl _ | exact LeO.none _ | refine LeO.ite ?_ ?_ | refine LeO.bind ?_ fun _ => ?_) | apply ih0 | apply ih1 | apply ih2 | apply spec_l2Part.mono | apply spec_l2Parts.mono | exact LeO.none _ | refine LeO.ite ?_ ?_ | refine LeO.bind ?_ fun _ => ?_)
theorem spec_FourGet.mono : ∀ a0 k, LeO (spec_FourGet.f k a0) (spec_FourGet.f (k + 1) a0) := by
 intro a0 k
 obtain ⟨ih0, ih1, ih2⟩ := spec_FourGet.mono_l k
 unfold spec_FourGet.f
 repeat' (first | (with_reducible first | apply ih0 | apply ih1 | apply ih2 | apply spec_l2Part.mono | apply spec_l2Parts.mono | exact LeO.refl _ | exact LeO.none _ | refine LeO.ite ?_ ?_ | refine LeO.bind ?_ fun _ => ?_) | apply ih0 | apply ih1 | apply ih2 | apply spec_l2Part.mono | apply spec_l2Parts.mono | exact LeO.none _ | refine LeO.ite ?_ ?_ | refine LeO.bind ?_ fun _ => ?_)
set_option maxHeartbeats 8000000 in
set_option maxRecDepth 100000 in
theorem spec_FourGet.calls (k : Nat) (a0 : ByteArray) (r1 : Int) (r2 : Bool) (w : World) (h : spec_FourGet.f k a0 = some (r1, r2)) :
  Calls Tryd.prog 71 #[.string a0] w fun e w' => e = .returned (.tuple #[.int .i64 r1, .bool r2]) ∧ Below w.heap.size w w' := by
 have HB := Aside0.mk (Below.refl w.heap.size w)
 have H : ((spec_l2Parts.f k a0).bind fun t164 => (if (t164.length : Int) > 4 then (spec_FourGet.j0 k t164 true) else (spec_FourGet.j0 k t164 (decide ((a0.size : Int) > 200))))) = some (r1, r2) := h
 clear h
 obtain ⟨t164, A2, H⟩ := zO H
 have HC3 := Aside0.mk H
 clear H
 go_enter Tryd.func71, Tryd.ntmps71
 go_upto_region 2 with (first | ((with_reducible refine gate_callee (f := 90) rfl ?_); refine goesL_ (some 11) rfl rfl Tryd.func90 (by kernel_rfl) rfl #[.string a0] rfl zM ?_; (with_reducible refine (spec_l2Parts.calls k a0 t164 _ A2.out).mono ?_); rintro e w4 ⟨v165, rfl, ho0, hb⟩; refine ⟨_, rfl, ?_⟩; have HO166 := zL ho0; replace HB := zT hb; (try clear hb ho0)))
 (try simp only [Act.put, List.setIfInBounds_toArray, List.set_cons_zero, List.set_cons_succ])
 go_cut [19] (fun v19 wc => ∃ (kq : Nat) (x19_2 : Bool), v19 = .bool x19_2 ∧ Aside0 (spec_FourGet.j0 kq t164 x19_2 = some (r1, r2)) ∧ Aside0 (kq ≤ k) ∧ Aside0 (Kd.R Kd.string 9 wc w.heap.size (fun _ => True) v165 t164) ∧ Aside0 (Below w.heap.size w wc))
 case first =>
  have H := HC3.out
  clear HC3
  by_cases c5 : (t164.length : Int) > 4
  ·rw [if_pos c5] at H
   have c5b0 := decide_eq_true c5
   have c5b1 : decide (4 < t164.length) = true := decide_eq_true (by omega)
   clear c5
   (first | rw [c5b0] | (simp only [i64_w, i32_w]; rw [c5b0]) | skip)
   have H' := Aside0.mk H
   clear H
   obtain ⟨Ao6, co6, eo6⟩ := Kd.R_slice HO166.out
   subst eo6
   go_wp2
   go_meet
   case rel => exact ⟨_, (true), zS, H', ⟨by first | omega | exact Nat.le_refl _⟩, ⟨zR HO166⟩, ⟨zB⟩⟩
  ·rw [if_neg c5] at H
   have c5b0 := decide_eq_false c5
   have c5b1 : decide (4 < t164.length) = false := decide_eq_false (by omega)
   clear c5
   (first | rw [c5b0] | (simp only [i64_w, i32_w]; rw [c5b0]) | skip)
   have H' := Aside0.mk H
   clear H
   obtain ⟨Ao7, co7, eo7⟩ := Kd.R_slice HO166.out
   subst eo7
   go_wp2
   go_meet
   case rel => exact ⟨_, (decide ((a0.size : Int) > 200)), zS, H', ⟨by first | omega | exact Nat.le_refl _⟩, ⟨zR HO166⟩, ⟨zB⟩⟩
 case rest =>
  clear HC3
  obtain ⟨kq, x19_2, rfl, HA, HJ2, HO_4, HB⟩ := hcut
  cases kq with
  | zero => exact absurd HA.out (by simp [spec_FourGet.j0])
  | succ kj2 =>
   have H := HA.out
   clear HA
   simp only [spec_FourGet.j0] at H
   by_cases c8 : x19_2 = true
   ·subst c8
    replace H := zI H rfl
    simp only [Option.some.injEq, Prod.mk.injEq] at H
    obtain ⟨rfl, rfl⟩ := H
    go_wp2
    go_ret2
    exact ⟨zE, zB⟩
   ·replace c8 := Bool.eq_false_iff.mpr c8
    subst c8
    replace H := zJ H zF
    have H' := Aside0.mk H
    clear H
    go_wp2
    go_loopg [5, 6] kj2 (fun kq v5 v6 w' => ∃ (x5_2 : Int) (x6_2 : Int), v5 = .int .i64 x5_2 ∧ v6 = .int .i64 x6_2 ∧ Aside0 (spec_FourGet.l0 kq t164 x5_2 x6_2 = some (r1, r2)) ∧ Aside0 (kq ≤ kj2) ∧ Aside0 (Kd.R Kd.string 9 w' w.heap.size (fun _ => True) v165 t164) ∧ Aside0 (Below w.heap.size w w'))
    case atStart => exact ⟨(0), (0), zS, zS, H', ⟨Nat.le_refl _⟩, ⟨zR HO_4⟩, ⟨zB⟩⟩
    case round =>
     clear H'
     try clear c8
     obtain ⟨x5_2, x6_2, rfl, rfl, HA, HK2, HO_4, HB⟩ := hrel
     cases gk with
     | zero => exact absurd HA.out (by simp [spec_FourGet.l0])
     | succ k2 =>
      have H := HA.out
      clear HA
      simp only [spec_FourGet.l0] at H
      by_cases c9 : x6_2 < (t164.length : Int)
      ·rw [if_pos c9] at H
       have c9b0 := decide_eq_true c9
       clear c9
       by_cases c10 : 0 ≤ x6_2
       ·rw [if_pos c10] at H
        have c10b0 := decide_eq_true c10
        clear c10
        obtain ⟨t168, A11, H⟩ := zO H
        by_cases c12 : x6_2 = (wrap64 ((t164.length : Int) - 1))
        ·rw [if_pos c12] at H
         have c12b0 := beq_iff_eq.mpr c12
         have c12b1 := bne_eq_false_iff_eq.mpr c12
         clear c12
         have H' := Aside0.mk H
         clear H
         obtain ⟨Ao13, co13, eo13⟩ := Kd.R_slice HO_4.out
         subst eo13
         obtain ⟨ad167, e167, hx167_0, p167, q167⟩ := zA (Kd.R_reads' HO_4.out).2.2 x6_2
         cases e167
         go_wp2_with (first | ((with_reducible refine gate_callee (f := 91) rfl ?_); refine goesL_ (some 30) rfl rfl Tryd.func91 (by kernel_rfl) rfl #[.string (rdOf ByteArray.empty t164 x6_2)] rfl zM ?_; (with_reducible refine (spec_l2Part.calls k2 (rdOf ByteArray.empty t164 x6_2) t168 _ A11.out).mono ?_); rintro e w' ⟨rfl, ⟨nd, rfl⟩⟩; refine ⟨_, rfl, ?_⟩))
         go_loopg [8, 9] k2 (fun kq v8 v9 w' => ∃ (x8_3 : Int) (x9_3 : Int), v8 = .int .i64 x8_3 ∧ v9 = .int .i64 x9_3 ∧ Aside0 (spec_FourGet.l1 kq t164 x5_2 x6_2 t168 x8_3 x9_3 = some (r1, r2)) ∧ Aside0 (kq ≤ k2) ∧ Aside0 (Kd.R Kd.string 9 w' w.heap.size (fun _ => True) (.slice (some ad167) t164.length co13) t164) ∧ Aside0 (Below w.heap.size w w'))
         case atStart => exact ⟨(255), (x6_2), zS, zS, H', ⟨Nat.le_refl _⟩, ⟨zR HO_4⟩, ⟨zB⟩⟩
         case round =>
          clear H'
          try clear c8
          try clear c9
          try clear c9b0
          try clear c10
          try clear c10b0
          try clear c12
          try clear c12b0
          try clear c12b1
          try clear hx167_0
          try clear p167
          try clear q167
          obtain ⟨x8_3, x9_3, rfl, rfl, HA, HK3, HO_4, HB⟩ := hrel
          cases gk with
          | zero => exact absurd HA.out (by simp [spec_FourGet.l1])
          | succ k3 =>
           have H := HA.out
           clear HA
           simp only [spec_FourGet.l1] at H
           by_cases c14 : x9_3 < 3
           ·rw [if_pos c14] at H
            have c14b0 := decide_eq_true c14
            clear c14
            have H' := Aside0.mk H
            clear H
            go_wp2
            go_roundg k3
            case measure => have := HJ2.out; have := HK2.out; have := HK3.out; omega
            case rel => exact ⟨(wrap64 ((wrap64 (x8_3 * 256)) + 255)), (wrap64 (x9_3 + 1)), zS, zS, H', ⟨by have := HJ2.out; have := HK2.out; have := HK3.out; omega⟩, ⟨zR HO_4⟩, ⟨zB⟩⟩
           ·rw [if_neg c14] at H
            have c14b0 := decide_eq_false c14
            clear c14
            obtain ⟨t169, A15, H⟩ := zO H
            by_cases c16 : t169 = true
            ·subst c16
             replace H := zI H rfl
             have H' := Aside0.mk H
             clear H
             go_wp2_with (first | ((with_reducible refine gate_callee (f := 44) rfl ?_); refine goesL_ (some 52) rfl rfl Tryd.func44 (by kernel_rfl) rfl #[.int .i64 t168, .int .i64 0, .int .i64 x8_3] rfl zM ?_; (with_reducible refine (spec_l1In.calls t168 0 x8_3 true _ A15.out).mono ?_); rintro e w' ⟨rfl, ⟨nd, rfl⟩⟩; refine ⟨_, rfl, ?_⟩))
             go_roundg k3
             case measure => have := HJ2.out; have := HK2.out; have := HK3.out; omega
             case rel => exact ⟨(wrap64 ((wrap64 (x5_2 * (wrap64 (x8_3 + 1)))) + t168)), (wrap64 (x6_2 + 1)), zS, zS, H', ⟨by have := HJ2.out; have := HK2.out; have := HK3.out; omega⟩, ⟨zR HO_4⟩, ⟨zB⟩⟩
            ·replace c16 := Bool.eq_false_iff.mpr c16
             subst c16
             replace H := zJ H zF
             simp only [Option.some.injEq, Prod.mk.injEq] at H
             obtain ⟨rfl, rfl⟩ := H
             go_wp2_with (first | ((with_reducible refine gate_callee (f := 44) rfl ?_); refine goesL_ (some 52) rfl rfl Tryd.func44 (by kernel_rfl) rfl #[.int .i64 t168, .int .i64 0, .int .i64 x8_3] rfl zM ?_; (with_reducible refine (spec_l1In.calls t168 0 x8_3 false _ A15.out).mono ?_); rintro e w' ⟨rfl, ⟨nd, rfl⟩⟩; refine ⟨_, rfl, ?_⟩))
             go_ret2
             exact ⟨zE, zB⟩
        ·rw [if_neg c12] at H
         have c12b0 := beq_eq_false_iff_ne.mpr c12
         have c12b1 := bne_iff_ne.mpr c12
         obtain ⟨t170, A17, H⟩ := zO H
         by_cases c18 : t170 = true
         ·subst c18
          replace H := zI H rfl
          have H' := Aside0.mk H
          clear H
          obtain ⟨Ao19, co19, eo19⟩ := Kd.R_slice HO_4.out
          subst eo19
          obtain ⟨ad167, e167, hx167_0, p167, q167⟩ := zA (Kd.R_reads' HO_4.out).2.2 x6_2
          cases e167
          go_wp2_with (first | ((with_reducible refine gate_callee (f := 91) rfl ?_); refine goesL_ (some 30) rfl rfl Tryd.func91 (by kernel_rfl) rfl #[.string (rdOf ByteArray.empty t164 x6_2)] rfl zM ?_; (with_reducible refine (spec_l2Part.calls k2 (rdOf ByteArray.empty t164 x6_2) t168 _ A11.out).mono ?_); rintro e w' ⟨rfl, ⟨nd, rfl⟩⟩; refine ⟨_, rfl, ?_⟩) | ((with_reducible refine gate_callee (f := 44) rfl ?_); refine goesL_ (some 52) rfl rfl Tryd.func44 (by kernel_rfl) rfl #[.int .i64 t168, .int .i64 0, .int .i64 255] rfl zM ?_; (with_reducible refine (spec_l1In.calls t168 0 255 true _ A17.out).mono ?_); rintro e w' ⟨rfl, ⟨nd, rfl⟩⟩; refine ⟨_, rfl, ?_⟩))
          go_roundg k2
          case measure => have := HJ2.out; have := HK2.out; omega
          case rel => exact ⟨(wrap64 ((wrap64 (x5_2 * 256)) + t168)), (wrap64 (x6_2 + 1)), zS, zS, H', ⟨by have := HJ2.out; have := HK2.out; omega⟩, ⟨zR HO_4⟩, ⟨zB⟩⟩
         ·replace c18 := Bool.eq_false_iff.mpr c18
          subst c18
          replace H := zJ H zF
          simp only [Option.some.injEq, Prod.mk.injEq] at H
          obtain ⟨rfl, rfl⟩ := H
          obtain ⟨Ao20, co20, eo20⟩ := Kd.R_slice HO_4.out
          subst eo20
          obtain ⟨ad167, e167, hx167_0, p167, q167⟩ := zA (Kd.R_reads' HO_4.out).2.2 x6_2
          cases e167
          go_wp2_with (first | ((with_reducible refine gate_callee (f := 91) rfl ?_); refine goesL_ (some 30) rfl rfl Tryd.func91 (by kernel_rfl) rfl #[.string (rdOf ByteArray.empty t164 x6_2)] rfl zM ?_; (with_reducible refine (spec_l2Part.calls k2 (rdOf ByteArray.empty t164 x6_2) t168 _ A11.out).mono ?_); rintro e w' ⟨rfl, ⟨nd, rfl⟩⟩; refine ⟨_, rfl, ?_⟩) | ((with_reducible refine gate_callee (f := 44) rfl ?_); refine goesL_ (some 52) rfl rfl Tryd.func44 (by kernel_rfl) rfl #[.int .i64 t168, .int .i64 0, .int .i64 255] rfl zM ?_; (with_reducible refine (spec_l1In.calls t168 0 255 false _ A17.out).mono ?_); rintro e w' ⟨rfl, ⟨nd, rfl⟩⟩; refine ⟨_, rfl, ?_⟩))
          go_ret2
          exact ⟨zE, zB⟩
       ·rw [if_neg c10] at H
        exact absurd H (by simp)
      ·rw [if_neg c9] at H
       have c9b0 := decide_eq_false c9
       clear c9
       simp only [Option.some.injEq, Prod.mk.injEq] at H
       obtain ⟨rfl, rfl⟩ := H
       obtain ⟨Ao21, co21, eo21⟩ := Kd.R_slice HO_4.out
       subst eo21
       go_wp2
       go_ret2
       exact ⟨zE, zB⟩

end Go.Proofs.YtakobibclhdakaaDoor.PFnExactJarSave
