-- printed by a program of this session's (wip/myprint.py) out of the translation; Lean checks it
import Derived.Test.YtakobibclhdakaaDoorPFnExactJarSavex0
import Derived.Test.YtakobibclhdakaaDoorPFnExactJarSavex10
import Derived.Test.YtakobibclhdakaaDoorPFnExactJarSavex11
namespace Go.Proofs.YtakobibclhdakaaDoor.PFnExactJarSave
open Go.RowKit Go.Proofs.YtakobibclhdakaaDoorG Go.Proofs.YtakobibclhdakaaDoorZ Go.Proofs.YtakobibclhdakaaDoorW.PrintWords Go.Proofs.YtakobibclhdakaaDoorW.PrintLast Go.Proofs.YtakobibclhdakaaDoorW.PrintMore
attribute [local go_sem] str_leq str_gtr str_geq max2_int min2_int max_two min_two max_three min_three max_four min_four   -- for this text's walks alone
set_option linter.unusedVariables false
set_option linter.unusedSimpArgs false

/-! ### impl_labelNumber: function 87 -/
mutual
def impl_labelNumber.j1 : Nat → ByteArray → Int → Option (Int × Bool)
 | 0, _, _ => none
 | k + 1, x0, x4 => impl_labelNumber.l0 k x0 x4 0 (x0.size : Int) 0
def impl_labelNumber.l0 : Nat → ByteArray → Int → Int → Int → Int → Option (Int × Bool)
 | 0, _, _, _, _, _ => none
 | k + 1, x0, x4, x5, x32, x33 => if x33 < x32 then (if 0 ≤ x33 then (if x33 < (x0.size : Int) then ((impl_hex.f k (bt x0 x33)).bind fun t246 => (if t246 < 0 then (some (0, false)) else (if t246 ≥ x4 then (some (0, false)) else (if x5 > 4294967295 then (some (0, false)) else (impl_labelNumber.l0 k x0 x4 (wrap64 ((wrap64 (x4 * x5)) + t246)) x32 (wrap64 (x33 + 1))))))) else (none)) else (none)) else (some (x5, true))
def impl_labelNumber.j0 : Nat → ByteArray → Int → Bool → Option (Int × Bool)
 | 0, _, _, _ => none
 | k + 1, x0, x4, x11 => if x11 = true then (if 2 ≤ (x0.size : Int) then (impl_labelNumber.j1 k (x0.extract 2 x0.size) 16) else (none)) else (if 0 < (x0.size : Int) then (if (bt x0 0) = 48 then (if (x0.size : Int) > 1 then (if 1 ≤ (x0.size : Int) then (impl_labelNumber.j1 k (x0.extract 1 x0.size) 8) else (none)) else (impl_labelNumber.j1 k x0 x4)) else (impl_labelNumber.j1 k x0 x4)) else (none))
end
def impl_labelNumber.f (k : Nat) (a0 : ByteArray) : Option (Int × Bool) := if a0.toList = ([] : List UInt8) then (some (0, false)) else ((strings_HasPrefix.f a0 (⟨#[48, 120]⟩ : ByteArray)).bind fun t244 => (if t244 = true then (impl_labelNumber.j0 k a0 10 true) else ((strings_HasPrefix.f a0 (⟨#[48, 88]⟩ : ByteArray)).bind fun t245 => (impl_labelNumber.j0 k a0 10 t245))))
theorem impl_labelNumber.mono_l : ∀ k, (∀ y0 y1, LeO (impl_labelNumber.j1 k y0 y1) (impl_labelNumber.j1 (k + 1) y0 y1)) ∧ (∀ y0 y1 y2 y3 y4, LeO (impl_labelNumber.l0 k y0 y1 y2 y3 y4) (impl_labelNumber.l0 (k + 1) y0 y1 y2 y3 y4)) ∧ (∀ y0 y1 y2, LeO (impl_labelNumber.j0 k y0 y1 y2) (impl_labelNumber.j0 (k + 1) y0 y1 y2))
 | 0 => ⟨fun _ _ r h => by simp [impl_labelNumber.j1] at h, fun _ _ _ _ _ r h => by simp [impl_labelNumber.l0] at h, fun _ _ _ r h => by simp [impl_labelNumber.j0] at h⟩
 | k + 1 => by
  obtain ⟨ih0, ih1, ih2⟩ := impl_labelNumber.mono_l k
  refine ⟨?_, ?_, ?_⟩
  all_goals intros
  all_goals first | unfold impl_labelNumber.j1 | unfold impl_labelNumber.l0 | unfold impl_labelNumber.j0
  all_goals repeat' (first | (with_reducible first | apply ih0 | apply ih1 | apply ih2 | apply impl_hex.mono | exact LeO.refl _ | exact LeO.none _ | refine LeO.ite ?_ ?_ | refine LeO.bind ?_ fun _ => ?_) | apply ih0 | apply ih1 | apply ih2 | apply impl_hex.mono | exact LeO.none _ | refine LeO.ite ?_ ?_ | refine LeO.bind ?_ fun _ => ?_)
theorem impl_labelNumber.mono : ∀ a0 k, LeO (impl_labelNumber.f k a0) (impl_labelNumber.f (k + 1) a0) := by
 intro a0 k
 obtain ⟨ih0, ih1, ih2⟩ := impl_labelNumber.mono_l k
 unfold impl_labelNumber.f
 repeat' (first | (with_reducible first | apply ih0 | apply ih1 | apply ih2 | apply impl_hex.mono | exact LeO.refl _ | exact LeO.none _ | refine LeO.ite ?_ ?_ | refine LeO.bind ?_ fun _ => ?_) | apply ih0 | apply ih1 | apply ih2 | apply impl_hex.mono | exact LeO.none _ | refine LeO.ite ?_ ?_ | refine LeO.bind ?_ fun _ => ?_)
set_option maxHeartbeats 8000000 in
set_option maxRecDepth 100000 in
theorem impl_labelNumber.calls (k : Nat) (a0 : ByteArray) (r1 : Int) (r2 : Bool) (w : World) (h : impl_labelNumber.f k a0 = some (r1, r2)) :
  Calls Tryd.prog 87 #[.string a0] w fun e w' => e = .returned (.tuple #[.int .i64 r1, .bool r2]) ∧ Drawn0 w w' := by
 have H : (if a0.toList = ([] : List UInt8) then (some (0, false)) else ((strings_HasPrefix.f a0 (⟨#[48, 120]⟩ : ByteArray)).bind fun t244 => (if t244 = true then (impl_labelNumber.j0 k a0 10 true) else ((strings_HasPrefix.f a0 (⟨#[48, 88]⟩ : ByteArray)).bind fun t245 => (impl_labelNumber.j0 k a0 10 t245))))) = some (r1, r2) := h
 clear h
 have HC2 := Aside0.mk H
 clear H
 go_enter Tryd.func87, Tryd.ntmps87
 go_upto_block 0 with (fail)
 repeat (go_quiet (fail); go_upto_block 0 with (fail))
 go_cut [0, 4] (fun v0 v4 wc => ∃ (kq : Nat) (x0_1 : ByteArray) (x4_1 : Int), v0 = .string x0_1 ∧ v4 = .int .i64 x4_1 ∧ Aside0 (impl_labelNumber.j1 kq x0_1 x4_1 = some (r1, r2)) ∧ Aside0 (kq ≤ k) ∧ Drawn0 w wc)
 case first =>
  have H := HC2.out
  clear HC2
  by_cases c3 : a0.toList = ([] : List UInt8)
  ·rw [if_pos c3] at H
   have c3b0 := beq_iff_eq.mpr c3
   have c3b1 := bne_eq_false_iff_eq.mpr c3
   clear c3
   (first | rw [c3b0] | (simp only [i64_w, i32_w]; rw [c3b0]) | skip)
   simp only [Option.some.injEq, Prod.mk.injEq] at H
   obtain ⟨rfl, rfl⟩ := H
   go_wp2
   repeat (go_quiet (fail); try go_wp2)
   go_ret2
   exact ⟨zS, zW⟩
  ·rw [if_neg c3] at H
   have c3b0 := beq_eq_false_iff_ne.mpr c3
   have c3b1 := bne_iff_ne.mpr c3
   (first | rw [c3b0] | (simp only [i64_w, i32_w]; rw [c3b0]) | skip)
   have HC4 := Aside0.mk H
   clear H
   go_upto_region 4 with (fail)
   repeat (go_quiet (fail); go_upto_region 4 with (fail))
   go_cut [11] (fun v11 wc => ∃ (kq : Nat) (x11_3 : Bool), v11 = .bool x11_3 ∧ Aside0 (impl_labelNumber.j0 kq a0 10 x11_3 = some (r1, r2)) ∧ Aside0 (kq ≤ k) ∧ Drawn0 w wc)
   case first =>
    have H := HC4.out
    clear HC4
    obtain ⟨t244, A5, H⟩ := zO H
    by_cases c6 : t244 = true
    ·subst c6
     replace H := zI H rfl
     have H' := Aside0.mk H
     clear H
     go_wp2_with (first | (go_at_call 76; (with_reducible refine (strings_HasPrefix.calls a0 (⟨#[48, 120]⟩ : ByteArray) true _ A5.out).mono ?_); rintro e w' ⟨rfl, ⟨nd, rfl⟩⟩; (try first | exact ⟨rfl, _, World.drewN_drewN _ _ _⟩ | exact ⟨rfl, _, Eq.trans (World.drewN_drewN _ _ _) (congrArg (World.drewN _) (Nat.add_assoc _ _ _))⟩)))
     repeat (go_quiet (first | (go_at_call 76; (with_reducible refine (strings_HasPrefix.calls a0 (⟨#[48, 120]⟩ : ByteArray) true _ A5.out).mono ?_); rintro e w' ⟨rfl, ⟨nd, rfl⟩⟩; (try first | exact ⟨rfl, _, World.drewN_drewN _ _ _⟩ | exact ⟨rfl, _, Eq.trans (World.drewN_drewN _ _ _) (congrArg (World.drewN _) (Nat.add_assoc _ _ _))⟩))); try go_wp2_with (first | (go_at_call 76; (with_reducible refine (strings_HasPrefix.calls a0 (⟨#[48, 120]⟩ : ByteArray) true _ A5.out).mono ?_); rintro e w' ⟨rfl, ⟨nd, rfl⟩⟩; (try first | exact ⟨rfl, _, World.drewN_drewN _ _ _⟩ | exact ⟨rfl, _, Eq.trans (World.drewN_drewN _ _ _) (congrArg (World.drewN _) (Nat.add_assoc _ _ _))⟩))))
     go_meet
     case rel => exact ⟨_, (true), zS, H', ⟨by first | omega | exact Nat.le_refl _⟩, zW⟩
    ·replace c6 := Bool.eq_false_iff.mpr c6
     subst c6
     replace H := zJ H zF
     obtain ⟨t245, A7, H⟩ := zO H
     have H' := Aside0.mk H
     clear H
     go_wp2_with (first | (go_at_call 76; (with_reducible refine (strings_HasPrefix.calls a0 (⟨#[48, 120]⟩ : ByteArray) false _ A5.out).mono ?_); rintro e w' ⟨rfl, ⟨nd, rfl⟩⟩; (try first | exact ⟨rfl, _, World.drewN_drewN _ _ _⟩ | exact ⟨rfl, _, Eq.trans (World.drewN_drewN _ _ _) (congrArg (World.drewN _) (Nat.add_assoc _ _ _))⟩)) | (go_at_call 76; (with_reducible refine (strings_HasPrefix.calls a0 (⟨#[48, 88]⟩ : ByteArray) t245 _ A7.out).mono ?_); rintro e w' ⟨rfl, ⟨nd, rfl⟩⟩; (try first | exact ⟨rfl, _, World.drewN_drewN _ _ _⟩ | exact ⟨rfl, _, Eq.trans (World.drewN_drewN _ _ _) (congrArg (World.drewN _) (Nat.add_assoc _ _ _))⟩)))
     repeat (go_quiet (first | (go_at_call 76; (with_reducible refine (strings_HasPrefix.calls a0 (⟨#[48, 120]⟩ : ByteArray) false _ A5.out).mono ?_); rintro e w' ⟨rfl, ⟨nd, rfl⟩⟩; (try first | exact ⟨rfl, _, World.drewN_drewN _ _ _⟩ | exact ⟨rfl, _, Eq.trans (World.drewN_drewN _ _ _) (congrArg (World.drewN _) (Nat.add_assoc _ _ _))⟩)) | (go_at_call 76; (with_reducible refine (strings_HasPrefix.calls a0 (⟨#[48, 88]⟩ : ByteArray) t245 _ A7.out).mono ?_); rintro e w' ⟨rfl, ⟨nd, rfl⟩⟩; (try first | exact ⟨rfl, _, World.drewN_drewN _ _ _⟩ | exact ⟨rfl, _, Eq.trans (World.drewN_drewN _ _ _) (congrArg (World.drewN _) (Nat.add_assoc _ _ _))⟩))); try go_wp2_with (first | (go_at_call 76; (with_reducible refine (strings_HasPrefix.calls a0 (⟨#[48, 120]⟩ : ByteArray) false _ A5.out).mono ?_); rintro e w' ⟨rfl, ⟨nd, rfl⟩⟩; (try first | exact ⟨rfl, _, World.drewN_drewN _ _ _⟩ | exact ⟨rfl, _, Eq.trans (World.drewN_drewN _ _ _) (congrArg (World.drewN _) (Nat.add_assoc _ _ _))⟩)) | (go_at_call 76; (with_reducible refine (strings_HasPrefix.calls a0 (⟨#[48, 88]⟩ : ByteArray) t245 _ A7.out).mono ?_); rintro e w' ⟨rfl, ⟨nd, rfl⟩⟩; (try first | exact ⟨rfl, _, World.drewN_drewN _ _ _⟩ | exact ⟨rfl, _, Eq.trans (World.drewN_drewN _ _ _) (congrArg (World.drewN _) (Nat.add_assoc _ _ _))⟩))))
     go_meet
     case rel => exact ⟨_, (t245), zS, H', ⟨by first | omega | exact Nat.le_refl _⟩, zW⟩
   case rest =>
    clear HC4
    try clear c3
    try clear c3b0
    try clear c3b1
    obtain ⟨kq, x11_3, rfl, HA, HJ3, ⟨mc3, rfl⟩⟩ := hcut
    cases kq with
    | zero => exact absurd HA.out (by simp [impl_labelNumber.j0])
    | succ kj3 =>
     have H := HA.out
     clear HA
     simp only [impl_labelNumber.j0] at H
     by_cases c8 : x11_3 = true
     ·subst c8
      replace H := zI H rfl
      by_cases c9 : 2 ≤ (a0.size : Int)
      ·rw [if_pos c9] at H
       have c9b0 := eq_true c9
       have c9b1 := decide_eq_true c9
       clear c9
       have H' := Aside0.mk H
       clear H
       go_wp2
       repeat (go_quiet (fail); try go_wp2)
       go_meet
       case rel => exact ⟨_, (a0.extract 2 a0.size), (16), zS, zS, H', ⟨by have := HJ3.out; first | omega | exact Nat.le_refl _⟩, zW⟩
      ·rw [if_neg c9] at H
       exact absurd H (by simp)
     ·replace c8 := Bool.eq_false_iff.mpr c8
      subst c8
      replace H := zJ H zF
      by_cases c10 : 0 < (a0.size : Int)
      ·rw [if_pos c10] at H
       have c10b0 := decide_eq_true c10
       have c10b1 : decide (0 < a0.size) = true := decide_eq_true (by omega)
       clear c10
       by_cases c12 : (bt a0 0) = 48
       ·rw [if_pos c12] at H
        have c12b0 := beq_iff_eq.mpr c12
        have c12b1 := bne_eq_false_iff_eq.mpr c12
        clear c12
        by_cases c13 : (a0.size : Int) > 1
        ·rw [if_pos c13] at H
         have c13b0 := decide_eq_true c13
         have c13b1 : decide (1 < a0.size) = true := decide_eq_true (by omega)
         clear c13
         by_cases c14 : 1 ≤ (a0.size : Int)
         ·rw [if_pos c14] at H
          have c14b0 := eq_true c14
          have c14b1 := decide_eq_true c14
          clear c14
          have H' := Aside0.mk H
          clear H
          have p11 : 0 ≤ (0 : Int) := (by omega)
          have q11 : 0 < a0.size := (by have : (0 : Int) < (a0.size : Int) := zD; omega)
          have hx11 : ∀ h : 0 < a0.size, ((a0[0]'h).toNat : Int) = bt a0 0 := bt_at a0 0
          clear p11
          have qi11 : (0 < (a0.size : Int)) = True := eq_true zD
          replace q11 := eq_true q11
          go_wp2
          repeat (go_quiet (fail); try go_wp2)
          go_meet
          case rel => exact ⟨_, (a0.extract 1 a0.size), (8), zS, zS, H', ⟨by have := HJ3.out; first | omega | exact Nat.le_refl _⟩, zW⟩
         ·rw [if_neg c14] at H
          exact absurd H (by simp)
        ·rw [if_neg c13] at H
         have c13b0 := decide_eq_false c13
         have c13b1 : decide (1 < a0.size) = false := decide_eq_false (by omega)
         clear c13
         have H' := Aside0.mk H
         clear H
         have p11 : 0 ≤ (0 : Int) := (by omega)
         have q11 : 0 < a0.size := (by have : (0 : Int) < (a0.size : Int) := zD; omega)
         have hx11 : ∀ h : 0 < a0.size, ((a0[0]'h).toNat : Int) = bt a0 0 := bt_at a0 0
         clear p11
         have qi11 : (0 < (a0.size : Int)) = True := eq_true zD
         replace q11 := eq_true q11
         go_wp2
         repeat (go_quiet (fail); try go_wp2)
         go_meet
         case rel => exact ⟨_, (a0), (10), zS, zS, H', ⟨by have := HJ3.out; first | omega | exact Nat.le_refl _⟩, zW⟩
       ·rw [if_neg c12] at H
        have c12b0 := beq_eq_false_iff_ne.mpr c12
        have c12b1 := bne_iff_ne.mpr c12
        have H' := Aside0.mk H
        clear H
        have p11 : 0 ≤ (0 : Int) := (by omega)
        have q11 : 0 < a0.size := (by have : (0 : Int) < (a0.size : Int) := zD; omega)
        have hx11 : ∀ h : 0 < a0.size, ((a0[0]'h).toNat : Int) = bt a0 0 := bt_at a0 0
        clear p11
        have qi11 : (0 < (a0.size : Int)) = True := eq_true zD
        replace q11 := eq_true q11
        go_wp2
        repeat (go_quiet (fail); try go_wp2)
        go_meet
        case rel => exact ⟨_, (a0), (10), zS, zS, H', ⟨by have := HJ3.out; first | omega | exact Nat.le_refl _⟩, zW⟩
      ·rw [if_neg c10] at H
       exact absurd H (by simp)
 case rest =>
  clear HC2
  obtain ⟨kq, x0_1, x4_1, rfl, rfl, HA, HJ1, ⟨mc1, rfl⟩⟩ := hcut
  cases kq with
  | zero => exact absurd HA.out (by simp [impl_labelNumber.j1])
  | succ kj1 =>
   have H := HA.out
   clear HA
   simp only [impl_labelNumber.j1] at H
   have H' := Aside0.mk H
   clear H
   go_wp2
   repeat (go_quiet (fail); try go_wp2)
   go_loopg [5, 33] kj1 (fun kq v5 v33 w' => ∃ (x5_2 : Int) (x33_2 : Int), v5 = .int .i64 x5_2 ∧ v33 = .int .i64 x33_2 ∧ Aside0 (impl_labelNumber.l0 kq x0_1 x4_1 x5_2 (x0_1.size : Int) x33_2 = some (r1, r2)) ∧ Aside0 (kq ≤ kj1) ∧ Drawn0 w w')
   case atStart => exact ⟨(0), (0), zS, zS, H', ⟨Nat.le_refl _⟩, zW⟩
   case round =>
    clear H'
    obtain ⟨x5_2, x33_2, rfl, rfl, HA, HK2, ⟨m2, rfl⟩⟩ := hrel
    cases gk with
    | zero => exact absurd HA.out (by simp [impl_labelNumber.l0])
    | succ k2 =>
     have H := HA.out
     clear HA
     simp only [impl_labelNumber.l0] at H
     by_cases c15 : x33_2 < (x0_1.size : Int)
     ·rw [if_pos c15] at H
      have c15b0 := decide_eq_true c15
      clear c15
      by_cases c16 : 0 ≤ x33_2
      ·rw [if_pos c16] at H
       have c16b0 := decide_eq_true c16
       clear c16
       by_cases c17 : x33_2 < (x0_1.size : Int)
       ·rw [if_pos c17] at H
        have c17b0 := decide_eq_true c17
        clear c17
        obtain ⟨t246, A19, H⟩ := zO H
        by_cases c20 : t246 < 0
        ·rw [if_pos c20] at H
         have c20b0 := decide_eq_true c20
         clear c20
         simp only [Option.some.injEq, Prod.mk.injEq] at H
         obtain ⟨rfl, rfl⟩ := H
         obtain ⟨p18, q18⟩ := zN x33_2 (x0_1.size : Int)
         have hx18 := bt_at x0_1 x33_2
         go_wp2_with (first | (go_at_call 105; (with_reducible refine (impl_hex.calls k2 (bt x0_1 x33_2) t246 _ A19.out).mono ?_); rintro e w' ⟨rfl, ⟨nd, rfl⟩⟩; (try first | exact ⟨rfl, _, World.drewN_drewN _ _ _⟩ | exact ⟨rfl, _, Eq.trans (World.drewN_drewN _ _ _) (congrArg (World.drewN _) (Nat.add_assoc _ _ _))⟩)))
         repeat (go_quiet (first | (go_at_call 105; (with_reducible refine (impl_hex.calls k2 (bt x0_1 x33_2) t246 _ A19.out).mono ?_); rintro e w' ⟨rfl, ⟨nd, rfl⟩⟩; (try first | exact ⟨rfl, _, World.drewN_drewN _ _ _⟩ | exact ⟨rfl, _, Eq.trans (World.drewN_drewN _ _ _) (congrArg (World.drewN _) (Nat.add_assoc _ _ _))⟩))); try go_wp2_with (first | (go_at_call 105; (with_reducible refine (impl_hex.calls k2 (bt x0_1 x33_2) t246 _ A19.out).mono ?_); rintro e w' ⟨rfl, ⟨nd, rfl⟩⟩; (try first | exact ⟨rfl, _, World.drewN_drewN _ _ _⟩ | exact ⟨rfl, _, Eq.trans (World.drewN_drewN _ _ _) (congrArg (World.drewN _) (Nat.add_assoc _ _ _))⟩))))
         go_ret2
         exact ⟨zS, zW⟩
        ·rw [if_neg c20] at H
         have c20b0 := decide_eq_false c20
         clear c20
         by_cases c21 : t246 ≥ x4_1
         ·rw [if_pos c21] at H
          have c21b0 := decide_eq_true c21
          clear c21
          simp only [Option.some.injEq, Prod.mk.injEq] at H
          obtain ⟨rfl, rfl⟩ := H
          obtain ⟨p18, q18⟩ := zN x33_2 (x0_1.size : Int)
          have hx18 := bt_at x0_1 x33_2
          go_wp2_with (first | (go_at_call 105; (with_reducible refine (impl_hex.calls k2 (bt x0_1 x33_2) t246 _ A19.out).mono ?_); rintro e w' ⟨rfl, ⟨nd, rfl⟩⟩; (try first | exact ⟨rfl, _, World.drewN_drewN _ _ _⟩ | exact ⟨rfl, _, Eq.trans (World.drewN_drewN _ _ _) (congrArg (World.drewN _) (Nat.add_assoc _ _ _))⟩)))
          repeat (go_quiet (first | (go_at_call 105; (with_reducible refine (impl_hex.calls k2 (bt x0_1 x33_2) t246 _ A19.out).mono ?_); rintro e w' ⟨rfl, ⟨nd, rfl⟩⟩; (try first | exact ⟨rfl, _, World.drewN_drewN _ _ _⟩ | exact ⟨rfl, _, Eq.trans (World.drewN_drewN _ _ _) (congrArg (World.drewN _) (Nat.add_assoc _ _ _))⟩))); try go_wp2_with (first | (go_at_call 105; (with_reducible refine (impl_hex.calls k2 (bt x0_1 x33_2) t246 _ A19.out).mono ?_); rintro e w' ⟨rfl, ⟨nd, rfl⟩⟩; (try first | exact ⟨rfl, _, World.drewN_drewN _ _ _⟩ | exact ⟨rfl, _, Eq.trans (World.drewN_drewN _ _ _) (congrArg (World.drewN _) (Nat.add_assoc _ _ _))⟩))))
          go_ret2
          exact ⟨zS, zW⟩
         ·rw [if_neg c21] at H
          have c21b0 := decide_eq_false c21
          clear c21
          by_cases c22 : x5_2 > 4294967295
          ·rw [if_pos c22] at H
           have c22b0 := decide_eq_true c22
           clear c22
           simp only [Option.some.injEq, Prod.mk.injEq] at H
           obtain ⟨rfl, rfl⟩ := H
           obtain ⟨p18, q18⟩ := zN x33_2 (x0_1.size : Int)
           have hx18 := bt_at x0_1 x33_2
           go_wp2_with (first | (go_at_call 105; (with_reducible refine (impl_hex.calls k2 (bt x0_1 x33_2) t246 _ A19.out).mono ?_); rintro e w' ⟨rfl, ⟨nd, rfl⟩⟩; (try first | exact ⟨rfl, _, World.drewN_drewN _ _ _⟩ | exact ⟨rfl, _, Eq.trans (World.drewN_drewN _ _ _) (congrArg (World.drewN _) (Nat.add_assoc _ _ _))⟩)))
           repeat (go_quiet (first | (go_at_call 105; (with_reducible refine (impl_hex.calls k2 (bt x0_1 x33_2) t246 _ A19.out).mono ?_); rintro e w' ⟨rfl, ⟨nd, rfl⟩⟩; (try first | exact ⟨rfl, _, World.drewN_drewN _ _ _⟩ | exact ⟨rfl, _, Eq.trans (World.drewN_drewN _ _ _) (congrArg (World.drewN _) (Nat.add_assoc _ _ _))⟩))); try go_wp2_with (first | (go_at_call 105; (with_reducible refine (impl_hex.calls k2 (bt x0_1 x33_2) t246 _ A19.out).mono ?_); rintro e w' ⟨rfl, ⟨nd, rfl⟩⟩; (try first | exact ⟨rfl, _, World.drewN_drewN _ _ _⟩ | exact ⟨rfl, _, Eq.trans (World.drewN_drewN _ _ _) (congrArg (World.drewN _) (Nat.add_assoc _ _ _))⟩))))
           go_ret2
           exact ⟨zS, zW⟩
          ·rw [if_neg c22] at H
           have c22b0 := decide_eq_false c22
           clear c22
           have H' := Aside0.mk H
           clear H
           obtain ⟨p18, q18⟩ := zN x33_2 (x0_1.size : Int)
           have hx18 := bt_at x0_1 x33_2
           go_wp2_with (first | (go_at_call 105; (with_reducible refine (impl_hex.calls k2 (bt x0_1 x33_2) t246 _ A19.out).mono ?_); rintro e w' ⟨rfl, ⟨nd, rfl⟩⟩; (try first | exact ⟨rfl, _, World.drewN_drewN _ _ _⟩ | exact ⟨rfl, _, Eq.trans (World.drewN_drewN _ _ _) (congrArg (World.drewN _) (Nat.add_assoc _ _ _))⟩)))
           repeat (go_quiet (first | (go_at_call 105; (with_reducible refine (impl_hex.calls k2 (bt x0_1 x33_2) t246 _ A19.out).mono ?_); rintro e w' ⟨rfl, ⟨nd, rfl⟩⟩; (try first | exact ⟨rfl, _, World.drewN_drewN _ _ _⟩ | exact ⟨rfl, _, Eq.trans (World.drewN_drewN _ _ _) (congrArg (World.drewN _) (Nat.add_assoc _ _ _))⟩))); try go_wp2_with (first | (go_at_call 105; (with_reducible refine (impl_hex.calls k2 (bt x0_1 x33_2) t246 _ A19.out).mono ?_); rintro e w' ⟨rfl, ⟨nd, rfl⟩⟩; (try first | exact ⟨rfl, _, World.drewN_drewN _ _ _⟩ | exact ⟨rfl, _, Eq.trans (World.drewN_drewN _ _ _) (congrArg (World.drewN _) (Nat.add_assoc _ _ _))⟩))))
           go_roundg k2
           case measure => have := HJ1.out; have := HK2.out; omega
           case rel => exact ⟨(wrap64 ((wrap64 (x4_1 * x5_2)) + t246)), (wrap64 (x33_2 + 1)), zS, zS, H', ⟨by have := HJ1.out; have := HK2.out; omega⟩, zW⟩
       ·rw [if_neg c17] at H
        exact absurd H (by simp)
      ·rw [if_neg c16] at H
       exact absurd H (by simp)
     ·rw [if_neg c15] at H
      have c15b0 := decide_eq_false c15
      clear c15
      simp only [Option.some.injEq, Prod.mk.injEq] at H
      obtain ⟨rfl, rfl⟩ := H
      go_wp2
      repeat (go_quiet (fail); try go_wp2)
      go_ret2
      exact ⟨zS, zW⟩

/-! ### impl_endsInNumber: function 63 -/
mutual
def impl_endsInNumber.j0 : Nat → ByteArray → Bool → Option (Bool)
 | 0, _, _ => none
 | k + 1, x4, x23 => if x23 = true then ((impl_labelNumber.f k x4).bind fun bt253 => (some bt253.2)) else (impl_endsInNumber.l0 k x4 (x4.size : Int) 0)
def impl_endsInNumber.l0 : Nat → ByteArray → Int → Int → Option (Bool)
 | 0, _, _, _ => none
 | k + 1, x4, x31, x32 => if x32 < x31 then (if 0 ≤ x32 then (if x32 < (x4.size : Int) then ((impl_isDigit.f (bt x4 x32)).bind fun t255 => (if t255 = true then (impl_endsInNumber.l0 k x4 x31 (wrap64 (x32 + 1))) else (some false))) else (none)) else (none)) else (some true)
end
def impl_endsInNumber.f (k : Nat) (a0 : ByteArray) : Option (Bool) := (impl_labels.f a0).bind fun t247 => (if 0 ≤ (wrap64 ((t247.length : Int) - 1)) then (if (wrap64 ((t247.length : Int) - 1)) < (t247.length : Int) then (if (rdOf ByteArray.empty t247 (wrap64 ((t247.length : Int) - 1))).toList = ([] : List UInt8) then (some false) else ((strings_HasPrefix.f (rdOf ByteArray.empty t247 (wrap64 ((t247.length : Int) - 1))) (⟨#[48, 120]⟩ : ByteArray)).bind fun t251 => (if t251 = true then (impl_endsInNumber.j0 k (rdOf ByteArray.empty t247 (wrap64 ((t247.length : Int) - 1))) true) else ((strings_HasPrefix.f (rdOf ByteArray.empty t247 (wrap64 ((t247.length : Int) - 1))) (⟨#[48, 88]⟩ : ByteArray)).bind fun t252 => (impl_endsInNumber.j0 k (rdOf ByteArray.empty t247 (wrap64 ((t247.length : Int) - 1))) t252))))) else (none)) else (none))
theorem impl_endsInNumber.mono_l : ∀ k, (∀ y0 y1, LeO (impl_endsInNumber.j0 k y0 y1) (impl_endsInNumber.j0 (k + 1) y0 y1)) ∧ (∀ y0 y1 y2, LeO (impl_endsInNumber.l0 k y0 y1 y2) (impl_endsInNumber.l0 (k + 1) y0 y1 y2))
 | 0 => ⟨fun _ _ r h => by simp [impl_endsInNumber.j0] at h, fun _ _ _ r h => by simp [impl_endsInNumber.l0] at h⟩
 | k + 1 => by
  obtain ⟨ih0, ih1⟩ := impl_endsInNumber.mono_l k
  refine ⟨?_, ?_⟩
  all_goals intros
  all_goals first | unfold impl_endsInNumber.j0 | unfold impl_endsInNumber.l0
  all_goals repeat' (first | (with_reducible first | apply ih0 | apply ih1 | apply impl_labelNumber.mono | exact LeO.refl _ | exact LeO.none _ | refine LeO.ite ?_ ?_ | refine LeO.bind ?_ fun _ => ?_) | apply ih0 | apply ih1 | apply impl_labelNumber.mono | exact LeO.none _ | refine LeO.ite ?_ ?_ | refine LeO.bind ?_ fun _ => ?_)
theorem impl_endsInNumber.mono : ∀ a0 k, LeO (impl_endsInNumber.f k a0) (impl_endsInNumber.f (k + 1) a0) := by
 intro a0 k
 obtain ⟨ih0, ih1⟩ := impl_endsInNumber.mono_l k
 unfold impl_endsInNumber.f
 repeat' (first | (with_reducible first | apply ih0 | apply ih1 | apply impl_labelNumber.mono | exact LeO.refl _ | exact LeO.none _ | refine LeO.ite ?_ ?_ | refine LeO.bind ?_ fun _ => ?_) | apply ih0 | apply ih1 | apply impl_labelNumber.mono | exact LeO.none _ | refine LeO.ite ?_ ?_ | refine LeO.bind ?_ fun _ => ?_)
set_option maxHeartbeats 8000000 in
set_option maxRecDepth 100000 in
theorem impl_endsInNumber.calls (k : Nat) (a0 : ByteArray) (r : Bool) (w : World) (h : impl_endsInNumber.f k a0 = some r) (hG : GW w) :
  Calls Tryd.prog 63 #[.string a0] w fun e w' => e = .returned (.bool r) ∧ Below w.heap.size w w' := by
 have HG := Aside0.mk hG
 clear hG
 have HB := Aside0.mk (Below.refl w.heap.size w)
 have H : ((impl_labels.f a0).bind fun t247 => (if 0 ≤ (wrap64 ((t247.length : Int) - 1)) then (if (wrap64 ((t247.length : Int) - 1)) < (t247.length : Int) then (if (rdOf ByteArray.empty t247 (wrap64 ((t247.length : Int) - 1))).toList = ([] : List UInt8) then (some false) else ((strings_HasPrefix.f (rdOf ByteArray.empty t247 (wrap64 ((t247.length : Int) - 1))) (⟨#[48, 120]⟩ : ByteArray)).bind fun t251 => (if t251 = true then (impl_endsInNumber.j0 k (rdOf ByteArray.empty t247 (wrap64 ((t247.length : Int) - 1))) true) else ((strings_HasPrefix.f (rdOf ByteArray.empty t247 (wrap64 ((t247.length : Int) - 1))) (⟨#[48, 88]⟩ : ByteArray)).bind fun t252 => (impl_endsInNumber.j0 k (rdOf ByteArray.empty t247 (wrap64 ((t247.length : Int) - 1))) t252))))) else (none)) else (none))) = some r := h
 clear h
 obtain ⟨t247, A2, H⟩ := zO H
 obtain ⟨ji3, hji3⟩ : ∃ j_ : Int, (wrap64 ((t247.length : Int) - 1)) = j_ := ⟨_, rfl⟩
 replace H : (if 0 ≤ (ji3) then (if (ji3) < (t247.length : Int) then (if (rdOf ByteArray.empty t247 (ji3)).toList = ([] : List UInt8) then (some false) else ((strings_HasPrefix.f (rdOf ByteArray.empty t247 (ji3)) (⟨#[48, 120]⟩ : ByteArray)).bind fun t251 => (if t251 = true then (impl_endsInNumber.j0 k (rdOf ByteArray.empty t247 (ji3)) true) else ((strings_HasPrefix.f (rdOf ByteArray.empty t247 (ji3)) (⟨#[48, 88]⟩ : ByteArray)).bind fun t252 => (impl_endsInNumber.j0 k (rdOf ByteArray.empty t247 (ji3)) t252))))) else (none)) else (none)) = some r := by first | (rw [hji3] at H; exact H) | (simp only [hji3] at H ⊢; exact H)
 (try rw [hji3] at A2)
 have hji3w : (IntKind.i64.wrap ((t247.length : Int) - 1)) = ji3 := (i64_w _).trans hji3
 by_cases c4 : 0 ≤ (ji3)
 ·rw [if_pos c4] at H
  have c4b0 := decide_eq_true c4
  clear c4
  by_cases c5 : (ji3) < (t247.length : Int)
  ·rw [if_pos c5] at H
   have c5b0 := decide_eq_true c5
   clear c5
   by_cases c6 : (rdOf ByteArray.empty t247 (ji3)).toList = ([] : List UInt8)
   ·rw [if_pos c6] at H
    have c6b0 := beq_iff_eq.mpr c6
    have c6b1 := bne_eq_false_iff_eq.mpr c6
    clear c6
    obtain rfl := Option.some.inj H
    go_enter Tryd.func63, Tryd.ntmps63
    go_wp2_with (first | ((with_reducible refine gate_callee (f := 86) rfl ?_); refine goesL_ (some 9) rfl rfl Tryd.func86 (by kernel_rfl) rfl #[.string a0] rfl zM ?_; (with_reducible refine (impl_labels.calls a0 t247 _ A2.out ?side1).mono ?_); (case side1 => exact GW.below HG.out zB); rintro e w7 ⟨v248, rfl, ho0, hb⟩; refine ⟨_, rfl, ?_⟩; have HO249 := zL ho0; replace HB := zT hb; (try clear hb ho0); obtain ⟨Ao8, co8, eo8⟩ := Kd.R_slice HO249.out; subst eo8; obtain ⟨ad250, e250, hx250_0, p250, q250⟩ := zA (Kd.R_reads' HO249.out).2.2 (ji3); cases e250))
    go_ret
    exact ⟨by first | rfl | (simp [errW_none, errW_some] <;> rfl) | (simp only [← hji3]; first | rfl | (simp [errW_none, errW_some] <;> rfl)) | (simp [*, errW_none, errW_some] <;> rfl), zB⟩
   ·rw [if_neg c6] at H
    have c6b0 := beq_eq_false_iff_ne.mpr c6
    have c6b1 := bne_iff_ne.mpr c6
    have HC9 := Aside0.mk H
    clear H
    go_enter Tryd.func63, Tryd.ntmps63
    go_upto_region 5 with (first | ((with_reducible refine gate_callee (f := 86) rfl ?_); refine goesL_ (some 9) rfl rfl Tryd.func86 (by kernel_rfl) rfl #[.string a0] rfl zM ?_; (with_reducible refine (impl_labels.calls a0 t247 _ A2.out ?side1).mono ?_); (case side1 => exact GW.below HG.out zB); rintro e w10 ⟨v248, rfl, ho0, hb⟩; refine ⟨_, rfl, ?_⟩; have HO249 := zL ho0; replace HB := zT hb; (try clear hb ho0); obtain ⟨Ao11, co11, eo11⟩ := Kd.R_slice HO249.out; subst eo11; obtain ⟨ad250, e250, hx250_0, p250, q250⟩ := zA (Kd.R_reads' HO249.out).2.2 (ji3); cases e250))
    (try simp only [Act.put, List.setIfInBounds_toArray, List.set_cons_zero, List.set_cons_succ])
    go_cut [23] (fun v23 wc => ∃ (kq : Nat) (x23_8 : Bool), v23 = .bool x23_8 ∧ Aside0 (impl_endsInNumber.j0 kq (rdOf ByteArray.empty t247 (ji3)) x23_8 = some r) ∧ Aside0 (kq ≤ k) ∧ Aside0 (Below w.heap.size w wc))
    case first =>
     have H := HC9.out
     clear HC9
     obtain ⟨t251, A12, H⟩ := zO H
     by_cases c13 : t251 = true
     ·subst c13
      replace H := zI H rfl
      have H' := Aside0.mk H
      clear H
      go_wp2_with (first | ((with_reducible refine gate_callee (f := 76) rfl ?_); refine goesL_ (some 19) rfl rfl Tryd.func76 (by kernel_rfl) rfl #[.string (rdOf ByteArray.empty t247 (ji3)), .string (⟨#[48, 120]⟩ : ByteArray)] rfl (by (try simp only [List.map_toArray, List.map_cons, List.map_nil]); first | done | (simp only [hji3]; rfl) | rfl | (simp only [List.length_drop, List.length_take]; rfl)) ?_; (with_reducible refine (strings_HasPrefix.calls (rdOf ByteArray.empty t247 (ji3)) (⟨#[48, 120]⟩ : ByteArray) true _ A12.out).mono ?_); rintro e w' ⟨rfl, ⟨nd, rfl⟩⟩; refine ⟨_, rfl, ?_⟩))
      go_meet
      case rel => exact ⟨_, (true), zS, H', ⟨by first | omega | exact Nat.le_refl _⟩, ⟨zB⟩⟩
     ·replace c13 := Bool.eq_false_iff.mpr c13
      subst c13
      replace H := zJ H zF
      obtain ⟨t252, A14, H⟩ := zO H
      have H' := Aside0.mk H
      clear H
      go_wp2_with (first | ((with_reducible refine gate_callee (f := 76) rfl ?_); refine goesL_ (some 19) rfl rfl Tryd.func76 (by kernel_rfl) rfl #[.string (rdOf ByteArray.empty t247 (ji3)), .string (⟨#[48, 120]⟩ : ByteArray)] rfl (by (try simp only [List.map_toArray, List.map_cons, List.map_nil]); first | done | (simp only [hji3]; rfl) | rfl | (simp only [List.length_drop, List.length_take]; rfl)) ?_; (with_reducible refine (strings_HasPrefix.calls (rdOf ByteArray.empty t247 (ji3)) (⟨#[48, 120]⟩ : ByteArray) false _ A12.out).mono ?_); rintro e w' ⟨rfl, ⟨nd, rfl⟩⟩; refine ⟨_, rfl, ?_⟩) | (go_at_call 76; (with_reducible refine (strings_HasPrefix.calls (rdOf ByteArray.empty t247 (ji3)) (⟨#[48, 88]⟩ : ByteArray) t252 _ A14.out).mono ?_); rintro e w' ⟨rfl, ⟨nd, rfl⟩⟩))
      go_meet
      case rel => exact ⟨_, (t252), zS, H', ⟨by first | omega | exact Nat.le_refl _⟩, ⟨zB⟩⟩
    case rest =>
     clear HC9
     try clear c4
     try clear c4b0
     try clear c5
     try clear c5b0
     try clear c6
     try clear c6b0
     try clear c6b1
     try clear hx250_0
     try clear p250
     try clear q250
     obtain ⟨kq, x23_8, rfl, HA, HJ8, HB⟩ := hcut
     cases kq with
     | zero => exact absurd HA.out (by simp [impl_endsInNumber.j0])
     | succ kj8 =>
      have H := HA.out
      clear HA
      simp only [impl_endsInNumber.j0] at H
      by_cases c15 : x23_8 = true
      ·subst c15
       replace H := zI H rfl
       replace H := Option.bind_eq_some_iff.mp H
       obtain ⟨⟨t253, t254⟩, A160, H⟩ := H
       replace H : (some t254) = some r := H
       have A16 := Aside0.mk A160
       clear A160
       obtain rfl := Option.some.inj H
       go_wp2_with (first | ((with_reducible refine gate_callee (f := 87) rfl ?_); refine goesL_ (some 26) rfl rfl Tryd.func87 (by kernel_rfl) rfl #[.string (rdOf ByteArray.empty t247 (ji3))] rfl (by (try simp only [List.map_toArray, List.map_cons, List.map_nil]); first | done | (simp only [hji3]; rfl) | rfl | (simp only [List.length_drop, List.length_take]; rfl)) ?_; (with_reducible refine (impl_labelNumber.calls kj8 (rdOf ByteArray.empty t247 (ji3)) t253 t254 _ A16.out).mono ?_); rintro e w' ⟨rfl, ⟨nd, rfl⟩⟩; refine ⟨_, rfl, ?_⟩))
       go_ret
       exact ⟨by first | rfl | (simp [errW_none, errW_some] <;> rfl) | (simp only [← hji3]; first | rfl | (simp [errW_none, errW_some] <;> rfl)) | (simp [*, errW_none, errW_some] <;> rfl), zB⟩
      ·replace c15 := Bool.eq_false_iff.mpr c15
       subst c15
       replace H := zJ H zF
       have H' := Aside0.mk H
       clear H
       go_wp2
       go_loopg [32] kj8 (fun kq v32 w' => ∃ (x32_2 : Int), v32 = .int .i64 x32_2 ∧ Aside0 (impl_endsInNumber.l0 kq (rdOf ByteArray.empty t247 (ji3)) ((rdOf ByteArray.empty t247 (ji3)).size : Int) x32_2 = some r) ∧ Aside0 (kq ≤ kj8) ∧ Aside0 (Below w.heap.size w w'))
       case atStart => exact ⟨(0), zS, H', ⟨Nat.le_refl _⟩, ⟨zB⟩⟩
       case round =>
        clear H'
        try clear c4
        try clear c4b0
        try clear c5
        try clear c5b0
        try clear c6
        try clear c6b0
        try clear c6b1
        try clear c15
        try clear hx250_0
        try clear p250
        try clear q250
        obtain ⟨x32_2, rfl, HA, HK2, HB⟩ := hrel
        cases gk with
        | zero => exact absurd HA.out (by simp [impl_endsInNumber.l0])
        | succ k2 =>
         have H := HA.out
         clear HA
         simp only [impl_endsInNumber.l0] at H
         by_cases c17 : x32_2 < ((rdOf ByteArray.empty t247 (ji3)).size : Int)
         ·rw [if_pos c17] at H
          have c17b0 := decide_eq_true c17
          clear c17
          by_cases c18 : 0 ≤ x32_2
          ·rw [if_pos c18] at H
           have c18b0 := decide_eq_true c18
           clear c18
           by_cases c19 : x32_2 < ((rdOf ByteArray.empty t247 (ji3)).size : Int)
           ·rw [if_pos c19] at H
            have c19b0 := decide_eq_true c19
            clear c19
            obtain ⟨t255, A21, H⟩ := zO H
            by_cases c22 : t255 = true
            ·subst c22
             replace H := zI H rfl
             have H' := Aside0.mk H
             clear H
             obtain ⟨p20, q20⟩ := zN x32_2 ((rdOf ByteArray.empty t247 (ji3)).size : Int)
             have hx20 := bt_at (rdOf ByteArray.empty t247 (ji3)) x32_2
             go_wp2_with (first | ((with_reducible refine gate_callee (f := 84) rfl ?_); refine goesL_ (some 38) rfl rfl Tryd.func84 (by kernel_rfl) rfl #[.int .u8 (bt (rdOf ByteArray.empty t247 (ji3)) x32_2)] rfl (by (try simp only [List.map_toArray, List.map_cons, List.map_nil]); first | done | (simp only [hji3]; rfl) | rfl | (simp only [List.length_drop, List.length_take]; rfl)) ?_; (with_reducible refine (impl_isDigit.calls (bt (rdOf ByteArray.empty t247 (ji3)) x32_2) true _ A21.out).mono ?_); rintro e w' ⟨rfl, ⟨nd, rfl⟩⟩; refine ⟨_, rfl, ?_⟩))
             go_roundg k2
             case measure => have := HJ8.out; have := HK2.out; omega
             case rel => exact ⟨(wrap64 (x32_2 + 1)), zS, H', ⟨by have := HJ8.out; have := HK2.out; omega⟩, ⟨zB⟩⟩
            ·replace c22 := Bool.eq_false_iff.mpr c22
             subst c22
             replace H := zJ H zF
             obtain rfl := Option.some.inj H
             obtain ⟨p20, q20⟩ := zN x32_2 ((rdOf ByteArray.empty t247 (ji3)).size : Int)
             have hx20 := bt_at (rdOf ByteArray.empty t247 (ji3)) x32_2
             go_wp2_with (first | ((with_reducible refine gate_callee (f := 84) rfl ?_); refine goesL_ (some 38) rfl rfl Tryd.func84 (by kernel_rfl) rfl #[.int .u8 (bt (rdOf ByteArray.empty t247 (ji3)) x32_2)] rfl (by (try simp only [List.map_toArray, List.map_cons, List.map_nil]); first | done | (simp only [hji3]; rfl) | rfl | (simp only [List.length_drop, List.length_take]; rfl)) ?_; (with_reducible refine (impl_isDigit.calls (bt (rdOf ByteArray.empty t247 (ji3)) x32_2) false _ A21.out).mono ?_); rintro e w' ⟨rfl, ⟨nd, rfl⟩⟩; refine ⟨_, rfl, ?_⟩))
             go_ret
             exact ⟨by first | rfl | (simp [errW_none, errW_some] <;> rfl) | (simp only [← hji3]; first | rfl | (simp [errW_none, errW_some] <;> rfl)) | (simp [*, errW_none, errW_some] <;> rfl), zB⟩
           ·rw [if_neg c19] at H
            exact absurd H (by simp)
          ·rw [if_neg c18] at H
           exact absurd H (by simp)
         ·rw [if_neg c17] at H
          have c17b0 := decide_eq_false c17
          clear c17
          obtain rfl := Option.some.inj H
          go_wp2
          go_ret
          exact ⟨by first | rfl | (simp [errW_none, errW_some] <;> rfl) | (simp only [← hji3]; first | rfl | (simp [errW_none, errW_some] <;> rfl)) | (simp [*, errW_none, errW_some] <;> rfl), zB⟩
  ·rw [if_neg c5] at H
   exact absurd H (by simp)
 ·rw [if_neg c4] at H
  exact absurd H (by simp)

/-! ### impl_plainName: function 34 -/
def impl_plainName.f (k : Nat) (a0 : ByteArray) : Option (Bool) := (impl_isHostName.f k a0).bind fun t256 => (if t256 = true then ((impl_endsInNumber.f k a0).bind fun t257 => (some (!t257))) else (some false))
theorem impl_plainName.mono : ∀ a0 k, LeO (impl_plainName.f k a0) (impl_plainName.f (k + 1) a0) := by
 intro a0 k
 unfold impl_plainName.f
 repeat' (first | (with_reducible first | apply impl_endsInNumber.mono | apply impl_isHostName.mono | exact LeO.refl _ | exact LeO.none _ | refine LeO.ite ?_ ?_ | refine LeO.bind ?_ fun _ => ?_) | apply impl_endsInNumber.mono | apply impl_isHostName.mono | exact LeO.none _ | refine LeO.ite ?_ ?_ | refine LeO.bind ?_ fun _ => ?_)
set_option maxHeartbeats 8000000 in
set_option maxRecDepth 100000 in
theorem impl_plainName.calls (k : Nat) (a0 : ByteArray) (r : Bool) (w : World) (h : impl_plainName.f k a0 = some r) (hG : GW w) :
  Calls Tryd.prog 34 #[.string a0] w fun e w' => e = .returned (.bool r) ∧ Below w.heap.size w w' := by
 have HG := Aside0.mk hG
 clear hG
 have HB := Aside0.mk (Below.refl w.heap.size w)
 have H : ((impl_isHostName.f k a0).bind fun t256 => (if t256 = true then ((impl_endsInNumber.f k a0).bind fun t257 => (some (!t257))) else (some false))) = some r := h
 clear h
 obtain ⟨t256, A2, H⟩ := zO H
 by_cases c3 : t256 = true
 ·subst c3
  replace H := zI H rfl
  obtain ⟨t257, A4, H⟩ := zO H
  obtain rfl := Option.some.inj H
  go_enter Tryd.func34, Tryd.ntmps34
  go_wp2_with (first | ((with_reducible refine gate_callee (f := 62) rfl ?_); refine goesL_ (some 4) rfl rfl Tryd.func62 (by kernel_rfl) rfl #[.string a0] rfl zM ?_; (with_reducible refine (impl_isHostName.calls k a0 true _ A2.out ?side1).mono ?_); (case side1 => exact GW.below HG.out zB); rintro e w5 ⟨rfl, hb⟩; refine ⟨_, rfl, ?_⟩; replace HB := zT hb; (try clear hb)) | (go_at_call 63; (with_reducible refine (impl_endsInNumber.calls k a0 t257 _ A4.out ?side1).mono ?_); (case side1 => exact GW.below HG.out zB); rintro e w6 ⟨rfl, hb⟩; replace HB := zT hb; (try clear hb)))
  go_ret
  exact ⟨zE, zB⟩
 ·replace c3 := Bool.eq_false_iff.mpr c3
  subst c3
  replace H := zJ H zF
  obtain rfl := Option.some.inj H
  go_enter Tryd.func34, Tryd.ntmps34
  go_wp2_with (first | ((with_reducible refine gate_callee (f := 62) rfl ?_); refine goesL_ (some 4) rfl rfl Tryd.func62 (by kernel_rfl) rfl #[.string a0] rfl zM ?_; (with_reducible refine (impl_isHostName.calls k a0 false _ A2.out ?side1).mono ?_); (case side1 => exact GW.below HG.out zB); rintro e w7 ⟨rfl, hb⟩; refine ⟨_, rfl, ?_⟩; replace HB := zT hb; (try clear hb)))
  go_ret
  exact ⟨zE, zB⟩

end Go.Proofs.YtakobibclhdakaaDoor.PFnExactJarSave
