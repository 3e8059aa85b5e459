-- printed by a program of this session's (wip/myprint.py) out of the translation; Lean checks it
import Derived.Test.YtakobibclhdakaaDoorPFnExactJarSavex0
import Derived.Test.YtakobibclhdakaaDoorPFnExactJarSavex10
import Derived.Test.YtakobibclhdakaaDoorPFnExactJarSavex11
import Derived.Test.YtakobibclhdakaaDoorPFnExactJarSavex12
import Derived.Test.YtakobibclhdakaaDoorPFnExactJarSavex13
namespace Go.Proofs.YtakobibclhdakaaDoor.PFnExactJarSave
open Go.RowKit Go.Proofs.YtakobibclhdakaaDoorG Go.Proofs.YtakobibclhdakaaDoorZ Go.Proofs.YtakobibclhdakaaDoorW.PrintWords Go.Proofs.YtakobibclhdakaaDoorW.PrintLast Go.Proofs.YtakobibclhdakaaDoorW.PrintMore
attribute [local go_sem] str_leq str_gtr str_geq max2_int min2_int max_two min_two max_three min_three max_four min_four   -- for this text's walks alone
set_option linter.unusedVariables false
set_option linter.unusedSimpArgs false

/-! ### impl_isToken: function 46 -/
def impl_isToken.l0 : Nat → ByteArray → Int → Int → Option (Bool)
 | 0, _, _, _ => none
 | k + 1, x0, x6, x7 => if x7 < x6 then (if 0 ≤ x7 then (if x7 < (x0.size : Int) then (if (bt x0 x7) < 33 then (some false) else (if (bt x0 x7) > 126 then (some false) else ((strings_IndexByte.f (⟨#[59, 44, 61, 34]⟩ : ByteArray) (bt x0 x7)).bind fun t279 => (if t279 ≥ 0 then (some false) else (impl_isToken.l0 k x0 x6 (wrap64 (x7 + 1))))))) else (none)) else (none)) else (some (decide ((x0.size : Int) ≤ 20)))
def impl_isToken.f (k : Nat) (a0 : ByteArray) : Option (Bool) := impl_isToken.l0 k a0 (a0.size : Int) 0
theorem impl_isToken.mono_l : ∀ k, (∀ y0 y1 y2, LeO (impl_isToken.l0 k y0 y1 y2) (impl_isToken.l0 (k + 1) y0 y1 y2))
 | 0 => fun _ _ _ r h => by simp [impl_isToken.l0] at h
 | k + 1 => by
  have ih0 := impl_isToken.mono_l k
  all_goals intros
  all_goals first | unfold impl_isToken.l0
  all_goals repeat' (first | (with_reducible first | apply ih0 | exact LeO.refl _ | exact LeO.none _ | refine LeO.ite ?_ ?_ | refine LeO.bind ?_ fun _ => ?_) | apply ih0 | exact LeO.none _ | refine LeO.ite ?_ ?_ | refine LeO.bind ?_ fun _ => ?_)
theorem impl_isToken.mono : ∀ a0 k, LeO (impl_isToken.f k a0) (impl_isToken.f (k + 1) a0) := by
 intro a0 k
 have ih0 := impl_isToken.mono_l k
 unfold impl_isToken.f
 repeat' (first | (with_reducible first | apply ih0 | exact LeO.refl _ | exact LeO.none _ | refine LeO.ite ?_ ?_ | refine LeO.bind ?_ fun _ => ?_) | apply ih0 | exact LeO.none _ | refine LeO.ite ?_ ?_ | refine LeO.bind ?_ fun _ => ?_)
set_option maxHeartbeats 8000000 in
set_option maxRecDepth 100000 in
theorem impl_isToken.calls (k : Nat) (a0 : ByteArray) (r : Bool) (w : World) (h : impl_isToken.f k a0 = some r) :
  Calls Tryd.prog 46 #[.string a0] w fun e w' => e = .returned (.bool r) ∧ Drawn0 w w' := by
 have H : (impl_isToken.l0 k a0 (a0.size : Int) 0) = some r := h
 clear h
 have H' := Aside0.mk H
 clear H
 go_enter Tryd.func46, Tryd.ntmps46
 go_wp2
 go_loopg [7] k (fun kq v7 w' => ∃ (x7_1 : Int), v7 = .int .i64 x7_1 ∧ Aside0 (impl_isToken.l0 kq a0 (a0.size : Int) x7_1 = some r) ∧ Aside0 (kq ≤ k) ∧ Drawn0 w w')
 case atStart => exact ⟨(0), zS, H', ⟨Nat.le_refl _⟩, zW⟩
 case round =>
  clear H'
  obtain ⟨x7_1, rfl, HA, HK1, ⟨m1, rfl⟩⟩ := hrel
  cases gk with
  | zero => exact absurd HA.out (by simp [impl_isToken.l0])
  | succ k1 =>
   have H := HA.out
   clear HA
   simp only [impl_isToken.l0] at H
   by_cases c2 : x7_1 < (a0.size : Int)
   ·rw [if_pos c2] at H
    have c2b0 := decide_eq_true c2
    clear c2
    by_cases c3 : 0 ≤ x7_1
    ·rw [if_pos c3] at H
     have c3b0 := decide_eq_true c3
     clear c3
     by_cases c4 : x7_1 < (a0.size : Int)
     ·rw [if_pos c4] at H
      have c4b0 := decide_eq_true c4
      clear c4
      by_cases c6 : (bt a0 x7_1) < 33
      ·rw [if_pos c6] at H
       have c6b0 := decide_eq_true c6
       clear c6
       obtain rfl := Option.some.inj H
       obtain ⟨p5, q5⟩ := zN x7_1 (a0.size : Int)
       have hx5 := bt_at a0 x7_1
       go_wp2
       go_ret
       exact ⟨zS, zW⟩
      ·rw [if_neg c6] at H
       have c6b0 := decide_eq_false c6
       clear c6
       by_cases c7 : (bt a0 x7_1) > 126
       ·rw [if_pos c7] at H
        have c7b0 := decide_eq_true c7
        clear c7
        obtain rfl := Option.some.inj H
        obtain ⟨p5, q5⟩ := zN x7_1 (a0.size : Int)
        have hx5 := bt_at a0 x7_1
        go_wp2
        go_ret
        exact ⟨zS, zW⟩
       ·rw [if_neg c7] at H
        have c7b0 := decide_eq_false c7
        clear c7
        obtain ⟨t279, A8, H⟩ := zO H
        by_cases c9 : t279 ≥ 0
        ·rw [if_pos c9] at H
         have c9b0 := decide_eq_true c9
         clear c9
         obtain rfl := Option.some.inj H
         obtain ⟨p5, q5⟩ := zN x7_1 (a0.size : Int)
         have hx5 := bt_at a0 x7_1
         go_wp2_with (first | (go_at_call 75; (with_reducible refine (strings_IndexByte.calls (⟨#[59, 44, 61, 34]⟩ : ByteArray) (bt a0 x7_1) t279 _ A8.out).mono ?_); rintro e w' ⟨rfl, ⟨nd, rfl⟩⟩))
         go_ret
         exact ⟨zS, zW⟩
        ·rw [if_neg c9] at H
         have c9b0 := decide_eq_false c9
         clear c9
         have H' := Aside0.mk H
         clear H
         obtain ⟨p5, q5⟩ := zN x7_1 (a0.size : Int)
         have hx5 := bt_at a0 x7_1
         go_wp2_with (first | (go_at_call 75; (with_reducible refine (strings_IndexByte.calls (⟨#[59, 44, 61, 34]⟩ : ByteArray) (bt a0 x7_1) t279 _ A8.out).mono ?_); rintro e w' ⟨rfl, ⟨nd, rfl⟩⟩))
         go_roundg k1
         case measure => have := HK1.out; omega
         case rel => exact ⟨(wrap64 (x7_1 + 1)), zS, H', ⟨by have := HK1.out; omega⟩, zW⟩
     ·rw [if_neg c4] at H
      exact absurd H (by simp)
    ·rw [if_neg c3] at H
     exact absurd H (by simp)
   ·rw [if_neg c2] at H
    have c2b0 := decide_eq_false c2
    clear c2
    obtain rfl := Option.some.inj H
    go_wp2
    go_ret
    exact ⟨zS, zW⟩

/-! ### impl_Cookie_prefixOk: function 48 -/
def impl_Cookie_prefixOk.f (a0_0 : ByteArray) (a0_1 : ByteArray) (a0_2 : ByteArray) (a0_3 : Bool) (a0_4 : ByteArray) (a0_5 : Int) (a0_6 : Bool) (a0_7 : Int) (a0_8 : Int) : Option (Bool) := (strings_HasPrefix.f a0_0 (⟨#[95, 95, 72, 111, 115, 116, 45]⟩ : ByteArray)).bind fun t281 => (if t281 = true then (if a0_6 = true then (if a0_3 = true then (some (a0_4.toList == ([47] : List UInt8))) else (some false)) else (some false)) else ((strings_HasPrefix.f a0_0 (⟨#[95, 95, 83, 101, 99, 117, 114, 101, 45]⟩ : ByteArray)).bind fun t282 => (if t282 = true then (some a0_6) else (some true))))
set_option maxHeartbeats 8000000 in
set_option maxRecDepth 100000 in
theorem impl_Cookie_prefixOk.calls (a0_0 : ByteArray) (a0_1 : ByteArray) (a0_2 : ByteArray) (a0_3 : Bool) (a0_4 : ByteArray) (a0_5 : Int) (a0_6 : Bool) (a0_7 : Int) (a0_8 : Int) (r : Bool) (w : World) (h : impl_Cookie_prefixOk.f a0_0 a0_1 a0_2 a0_3 a0_4 a0_5 a0_6 a0_7 a0_8 = some r) :
  Calls Tryd.prog 48 #[.agg #[.string a0_0, .string a0_1, .string a0_2, .bool a0_3, .string a0_4, .int .i64 a0_5, .bool a0_6, .int .i64 a0_7, .int .i64 a0_8]] w fun e w' => e = .returned (.bool r) ∧ Below w.heap.size w w' := by
 have hu39 := Tryd.underlying39
 have HB := Aside0.mk (Below.refl w.heap.size w)
 have H : ((strings_HasPrefix.f a0_0 (⟨#[95, 95, 72, 111, 115, 116, 45]⟩ : ByteArray)).bind fun t281 => (if t281 = true then (if a0_6 = true then (if a0_3 = true then (some (a0_4.toList == ([47] : List UInt8))) else (some false)) else (some false)) else ((strings_HasPrefix.f a0_0 (⟨#[95, 95, 83, 101, 99, 117, 114, 101, 45]⟩ : ByteArray)).bind fun t282 => (if t282 = true then (some a0_6) else (some true))))) = some r := h
 clear h
 obtain ⟨t281, A2, H⟩ := zO H
 by_cases c3 : t281 = true
 ·subst c3
  replace H := zI H rfl
  by_cases c4 : a0_6 = true
  ·subst c4
   replace H := zI H rfl
   by_cases c5 : a0_3 = true
   ·subst c5
    replace H := zI H rfl
    obtain rfl := Option.some.inj H
    go_enter Tryd.func48, Tryd.ntmps48
    go_wp2_with (first | ((with_reducible refine gate_dst (N := 1) rfl ?_); refine zX (N := 1) (cs := #[.string a0_0, .string a0_1, .string a0_2, .bool true, .string a0_4, .int .i64 a0_5, .bool true, .int .i64 a0_7, .int .i64 a0_8]) (t := 39) rfl rfl ?hr zB ?_; (case hr => first | (go_simp; done) | (go_simp; rfl)); clear HB; intro gb280 w6 HB BK280 GW280; have GE280 := GW280; obtain ⟨hcz7_0, hcz7_1, hcz7_2, hcz7_3, hcz7_4, hcz7_5, hcz7_6, hcz7_7, hcz7_8, hfz7_0, hfz7_1, hfz7_2, hfz7_3, hfz7_4, hfz7_5, hfz7_6, hfz7_7, hfz7_8⟩ := zc9 BK280) | ((with_reducible refine gate_callee (f := 76) rfl ?_); refine goesL_ (some 6) rfl rfl Tryd.func76 (by kernel_rfl) rfl #[.string a0_0, .string (⟨#[95, 95, 72, 111, 115, 116, 45]⟩ : ByteArray)] rfl zM ?_; (with_reducible refine (strings_HasPrefix.calls a0_0 (⟨#[95, 95, 72, 111, 115, 116, 45]⟩ : ByteArray) true _ A2.out).mono ?_); rintro e w' ⟨rfl, ⟨nd, rfl⟩⟩; refine ⟨_, rfl, ?_⟩))
    go_ret
    exact ⟨zE, zB⟩
   ·replace c5 := Bool.eq_false_iff.mpr c5
    subst c5
    replace H := zJ H zF
    obtain rfl := Option.some.inj H
    go_enter Tryd.func48, Tryd.ntmps48
    go_wp2_with (first | ((with_reducible refine gate_dst (N := 1) rfl ?_); refine zX (N := 1) (cs := #[.string a0_0, .string a0_1, .string a0_2, .bool false, .string a0_4, .int .i64 a0_5, .bool true, .int .i64 a0_7, .int .i64 a0_8]) (t := 39) rfl rfl ?hr zB ?_; (case hr => first | (go_simp; done) | (go_simp; rfl)); clear HB; intro gb280 w8 HB BK280 GW280; have GE280 := GW280; obtain ⟨hcz9_0, hcz9_1, hcz9_2, hcz9_3, hcz9_4, hcz9_5, hcz9_6, hcz9_7, hcz9_8, hfz9_0, hfz9_1, hfz9_2, hfz9_3, hfz9_4, hfz9_5, hfz9_6, hfz9_7, hfz9_8⟩ := zc9 BK280) | ((with_reducible refine gate_callee (f := 76) rfl ?_); refine goesL_ (some 6) rfl rfl Tryd.func76 (by kernel_rfl) rfl #[.string a0_0, .string (⟨#[95, 95, 72, 111, 115, 116, 45]⟩ : ByteArray)] rfl zM ?_; (with_reducible refine (strings_HasPrefix.calls a0_0 (⟨#[95, 95, 72, 111, 115, 116, 45]⟩ : ByteArray) true _ A2.out).mono ?_); rintro e w' ⟨rfl, ⟨nd, rfl⟩⟩; refine ⟨_, rfl, ?_⟩))
    go_ret
    exact ⟨zE, zB⟩
  ·replace c4 := Bool.eq_false_iff.mpr c4
   subst c4
   replace H := zJ H zF
   obtain rfl := Option.some.inj H
   go_enter Tryd.func48, Tryd.ntmps48
   go_wp2_with (first | ((with_reducible refine gate_dst (N := 1) rfl ?_); refine zX (N := 1) (cs := #[.string a0_0, .string a0_1, .string a0_2, .bool a0_3, .string a0_4, .int .i64 a0_5, .bool false, .int .i64 a0_7, .int .i64 a0_8]) (t := 39) rfl rfl ?hr zB ?_; (case hr => first | (go_simp; done) | (go_simp; rfl)); clear HB; intro gb280 w10 HB BK280 GW280; have GE280 := GW280; obtain ⟨hcz11_0, hcz11_1, hcz11_2, hcz11_3, hcz11_4, hcz11_5, hcz11_6, hcz11_7, hcz11_8, hfz11_0, hfz11_1, hfz11_2, hfz11_3, hfz11_4, hfz11_5, hfz11_6, hfz11_7, hfz11_8⟩ := zc9 BK280) | ((with_reducible refine gate_callee (f := 76) rfl ?_); refine goesL_ (some 6) rfl rfl Tryd.func76 (by kernel_rfl) rfl #[.string a0_0, .string (⟨#[95, 95, 72, 111, 115, 116, 45]⟩ : ByteArray)] rfl zM ?_; (with_reducible refine (strings_HasPrefix.calls a0_0 (⟨#[95, 95, 72, 111, 115, 116, 45]⟩ : ByteArray) true _ A2.out).mono ?_); rintro e w' ⟨rfl, ⟨nd, rfl⟩⟩; refine ⟨_, rfl, ?_⟩))
   go_ret
   exact ⟨zE, zB⟩
 ·replace c3 := Bool.eq_false_iff.mpr c3
  subst c3
  replace H := zJ H zF
  obtain ⟨t282, A12, H⟩ := zO H
  by_cases c13 : t282 = true
  ·subst c13
   replace H := zI H rfl
   obtain rfl := Option.some.inj H
   go_enter Tryd.func48, Tryd.ntmps48
   go_wp2_with (first | ((with_reducible refine gate_dst (N := 1) rfl ?_); refine zX (N := 1) (cs := #[.string a0_0, .string a0_1, .string a0_2, .bool a0_3, .string a0_4, .int .i64 a0_5, .bool a0_6, .int .i64 a0_7, .int .i64 a0_8]) (t := 39) rfl rfl ?hr zB ?_; (case hr => first | (go_simp; done) | (go_simp; rfl)); clear HB; intro gb280 w14 HB BK280 GW280; have GE280 := GW280; obtain ⟨hcz15_0, hcz15_1, hcz15_2, hcz15_3, hcz15_4, hcz15_5, hcz15_6, hcz15_7, hcz15_8, hfz15_0, hfz15_1, hfz15_2, hfz15_3, hfz15_4, hfz15_5, hfz15_6, hfz15_7, hfz15_8⟩ := zc9 BK280) | ((with_reducible refine gate_callee (f := 76) rfl ?_); refine goesL_ (some 6) rfl rfl Tryd.func76 (by kernel_rfl) rfl #[.string a0_0, .string (⟨#[95, 95, 72, 111, 115, 116, 45]⟩ : ByteArray)] rfl zM ?_; (with_reducible refine (strings_HasPrefix.calls a0_0 (⟨#[95, 95, 72, 111, 115, 116, 45]⟩ : ByteArray) false _ A2.out).mono ?_); rintro e w' ⟨rfl, ⟨nd, rfl⟩⟩; refine ⟨_, rfl, ?_⟩) | ((with_reducible refine gate_callee (f := 76) rfl ?_); refine goesL_ (some 21) rfl rfl Tryd.func76 (by kernel_rfl) rfl #[.string a0_0, .string (⟨#[95, 95, 83, 101, 99, 117, 114, 101, 45]⟩ : ByteArray)] rfl zM ?_; (with_reducible refine (strings_HasPrefix.calls a0_0 (⟨#[95, 95, 83, 101, 99, 117, 114, 101, 45]⟩ : ByteArray) true _ A12.out).mono ?_); rintro e w' ⟨rfl, ⟨nd, rfl⟩⟩; refine ⟨_, rfl, ?_⟩))
   go_ret
   exact ⟨zE, zB⟩
  ·replace c13 := Bool.eq_false_iff.mpr c13
   subst c13
   replace H := zJ H zF
   obtain rfl := Option.some.inj H
   go_enter Tryd.func48, Tryd.ntmps48
   go_wp2_with (first | ((with_reducible refine gate_dst (N := 1) rfl ?_); refine zX (N := 1) (cs := #[.string a0_0, .string a0_1, .string a0_2, .bool a0_3, .string a0_4, .int .i64 a0_5, .bool a0_6, .int .i64 a0_7, .int .i64 a0_8]) (t := 39) rfl rfl ?hr zB ?_; (case hr => first | (go_simp; done) | (go_simp; rfl)); clear HB; intro gb280 w16 HB BK280 GW280; have GE280 := GW280; obtain ⟨hcz17_0, hcz17_1, hcz17_2, hcz17_3, hcz17_4, hcz17_5, hcz17_6, hcz17_7, hcz17_8, hfz17_0, hfz17_1, hfz17_2, hfz17_3, hfz17_4, hfz17_5, hfz17_6, hfz17_7, hfz17_8⟩ := zc9 BK280) | ((with_reducible refine gate_callee (f := 76) rfl ?_); refine goesL_ (some 6) rfl rfl Tryd.func76 (by kernel_rfl) rfl #[.string a0_0, .string (⟨#[95, 95, 72, 111, 115, 116, 45]⟩ : ByteArray)] rfl zM ?_; (with_reducible refine (strings_HasPrefix.calls a0_0 (⟨#[95, 95, 72, 111, 115, 116, 45]⟩ : ByteArray) false _ A2.out).mono ?_); rintro e w' ⟨rfl, ⟨nd, rfl⟩⟩; refine ⟨_, rfl, ?_⟩) | ((with_reducible refine gate_callee (f := 76) rfl ?_); refine goesL_ (some 21) rfl rfl Tryd.func76 (by kernel_rfl) rfl #[.string a0_0, .string (⟨#[95, 95, 83, 101, 99, 117, 114, 101, 45]⟩ : ByteArray)] rfl zM ?_; (with_reducible refine (strings_HasPrefix.calls a0_0 (⟨#[95, 95, 83, 101, 99, 117, 114, 101, 45]⟩ : ByteArray) false _ A12.out).mono ?_); rintro e w' ⟨rfl, ⟨nd, rfl⟩⟩; refine ⟨_, rfl, ?_⟩))
   go_ret
   exact ⟨zE, zB⟩

/-! ### impl_CookieOk: function 21 -/
def impl_CookieOk.f (k : Nat) (a0_0 : ByteArray) (a0_1 : ByteArray) (a0_2 : ByteArray) (a0_3 : Bool) (a0_4 : ByteArray) (a0_5 : Int) (a0_6 : Bool) (a0_7 : Int) (a0_8 : Int) : Option (Bool) := (impl_plainName.f k a0_2).bind fun t284 => (if t284 = true then ((impl_isToken.f k a0_0).bind fun t285 => (if t285 = true then (if a0_0.toList = ([] : List UInt8) then (some false) else ((impl_isToken.f k a0_1).bind fun t286 => (if t286 = true then ((impl_in.f (a0_4.size : Int) 1 200).bind fun t287 => (if t287 = true then (if 0 < (a0_4.size : Int) then (if (bt a0_4 0) = 47 then ((impl_Cookie_prefixOk.f a0_0 a0_1 a0_2 a0_3 a0_4 a0_5 a0_6 a0_7 a0_8).bind fun t288 => (if t288 = true then ((impl_in.f a0_5 0 2000001).bind fun t289 => (if t289 = true then ((impl_in.f a0_8 0 1000000).bind fun t290 => (if t290 = true then ((impl_in.f a0_7 0 2).bind fun t291 => (if t291 = true then (if a0_7 = 0 then (some a0_6) else (some true)) else (some false))) else (some false))) else (some false))) else (some false))) else (some false)) else (none)) else (some false))) else (some false)))) else (some false))) else (if a0_3 = true then ((impl_isFour.f k a0_2).bind fun t292 => (if t292 = true then ((impl_isToken.f k a0_0).bind fun t293 => (if t293 = true then (if a0_0.toList = ([] : List UInt8) then (some false) else ((impl_isToken.f k a0_1).bind fun t294 => (if t294 = true then ((impl_in.f (a0_4.size : Int) 1 200).bind fun t295 => (if t295 = true then (if 0 < (a0_4.size : Int) then (if (bt a0_4 0) = 47 then ((impl_Cookie_prefixOk.f a0_0 a0_1 a0_2 a0_3 a0_4 a0_5 a0_6 a0_7 a0_8).bind fun t296 => (if t296 = true then ((impl_in.f a0_5 0 2000001).bind fun t297 => (if t297 = true then ((impl_in.f a0_8 0 1000000).bind fun t298 => (if t298 = true then ((impl_in.f a0_7 0 2).bind fun t299 => (if t299 = true then (if a0_7 = 0 then (some a0_6) else (some true)) else (some false))) else (some false))) else (some false))) else (some false))) else (some false)) else (none)) else (some false))) else (some false)))) else (some false))) else (some false))) else (some false)))
theorem impl_CookieOk.mono : ∀ a0 a1 a2 a3 a4 a5 a6 a7 a8 k, LeO (impl_CookieOk.f k a0 a1 a2 a3 a4 a5 a6 a7 a8) (impl_CookieOk.f (k + 1) a0 a1 a2 a3 a4 a5 a6 a7 a8) := by
 intro a0 a1 a2 a3 a4 a5 a6 a7 a8 k
 unfold impl_CookieOk.f
 repeat' (first | (with_reducible first | apply impl_isFour.mono | apply impl_isToken.mono | apply impl_plainName.mono | exact LeO.refl _ | exact LeO.none _ | refine LeO.ite ?_ ?_ | refine LeO.bind ?_ fun _ => ?_) | apply impl_isFour.mono | apply impl_isToken.mono | apply impl_plainName.mono | exact LeO.none _ | refine LeO.ite ?_ ?_ | refine LeO.bind ?_ fun _ => ?_)
set_option maxHeartbeats 8000000 in
set_option maxRecDepth 100000 in
theorem impl_CookieOk.calls (k : Nat) (a0_0 : ByteArray) (a0_1 : ByteArray) (a0_2 : ByteArray) (a0_3 : Bool) (a0_4 : ByteArray) (a0_5 : Int) (a0_6 : Bool) (a0_7 : Int) (a0_8 : Int) (r : Bool) (w : World) (h : impl_CookieOk.f k a0_0 a0_1 a0_2 a0_3 a0_4 a0_5 a0_6 a0_7 a0_8 = some r) (hG : GW w) :
  Calls Tryd.prog 21 #[.agg #[.string a0_0, .string a0_1, .string a0_2, .bool a0_3, .string a0_4, .int .i64 a0_5, .bool a0_6, .int .i64 a0_7, .int .i64 a0_8]] w fun e w' => e = .returned (.bool r) ∧ Below w.heap.size w w' := by
 have HG := Aside0.mk hG
 clear hG
 have hu39 := Tryd.underlying39
 have HB := Aside0.mk (Below.refl w.heap.size w)
 have H : ((impl_plainName.f k a0_2).bind fun t284 => (if t284 = true then ((impl_isToken.f k a0_0).bind fun t285 => (if t285 = true then (if a0_0.toList = ([] : List UInt8) then (some false) else ((impl_isToken.f k a0_1).bind fun t286 => (if t286 = true then ((impl_in.f (a0_4.size : Int) 1 200).bind fun t287 => (if t287 = true then (if 0 < (a0_4.size : Int) then (if (bt a0_4 0) = 47 then ((impl_Cookie_prefixOk.f a0_0 a0_1 a0_2 a0_3 a0_4 a0_5 a0_6 a0_7 a0_8).bind fun t288 => (if t288 = true then ((impl_in.f a0_5 0 2000001).bind fun t289 => (if t289 = true then ((impl_in.f a0_8 0 1000000).bind fun t290 => (if t290 = true then ((impl_in.f a0_7 0 2).bind fun t291 => (if t291 = true then (if a0_7 = 0 then (some a0_6) else (some true)) else (some false))) else (some false))) else (some false))) else (some false))) else (some false)) else (none)) else (some false))) else (some false)))) else (some false))) else (if a0_3 = true then ((impl_isFour.f k a0_2).bind fun t292 => (if t292 = true then ((impl_isToken.f k a0_0).bind fun t293 => (if t293 = true then (if a0_0.toList = ([] : List UInt8) then (some false) else ((impl_isToken.f k a0_1).bind fun t294 => (if t294 = true then ((impl_in.f (a0_4.size : Int) 1 200).bind fun t295 => (if t295 = true then (if 0 < (a0_4.size : Int) then (if (bt a0_4 0) = 47 then ((impl_Cookie_prefixOk.f a0_0 a0_1 a0_2 a0_3 a0_4 a0_5 a0_6 a0_7 a0_8).bind fun t296 => (if t296 = true then ((impl_in.f a0_5 0 2000001).bind fun t297 => (if t297 = true then ((impl_in.f a0_8 0 1000000).bind fun t298 => (if t298 = true then ((impl_in.f a0_7 0 2).bind fun t299 => (if t299 = true then (if a0_7 = 0 then (some a0_6) else (some true)) else (some false))) else (some false))) else (some false))) else (some false))) else (some false)) else (none)) else (some false))) else (some false)))) else (some false))) else (some false))) else (some false)))) = some r := h
 clear h
 obtain ⟨t284, A2, H⟩ := zO H
 by_cases c3 : t284 = true
 ·subst c3
  replace H := zI H rfl
  obtain ⟨t285, A4, H⟩ := zO H
  by_cases c5 : t285 = true
  ·subst c5
   replace H := zI H rfl
   by_cases c6 : a0_0.toList = ([] : List UInt8)
   ·rw [if_pos c6] at H
    have c6b0 := beq_iff_eq.mpr c6
    have c6b1 := bne_eq_false_iff_eq.mpr c6
    clear c6
    obtain rfl := Option.some.inj H
    go_enter Tryd.func21, Tryd.ntmps21
    try dsimp only [List.append]
    go_wp2_with (first | ((with_reducible refine gate_dst (N := 1) rfl ?_); refine zX (N := 1) (cs := #[.string a0_0, .string a0_1, .string a0_2, .bool a0_3, .string a0_4, .int .i64 a0_5, .bool a0_6, .int .i64 a0_7, .int .i64 a0_8]) (t := 39) rfl rfl ?hr zB ?_; (case hr => first | (go_simp; done) | (go_simp; rfl)); clear HB; intro gb283 w7 HB BK283 GW283; have GE283 := GW283; obtain ⟨hcz8_0, hcz8_1, hcz8_2, hcz8_3, hcz8_4, hcz8_5, hcz8_6, hcz8_7, hcz8_8, hfz8_0, hfz8_1, hfz8_2, hfz8_3, hfz8_4, hfz8_5, hfz8_6, hfz8_7, hfz8_8⟩ := zc9 BK283) | ((with_reducible refine gate_callee (f := 34) rfl ?_); refine goesL_ (some 5) rfl rfl Tryd.func34 (by kernel_rfl) rfl #[.string a0_2] rfl zM ?_; (with_reducible refine (impl_plainName.calls k a0_2 true _ A2.out ?side1).mono ?_); (case side1 => exact GW.below HG.out zB); rintro e w9 ⟨rfl, hb⟩; refine ⟨_, rfl, ?_⟩; replace BK283 := zK BK283 hb; replace HB := zT hb; (try clear hb); obtain ⟨hcz10_0, hcz10_1, hcz10_2, hcz10_3, hcz10_4, hcz10_5, hcz10_6, hcz10_7, hcz10_8, hfz10_0, hfz10_1, hfz10_2, hfz10_3, hfz10_4, hfz10_5, hfz10_6, hfz10_7, hfz10_8⟩ := zc9 BK283) | (go_at_call 46; (with_reducible refine (impl_isToken.calls k a0_0 true _ A4.out).mono ?_); rintro e w' ⟨rfl, ⟨nd, rfl⟩⟩))
    go_ret
    exact ⟨zE, zB⟩
   ·rw [if_neg c6] at H
    have c6b0 := beq_eq_false_iff_ne.mpr c6
    have c6b1 := bne_iff_ne.mpr c6
    obtain ⟨t286, A11, H⟩ := zO H
    by_cases c12 : t286 = true
    ·subst c12
     replace H := zI H rfl
     obtain ⟨t287, A13, H⟩ := zO H
     by_cases c14 : t287 = true
     ·subst c14
      replace H := zI H rfl
      by_cases c15 : 0 < (a0_4.size : Int)
      ·rw [if_pos c15] at H
       have c15b0 := decide_eq_true c15
       have c15b1 : decide (0 < a0_4.size) = true := decide_eq_true (by omega)
       clear c15
       by_cases c17 : (bt a0_4 0) = 47
       ·rw [if_pos c17] at H
        have c17b0 := beq_iff_eq.mpr c17
        have c17b1 := bne_eq_false_iff_eq.mpr c17
        clear c17
        obtain ⟨t288, A18, H⟩ := zO H
        by_cases c19 : t288 = true
        ·subst c19
         replace H := zI H rfl
         obtain ⟨t289, A20, H⟩ := zO H
         by_cases c21 : t289 = true
         ·subst c21
          replace H := zI H rfl
          obtain ⟨t290, A22, H⟩ := zO H
          by_cases c23 : t290 = true
          ·subst c23
           replace H := zI H rfl
           obtain ⟨t291, A24, H⟩ := zO H
           by_cases c25 : t291 = true
           ·subst c25
            replace H := zI H rfl
            by_cases c26 : a0_7 = 0
            ·rw [if_pos c26] at H
             have c26b0 := beq_iff_eq.mpr c26
             have c26b1 := bne_eq_false_iff_eq.mpr c26
             clear c26
             obtain rfl := Option.some.inj H
             go_enter Tryd.func21, Tryd.ntmps21
             try dsimp only [List.append]
             go_wp2_with (first | ((with_reducible refine gate_dst (N := 1) rfl ?_); refine zX (N := 1) (cs := #[.string a0_0, .string a0_1, .string a0_2, .bool a0_3, .string a0_4, .int .i64 a0_5, .bool a0_6, .int .i64 a0_7, .int .i64 a0_8]) (t := 39) rfl rfl ?hr zB ?_; (case hr => first | (go_simp; done) | (go_simp; rfl)); clear HB; intro gb283 w27 HB BK283 GW283; have GE283 := GW283; obtain ⟨hcz28_0, hcz28_1, hcz28_2, hcz28_3, hcz28_4, hcz28_5, hcz28_6, hcz28_7, hcz28_8, hfz28_0, hfz28_1, hfz28_2, hfz28_3, hfz28_4, hfz28_5, hfz28_6, hfz28_7, hfz28_8⟩ := zc9 BK283) | ((with_reducible refine gate_callee (f := 34) rfl ?_); refine goesL_ (some 5) rfl rfl Tryd.func34 (by kernel_rfl) rfl #[.string a0_2] rfl zM ?_; (with_reducible refine (impl_plainName.calls k a0_2 true _ A2.out ?side1).mono ?_); (case side1 => exact GW.below HG.out zB); rintro e w29 ⟨rfl, hb⟩; refine ⟨_, rfl, ?_⟩; replace BK283 := zK BK283 hb; replace HB := zT hb; (try clear hb); obtain ⟨hcz30_0, hcz30_1, hcz30_2, hcz30_3, hcz30_4, hcz30_5, hcz30_6, hcz30_7, hcz30_8, hfz30_0, hfz30_1, hfz30_2, hfz30_3, hfz30_4, hfz30_5, hfz30_6, hfz30_7, hfz30_8⟩ := zc9 BK283) | (go_at_call 46; (with_reducible refine (impl_isToken.calls k a0_0 true _ A4.out).mono ?_); rintro e w' ⟨rfl, ⟨nd, rfl⟩⟩) | (go_at_call 46; (with_reducible refine (impl_isToken.calls k a0_1 true _ A11.out).mono ?_); rintro e w' ⟨rfl, ⟨nd, rfl⟩⟩) | (go_at_call 47; (with_reducible refine (impl_in.calls (a0_4.size : Int) 1 200 true _ A13.out).mono ?_); rintro e w' ⟨rfl, ⟨nd, rfl⟩⟩; have p16 : 0 ≤ (0 : Int) := (by omega); have q16 : 0 < a0_4.size := (by have : (0 : Int) < (a0_4.size : Int) := zD; omega); have hx16 : ∀ h : 0 < a0_4.size, ((a0_4[0]'h).toNat : Int) = bt a0_4 0 := bt_at a0_4 0; clear p16; have qi16 : (0 < (a0_4.size : Int)) = True := eq_true zD; replace q16 := eq_true q16) | (go_at_call 48; (with_reducible refine (impl_Cookie_prefixOk.calls a0_0 a0_1 a0_2 a0_3 a0_4 a0_5 a0_6 a0_7 a0_8 true _ A18.out).mono ?_); rintro e w31 ⟨rfl, hb⟩; replace BK283 := zK BK283 hb; replace HB := zT hb; (try clear hb); obtain ⟨hcz32_0, hcz32_1, hcz32_2, hcz32_3, hcz32_4, hcz32_5, hcz32_6, hcz32_7, hcz32_8, hfz32_0, hfz32_1, hfz32_2, hfz32_3, hfz32_4, hfz32_5, hfz32_6, hfz32_7, hfz32_8⟩ := zc9 BK283) | (go_at_call 47; (with_reducible refine (impl_in.calls a0_5 0 2000001 true _ A20.out).mono ?_); rintro e w' ⟨rfl, ⟨nd, rfl⟩⟩) | (go_at_call 47; (with_reducible refine (impl_in.calls a0_8 0 1000000 true _ A22.out).mono ?_); rintro e w' ⟨rfl, ⟨nd, rfl⟩⟩) | (go_at_call 47; (with_reducible refine (impl_in.calls a0_7 0 2 true _ A24.out).mono ?_); rintro e w' ⟨rfl, ⟨nd, rfl⟩⟩))
             go_ret
             exact ⟨zE, zB⟩
            ·rw [if_neg c26] at H
             have c26b0 := beq_eq_false_iff_ne.mpr c26
             have c26b1 := bne_iff_ne.mpr c26
             obtain rfl := Option.some.inj H
             go_enter Tryd.func21, Tryd.ntmps21
             try dsimp only [List.append]
             go_wp2_with (first | ((with_reducible refine gate_dst (N := 1) rfl ?_); refine zX (N := 1) (cs := #[.string a0_0, .string a0_1, .string a0_2, .bool a0_3, .string a0_4, .int .i64 a0_5, .bool a0_6, .int .i64 a0_7, .int .i64 a0_8]) (t := 39) rfl rfl ?hr zB ?_; (case hr => first | (go_simp; done) | (go_simp; rfl)); clear HB; intro gb283 w33 HB BK283 GW283; have GE283 := GW283; obtain ⟨hcz34_0, hcz34_1, hcz34_2, hcz34_3, hcz34_4, hcz34_5, hcz34_6, hcz34_7, hcz34_8, hfz34_0, hfz34_1, hfz34_2, hfz34_3, hfz34_4, hfz34_5, hfz34_6, hfz34_7, hfz34_8⟩ := zc9 BK283) | ((with_reducible refine gate_callee (f := 34) rfl ?_); refine goesL_ (some 5) rfl rfl Tryd.func34 (by kernel_rfl) rfl #[.string a0_2] rfl zM ?_; (with_reducible refine (impl_plainName.calls k a0_2 true _ A2.out ?side1).mono ?_); (case side1 => exact GW.below HG.out zB); rintro e w35 ⟨rfl, hb⟩; refine ⟨_, rfl, ?_⟩; replace BK283 := zK BK283 hb; replace HB := zT hb; (try clear hb); obtain ⟨hcz36_0, hcz36_1, hcz36_2, hcz36_3, hcz36_4, hcz36_5, hcz36_6, hcz36_7, hcz36_8, hfz36_0, hfz36_1, hfz36_2, hfz36_3, hfz36_4, hfz36_5, hfz36_6, hfz36_7, hfz36_8⟩ := zc9 BK283) | (go_at_call 46; (with_reducible refine (impl_isToken.calls k a0_0 true _ A4.out).mono ?_); rintro e w' ⟨rfl, ⟨nd, rfl⟩⟩) | (go_at_call 46; (with_reducible refine (impl_isToken.calls k a0_1 true _ A11.out).mono ?_); rintro e w' ⟨rfl, ⟨nd, rfl⟩⟩) | (go_at_call 47; (with_reducible refine (impl_in.calls (a0_4.size : Int) 1 200 true _ A13.out).mono ?_); rintro e w' ⟨rfl, ⟨nd, rfl⟩⟩; have p16 : 0 ≤ (0 : Int) := (by omega); have q16 : 0 < a0_4.size := (by have : (0 : Int) < (a0_4.size : Int) := zD; omega); have hx16 : ∀ h : 0 < a0_4.size, ((a0_4[0]'h).toNat : Int) = bt a0_4 0 := bt_at a0_4 0; clear p16; have qi16 : (0 < (a0_4.size : Int)) = True := eq_true zD; replace q16 := eq_true q16) | (go_at_call 48; (with_reducible refine (impl_Cookie_prefixOk.calls a0_0 a0_1 a0_2 a0_3 a0_4 a0_5 a0_6 a0_7 a0_8 true _ A18.out).mono ?_); rintro e w37 ⟨rfl, hb⟩; replace BK283 := zK BK283 hb; replace HB := zT hb; (try clear hb); obtain ⟨hcz38_0, hcz38_1, hcz38_2, hcz38_3, hcz38_4, hcz38_5, hcz38_6, hcz38_7, hcz38_8, hfz38_0, hfz38_1, hfz38_2, hfz38_3, hfz38_4, hfz38_5, hfz38_6, hfz38_7, hfz38_8⟩ := zc9 BK283) | (go_at_call 47; (with_reducible refine (impl_in.calls a0_5 0 2000001 true _ A20.out).mono ?_); rintro e w' ⟨rfl, ⟨nd, rfl⟩⟩) | (go_at_call 47; (with_reducible refine (impl_in.calls a0_8 0 1000000 true _ A22.out).mono ?_); rintro e w' ⟨rfl, ⟨nd, rfl⟩⟩) | (go_at_call 47; (with_reducible refine (impl_in.calls a0_7 0 2 true _ A24.out).mono ?_); rintro e w' ⟨rfl, ⟨nd, rfl⟩⟩))
             go_ret
             exact ⟨zE, zB⟩
           ·replace c25 := Bool.eq_false_iff.mpr c25
            subst c25
            replace H := zJ H zF
            obtain rfl := Option.some.inj H
            go_enter Tryd.func21, Tryd.ntmps21
            try dsimp only [List.append]
            go_wp2_with (first | ((with_reducible refine gate_dst (N := 1) rfl ?_); refine zX (N := 1) (cs := #[.string a0_0, .string a0_1, .string a0_2, .bool a0_3, .string a0_4, .int .i64 a0_5, .bool a0_6, .int .i64 a0_7, .int .i64 a0_8]) (t := 39) rfl rfl ?hr zB ?_; (case hr => first | (go_simp; done) | (go_simp; rfl)); clear HB; intro gb283 w39 HB BK283 GW283; have GE283 := GW283; obtain ⟨hcz40_0, hcz40_1, hcz40_2, hcz40_3, hcz40_4, hcz40_5, hcz40_6, hcz40_7, hcz40_8, hfz40_0, hfz40_1, hfz40_2, hfz40_3, hfz40_4, hfz40_5, hfz40_6, hfz40_7, hfz40_8⟩ := zc9 BK283) | ((with_reducible refine gate_callee (f := 34) rfl ?_); refine goesL_ (some 5) rfl rfl Tryd.func34 (by kernel_rfl) rfl #[.string a0_2] rfl zM ?_; (with_reducible refine (impl_plainName.calls k a0_2 true _ A2.out ?side1).mono ?_); (case side1 => exact GW.below HG.out zB); rintro e w41 ⟨rfl, hb⟩; refine ⟨_, rfl, ?_⟩; replace BK283 := zK BK283 hb; replace HB := zT hb; (try clear hb); obtain ⟨hcz42_0, hcz42_1, hcz42_2, hcz42_3, hcz42_4, hcz42_5, hcz42_6, hcz42_7, hcz42_8, hfz42_0, hfz42_1, hfz42_2, hfz42_3, hfz42_4, hfz42_5, hfz42_6, hfz42_7, hfz42_8⟩ := zc9 BK283) | (go_at_call 46; (with_reducible refine (impl_isToken.calls k a0_0 true _ A4.out).mono ?_); rintro e w' ⟨rfl, ⟨nd, rfl⟩⟩) | (go_at_call 46; (with_reducible refine (impl_isToken.calls k a0_1 true _ A11.out).mono ?_); rintro e w' ⟨rfl, ⟨nd, rfl⟩⟩) | (go_at_call 47; (with_reducible refine (impl_in.calls (a0_4.size : Int) 1 200 true _ A13.out).mono ?_); rintro e w' ⟨rfl, ⟨nd, rfl⟩⟩; have p16 : 0 ≤ (0 : Int) := (by omega); have q16 : 0 < a0_4.size := (by have : (0 : Int) < (a0_4.size : Int) := zD; omega); have hx16 : ∀ h : 0 < a0_4.size, ((a0_4[0]'h).toNat : Int) = bt a0_4 0 := bt_at a0_4 0; clear p16; have qi16 : (0 < (a0_4.size : Int)) = True := eq_true zD; replace q16 := eq_true q16) | (go_at_call 48; (with_reducible refine (impl_Cookie_prefixOk.calls a0_0 a0_1 a0_2 a0_3 a0_4 a0_5 a0_6 a0_7 a0_8 true _ A18.out).mono ?_); rintro e w43 ⟨rfl, hb⟩; replace BK283 := zK BK283 hb; replace HB := zT hb; (try clear hb); obtain ⟨hcz44_0, hcz44_1, hcz44_2, hcz44_3, hcz44_4, hcz44_5, hcz44_6, hcz44_7, hcz44_8, hfz44_0, hfz44_1, hfz44_2, hfz44_3, hfz44_4, hfz44_5, hfz44_6, hfz44_7, hfz44_8⟩ := zc9 BK283) | (go_at_call 47; (with_reducible refine (impl_in.calls a0_5 0 2000001 true _ A20.out).mono ?_); rintro e w' ⟨rfl, ⟨nd, rfl⟩⟩) | (go_at_call 47; (with_reducible refine (impl_in.calls a0_8 0 1000000 true _ A22.out).mono ?_); rintro e w' ⟨rfl, ⟨nd, rfl⟩⟩) | (go_at_call 47; (with_reducible refine (impl_in.calls a0_7 0 2 false _ A24.out).mono ?_); rintro e w' ⟨rfl, ⟨nd, rfl⟩⟩))
            go_ret
            exact ⟨zE, zB⟩
          ·replace c23 := Bool.eq_false_iff.mpr c23
           subst c23
           replace H := zJ H zF
           obtain rfl := Option.some.inj H
           go_enter Tryd.func21, Tryd.ntmps21
           try dsimp only [List.append]
           go_wp2_with (first | ((with_reducible refine gate_dst (N := 1) rfl ?_); refine zX (N := 1) (cs := #[.string a0_0, .string a0_1, .string a0_2, .bool a0_3, .string a0_4, .int .i64 a0_5, .bool a0_6, .int .i64 a0_7, .int .i64 a0_8]) (t := 39) rfl rfl ?hr zB ?_; (case hr => first | (go_simp; done) | (go_simp; rfl)); clear HB; intro gb283 w45 HB BK283 GW283; have GE283 := GW283; obtain ⟨hcz46_0, hcz46_1, hcz46_2, hcz46_3, hcz46_4, hcz46_5, hcz46_6, hcz46_7, hcz46_8, hfz46_0, hfz46_1, hfz46_2, hfz46_3, hfz46_4, hfz46_5, hfz46_6, hfz46_7, hfz46_8⟩ := zc9 BK283) | ((with_reducible refine gate_callee (f := 34) rfl ?_); refine goesL_ (some 5) rfl rfl Tryd.func34 (by kernel_rfl) rfl #[.string a0_2] rfl zM ?_; (with_reducible refine (impl_plainName.calls k a0_2 true _ A2.out ?side1).mono ?_); (case side1 => exact GW.below HG.out zB); rintro e w47 ⟨rfl, hb⟩; refine ⟨_, rfl, ?_⟩; replace BK283 := zK BK283 hb; replace HB := zT hb; (try clear hb); obtain ⟨hcz48_0, hcz48_1, hcz48_2, hcz48_3, hcz48_4, hcz48_5, hcz48_6, hcz48_7, hcz48_8, hfz48_0, hfz48_1, hfz48_2, hfz48_3, hfz48_4, hfz48_5, hfz48_6, hfz48_7, hfz48_8⟩ := zc9 BK283) | (go_at_call 46; (with_reducible refine (impl_isToken.calls k a0_0 true _ A4.out).mono ?_); rintro e w' ⟨rfl, ⟨nd, rfl⟩⟩) | (go_at_call 46; (with_reducible refine (impl_isToken.calls k a0_1 true _ A11.out).mono ?_); rintro e w' ⟨rfl, ⟨nd, rfl⟩⟩) | (go_at_call 47; (with_reducible refine (impl_in.calls (a0_4.size : Int) 1 200 true _ A13.out).mono ?_); rintro e w' ⟨rfl, ⟨nd, rfl⟩⟩; have p16 : 0 ≤ (0 : Int) := (by omega); have q16 : 0 < a0_4.size := (by have : (0 : Int) < (a0_4.size : Int) := zD; omega); have hx16 : ∀ h : 0 < a0_4.size, ((a0_4[0]'h).toNat : Int) = bt a0_4 0 := bt_at a0_4 0; clear p16; have qi16 : (0 < (a0_4.size : Int)) = True := eq_true zD; replace q16 := eq_true q16) | (go_at_call 48; (with_reducible refine (impl_Cookie_prefixOk.calls a0_0 a0_1 a0_2 a0_3 a0_4 a0_5 a0_6 a0_7 a0_8 true _ A18.out).mono ?_); rintro e w49 ⟨rfl, hb⟩; replace BK283 := zK BK283 hb; replace HB := zT hb; (try clear hb); obtain ⟨hcz50_0, hcz50_1, hcz50_2, hcz50_3, hcz50_4, hcz50_5, hcz50_6, hcz50_7, hcz50_8, hfz50_0, hfz50_1, hfz50_2, hfz50_3, hfz50_4, hfz50_5, hfz50_6, hfz50_7, hfz50_8⟩ := zc9 BK283) | (go_at_call 47; (with_reducible refine (impl_in.calls a0_5 0 2000001 true _ A20.out).mono ?_); rintro e w' ⟨rfl, ⟨nd, rfl⟩⟩) | (go_at_call 47; (with_reducible refine (impl_in.calls a0_8 0 1000000 false _ A22.out).mono ?_); rintro e w' ⟨rfl, ⟨nd, rfl⟩⟩))
           go_ret
           exact ⟨zE, zB⟩
         ·replace c21 := Bool.eq_false_iff.mpr c21
          subst c21
          replace H := zJ H zF
          obtain rfl := Option.some.inj H
          go_enter Tryd.func21, Tryd.ntmps21
          try dsimp only [List.append]
          go_wp2_with (first | ((with_reducible refine gate_dst (N := 1) rfl ?_); refine zX (N := 1) (cs := #[.string a0_0, .string a0_1, .string a0_2, .bool a0_3, .string a0_4, .int .i64 a0_5, .bool a0_6, .int .i64 a0_7, .int .i64 a0_8]) (t := 39) rfl rfl ?hr zB ?_; (case hr => first | (go_simp; done) | (go_simp; rfl)); clear HB; intro gb283 w51 HB BK283 GW283; have GE283 := GW283; obtain ⟨hcz52_0, hcz52_1, hcz52_2, hcz52_3, hcz52_4, hcz52_5, hcz52_6, hcz52_7, hcz52_8, hfz52_0, hfz52_1, hfz52_2, hfz52_3, hfz52_4, hfz52_5, hfz52_6, hfz52_7, hfz52_8⟩ := zc9 BK283) | ((with_reducible refine gate_callee (f := 34) rfl ?_); refine goesL_ (some 5) rfl rfl Tryd.func34 (by kernel_rfl) rfl #[.string a0_2] rfl zM ?_; (with_reducible refine (impl_plainName.calls k a0_2 true _ A2.out ?side1).mono ?_); (case side1 => exact GW.below HG.out zB); rintro e w53 ⟨rfl, hb⟩; refine ⟨_, rfl, ?_⟩; replace BK283 := zK BK283 hb; replace HB := zT hb; (try clear hb); obtain ⟨hcz54_0, hcz54_1, hcz54_2, hcz54_3, hcz54_4, hcz54_5, hcz54_6, hcz54_7, hcz54_8, hfz54_0, hfz54_1, hfz54_2, hfz54_3, hfz54_4, hfz54_5, hfz54_6, hfz54_7, hfz54_8⟩ := zc9 BK283) | (go_at_call 46; (with_reducible refine (impl_isToken.calls k a0_0 true _ A4.out).mono ?_); rintro e w' ⟨rfl, ⟨nd, rfl⟩⟩) | (go_at_call 46; (with_reducible refine (impl_isToken.calls k a0_1 true _ A11.out).mono ?_); rintro e w' ⟨rfl, ⟨nd, rfl⟩⟩) | (go_at_call 47; (with_reducible refine (impl_in.calls (a0_4.size : Int) 1 200 true _ A13.out).mono ?_); rintro e w' ⟨rfl, ⟨nd, rfl⟩⟩; have p16 : 0 ≤ (0 : Int) := (by omega); have q16 : 0 < a0_4.size := (by have : (0 : Int) < (a0_4.size : Int) := zD; omega); have hx16 : ∀ h : 0 < a0_4.size, ((a0_4[0]'h).toNat : Int) = bt a0_4 0 := bt_at a0_4 0; clear p16; have qi16 : (0 < (a0_4.size : Int)) = True := eq_true zD; replace q16 := eq_true q16) | (go_at_call 48; (with_reducible refine (impl_Cookie_prefixOk.calls a0_0 a0_1 a0_2 a0_3 a0_4 a0_5 a0_6 a0_7 a0_8 true _ A18.out).mono ?_); rintro e w55 ⟨rfl, hb⟩; replace BK283 := zK BK283 hb; replace HB := zT hb; (try clear hb); obtain ⟨hcz56_0, hcz56_1, hcz56_2, hcz56_3, hcz56_4, hcz56_5, hcz56_6, hcz56_7, hcz56_8, hfz56_0, hfz56_1, hfz56_2, hfz56_3, hfz56_4, hfz56_5, hfz56_6, hfz56_7, hfz56_8⟩ := zc9 BK283) | (go_at_call 47; (with_reducible refine (impl_in.calls a0_5 0 2000001 false _ A20.out).mono ?_); rintro e w' ⟨rfl, ⟨nd, rfl⟩⟩))
          go_ret
          exact ⟨zE, zB⟩
        ·replace c19 := Bool.eq_false_iff.mpr c19
         subst c19
         replace H := zJ H zF
         obtain rfl := Option.some.inj H
         go_enter Tryd.func21, Tryd.ntmps21
         try dsimp only [List.append]
         go_wp2_with (first | ((with_reducible refine gate_dst (N := 1) rfl ?_); refine zX (N := 1) (cs := #[.string a0_0, .string a0_1, .string a0_2, .bool a0_3, .string a0_4, .int .i64 a0_5, .bool a0_6, .int .i64 a0_7, .int .i64 a0_8]) (t := 39) rfl rfl ?hr zB ?_; (case hr => first | (go_simp; done) | (go_simp; rfl)); clear HB; intro gb283 w57 HB BK283 GW283; have GE283 := GW283; obtain ⟨hcz58_0, hcz58_1, hcz58_2, hcz58_3, hcz58_4, hcz58_5, hcz58_6, hcz58_7, hcz58_8, hfz58_0, hfz58_1, hfz58_2, hfz58_3, hfz58_4, hfz58_5, hfz58_6, hfz58_7, hfz58_8⟩ := zc9 BK283) | ((with_reducible refine gate_callee (f := 34) rfl ?_); refine goesL_ (some 5) rfl rfl Tryd.func34 (by kernel_rfl) rfl #[.string a0_2] rfl zM ?_; (with_reducible refine (impl_plainName.calls k a0_2 true _ A2.out ?side1).mono ?_); (case side1 => exact GW.below HG.out zB); rintro e w59 ⟨rfl, hb⟩; refine ⟨_, rfl, ?_⟩; replace BK283 := zK BK283 hb; replace HB := zT hb; (try clear hb); obtain ⟨hcz60_0, hcz60_1, hcz60_2, hcz60_3, hcz60_4, hcz60_5, hcz60_6, hcz60_7, hcz60_8, hfz60_0, hfz60_1, hfz60_2, hfz60_3, hfz60_4, hfz60_5, hfz60_6, hfz60_7, hfz60_8⟩ := zc9 BK283) | (go_at_call 46; (with_reducible refine (impl_isToken.calls k a0_0 true _ A4.out).mono ?_); rintro e w' ⟨rfl, ⟨nd, rfl⟩⟩) | (go_at_call 46; (with_reducible refine (impl_isToken.calls k a0_1 true _ A11.out).mono ?_); rintro e w' ⟨rfl, ⟨nd, rfl⟩⟩) | (go_at_call 47; (with_reducible refine (impl_in.calls (a0_4.size : Int) 1 200 true _ A13.out).mono ?_); rintro e w' ⟨rfl, ⟨nd, rfl⟩⟩; have p16 : 0 ≤ (0 : Int) := (by omega); have q16 : 0 < a0_4.size := (by have : (0 : Int) < (a0_4.size : Int) := zD; omega); have hx16 : ∀ h : 0 < a0_4.size, ((a0_4[0]'h).toNat : Int) = bt a0_4 0 := bt_at a0_4 0; clear p16; have qi16 : (0 < (a0_4.size : Int)) = True := eq_true zD; replace q16 := eq_true q16) | (go_at_call 48; (with_reducible refine (impl_Cookie_prefixOk.calls a0_0 a0_1 a0_2 a0_3 a0_4 a0_5 a0_6 a0_7 a0_8 false _ A18.out).mono ?_); rintro e w61 ⟨rfl, hb⟩; replace BK283 := zK BK283 hb; replace HB := zT hb; (try clear hb)))
         go_ret
         exact ⟨zE, zB⟩
       ·rw [if_neg c17] at H
        have c17b0 := beq_eq_false_iff_ne.mpr c17
        have c17b1 := bne_iff_ne.mpr c17
        obtain rfl := Option.some.inj H
        go_enter Tryd.func21, Tryd.ntmps21
        try dsimp only [List.append]
        go_wp2_with (first | ((with_reducible refine gate_dst (N := 1) rfl ?_); refine zX (N := 1) (cs := #[.string a0_0, .string a0_1, .string a0_2, .bool a0_3, .string a0_4, .int .i64 a0_5, .bool a0_6, .int .i64 a0_7, .int .i64 a0_8]) (t := 39) rfl rfl ?hr zB ?_; (case hr => first | (go_simp; done) | (go_simp; rfl)); clear HB; intro gb283 w62 HB BK283 GW283; have GE283 := GW283; obtain ⟨hcz63_0, hcz63_1, hcz63_2, hcz63_3, hcz63_4, hcz63_5, hcz63_6, hcz63_7, hcz63_8, hfz63_0, hfz63_1, hfz63_2, hfz63_3, hfz63_4, hfz63_5, hfz63_6, hfz63_7, hfz63_8⟩ := zc9 BK283) | ((with_reducible refine gate_callee (f := 34) rfl ?_); refine goesL_ (some 5) rfl rfl Tryd.func34 (by kernel_rfl) rfl #[.string a0_2] rfl zM ?_; (with_reducible refine (impl_plainName.calls k a0_2 true _ A2.out ?side1).mono ?_); (case side1 => exact GW.below HG.out zB); rintro e w64 ⟨rfl, hb⟩; refine ⟨_, rfl, ?_⟩; replace BK283 := zK BK283 hb; replace HB := zT hb; (try clear hb); obtain ⟨hcz65_0, hcz65_1, hcz65_2, hcz65_3, hcz65_4, hcz65_5, hcz65_6, hcz65_7, hcz65_8, hfz65_0, hfz65_1, hfz65_2, hfz65_3, hfz65_4, hfz65_5, hfz65_6, hfz65_7, hfz65_8⟩ := zc9 BK283) | (go_at_call 46; (with_reducible refine (impl_isToken.calls k a0_0 true _ A4.out).mono ?_); rintro e w' ⟨rfl, ⟨nd, rfl⟩⟩) | (go_at_call 46; (with_reducible refine (impl_isToken.calls k a0_1 true _ A11.out).mono ?_); rintro e w' ⟨rfl, ⟨nd, rfl⟩⟩) | (go_at_call 47; (with_reducible refine (impl_in.calls (a0_4.size : Int) 1 200 true _ A13.out).mono ?_); rintro e w' ⟨rfl, ⟨nd, rfl⟩⟩; have p16 : 0 ≤ (0 : Int) := (by omega); have q16 : 0 < a0_4.size := (by have : (0 : Int) < (a0_4.size : Int) := zD; omega); have hx16 : ∀ h : 0 < a0_4.size, ((a0_4[0]'h).toNat : Int) = bt a0_4 0 := bt_at a0_4 0; clear p16; have qi16 : (0 < (a0_4.size : Int)) = True := eq_true zD; replace q16 := eq_true q16))
        go_ret
        exact ⟨zE, zB⟩
      ·rw [if_neg c15] at H
       exact absurd H (by simp)
     ·replace c14 := Bool.eq_false_iff.mpr c14
      subst c14
      replace H := zJ H zF
      obtain rfl := Option.some.inj H
      go_enter Tryd.func21, Tryd.ntmps21
      try dsimp only [List.append]
      go_wp2_with (first | ((with_reducible refine gate_dst (N := 1) rfl ?_); refine zX (N := 1) (cs := #[.string a0_0, .string a0_1, .string a0_2, .bool a0_3, .string a0_4, .int .i64 a0_5, .bool a0_6, .int .i64 a0_7, .int .i64 a0_8]) (t := 39) rfl rfl ?hr zB ?_; (case hr => first | (go_simp; done) | (go_simp; rfl)); clear HB; intro gb283 w66 HB BK283 GW283; have GE283 := GW283; obtain ⟨hcz67_0, hcz67_1, hcz67_2, hcz67_3, hcz67_4, hcz67_5, hcz67_6, hcz67_7, hcz67_8, hfz67_0, hfz67_1, hfz67_2, hfz67_3, hfz67_4, hfz67_5, hfz67_6, hfz67_7, hfz67_8⟩ := zc9 BK283) | ((with_reducible refine gate_callee (f := 34) rfl ?_); refine goesL_ (some 5) rfl rfl Tryd.func34 (by kernel_rfl) rfl #[.string a0_2] rfl zM ?_; (with_reducible refine (impl_plainName.calls k a0_2 true _ A2.out ?side1).mono ?_); (case side1 => exact GW.below HG.out zB); rintro e w68 ⟨rfl, hb⟩; refine ⟨_, rfl, ?_⟩; replace BK283 := zK BK283 hb; replace HB := zT hb; (try clear hb); obtain ⟨hcz69_0, hcz69_1, hcz69_2, hcz69_3, hcz69_4, hcz69_5, hcz69_6, hcz69_7, hcz69_8, hfz69_0, hfz69_1, hfz69_2, hfz69_3, hfz69_4, hfz69_5, hfz69_6, hfz69_7, hfz69_8⟩ := zc9 BK283) | (go_at_call 46; (with_reducible refine (impl_isToken.calls k a0_0 true _ A4.out).mono ?_); rintro e w' ⟨rfl, ⟨nd, rfl⟩⟩) | (go_at_call 46; (with_reducible refine (impl_isToken.calls k a0_1 true _ A11.out).mono ?_); rintro e w' ⟨rfl, ⟨nd, rfl⟩⟩) | (go_at_call 47; (with_reducible refine (impl_in.calls (a0_4.size : Int) 1 200 false _ A13.out).mono ?_); rintro e w' ⟨rfl, ⟨nd, rfl⟩⟩))
      go_ret
      exact ⟨zE, zB⟩
    ·replace c12 := Bool.eq_false_iff.mpr c12
     subst c12
     replace H := zJ H zF
     obtain rfl := Option.some.inj H
     go_enter Tryd.func21, Tryd.ntmps21
     try dsimp only [List.append]
     go_wp2_with (first | ((with_reducible refine gate_dst (N := 1) rfl ?_); refine zX (N := 1) (cs := #[.string a0_0, .string a0_1, .string a0_2, .bool a0_3, .string a0_4, .int .i64 a0_5, .bool a0_6, .int .i64 a0_7, .int .i64 a0_8]) (t := 39) rfl rfl ?hr zB ?_; (case hr => first | (go_simp; done) | (go_simp; rfl)); clear HB; intro gb283 w70 HB BK283 GW283; have GE283 := GW283; obtain ⟨hcz71_0, hcz71_1, hcz71_2, hcz71_3, hcz71_4, hcz71_5, hcz71_6, hcz71_7, hcz71_8, hfz71_0, hfz71_1, hfz71_2, hfz71_3, hfz71_4, hfz71_5, hfz71_6, hfz71_7, hfz71_8⟩ := zc9 BK283) | ((with_reducible refine gate_callee (f := 34) rfl ?_); refine goesL_ (some 5) rfl rfl Tryd.func34 (by kernel_rfl) rfl #[.string a0_2] rfl zM ?_; (with_reducible refine (impl_plainName.calls k a0_2 true _ A2.out ?side1).mono ?_); (case side1 => exact GW.below HG.out zB); rintro e w72 ⟨rfl, hb⟩; refine ⟨_, rfl, ?_⟩; replace BK283 := zK BK283 hb; replace HB := zT hb; (try clear hb); obtain ⟨hcz73_0, hcz73_1, hcz73_2, hcz73_3, hcz73_4, hcz73_5, hcz73_6, hcz73_7, hcz73_8, hfz73_0, hfz73_1, hfz73_2, hfz73_3, hfz73_4, hfz73_5, hfz73_6, hfz73_7, hfz73_8⟩ := zc9 BK283) | (go_at_call 46; (with_reducible refine (impl_isToken.calls k a0_0 true _ A4.out).mono ?_); rintro e w' ⟨rfl, ⟨nd, rfl⟩⟩) | (go_at_call 46; (with_reducible refine (impl_isToken.calls k a0_1 false _ A11.out).mono ?_); rintro e w' ⟨rfl, ⟨nd, rfl⟩⟩))
     go_ret
     exact ⟨zE, zB⟩
  ·replace c5 := Bool.eq_false_iff.mpr c5
   subst c5
   replace H := zJ H zF
   obtain rfl := Option.some.inj H
   go_enter Tryd.func21, Tryd.ntmps21
   try dsimp only [List.append]
   go_wp2_with (first | ((with_reducible refine gate_dst (N := 1) rfl ?_); refine zX (N := 1) (cs := #[.string a0_0, .string a0_1, .string a0_2, .bool a0_3, .string a0_4, .int .i64 a0_5, .bool a0_6, .int .i64 a0_7, .int .i64 a0_8]) (t := 39) rfl rfl ?hr zB ?_; (case hr => first | (go_simp; done) | (go_simp; rfl)); clear HB; intro gb283 w74 HB BK283 GW283; have GE283 := GW283; obtain ⟨hcz75_0, hcz75_1, hcz75_2, hcz75_3, hcz75_4, hcz75_5, hcz75_6, hcz75_7, hcz75_8, hfz75_0, hfz75_1, hfz75_2, hfz75_3, hfz75_4, hfz75_5, hfz75_6, hfz75_7, hfz75_8⟩ := zc9 BK283) | ((with_reducible refine gate_callee (f := 34) rfl ?_); refine goesL_ (some 5) rfl rfl Tryd.func34 (by kernel_rfl) rfl #[.string a0_2] rfl zM ?_; (with_reducible refine (impl_plainName.calls k a0_2 true _ A2.out ?side1).mono ?_); (case side1 => exact GW.below HG.out zB); rintro e w76 ⟨rfl, hb⟩; refine ⟨_, rfl, ?_⟩; replace BK283 := zK BK283 hb; replace HB := zT hb; (try clear hb); obtain ⟨hcz77_0, hcz77_1, hcz77_2, hcz77_3, hcz77_4, hcz77_5, hcz77_6, hcz77_7, hcz77_8, hfz77_0, hfz77_1, hfz77_2, hfz77_3, hfz77_4, hfz77_5, hfz77_6, hfz77_7, hfz77_8⟩ := zc9 BK283) | (go_at_call 46; (with_reducible refine (impl_isToken.calls k a0_0 false _ A4.out).mono ?_); rintro e w' ⟨rfl, ⟨nd, rfl⟩⟩))
   go_ret
   exact ⟨zE, zB⟩
 ·replace c3 := Bool.eq_false_iff.mpr c3
  subst c3
  replace H := zJ H zF
  by_cases c78 : a0_3 = true
  ·subst c78
   replace H := zI H rfl
   obtain ⟨t292, A79, H⟩ := zO H
   by_cases c80 : t292 = true
   ·subst c80
    replace H := zI H rfl
    obtain ⟨t293, A81, H⟩ := zO H
    by_cases c82 : t293 = true
    ·subst c82
     replace H := zI H rfl
     by_cases c83 : a0_0.toList = ([] : List UInt8)
     ·rw [if_pos c83] at H
      have c83b0 := beq_iff_eq.mpr c83
      have c83b1 := bne_eq_false_iff_eq.mpr c83
      clear c83
      obtain rfl := Option.some.inj H
      go_enter Tryd.func21, Tryd.ntmps21
      try dsimp only [List.append]
      go_wp2_with (first | ((with_reducible refine gate_dst (N := 1) rfl ?_); refine zX (N := 1) (cs := #[.string a0_0, .string a0_1, .string a0_2, .bool true, .string a0_4, .int .i64 a0_5, .bool a0_6, .int .i64 a0_7, .int .i64 a0_8]) (t := 39) rfl rfl ?hr zB ?_; (case hr => first | (go_simp; done) | (go_simp; rfl)); clear HB; intro gb283 w84 HB BK283 GW283; have GE283 := GW283; obtain ⟨hcz85_0, hcz85_1, hcz85_2, hcz85_3, hcz85_4, hcz85_5, hcz85_6, hcz85_7, hcz85_8, hfz85_0, hfz85_1, hfz85_2, hfz85_3, hfz85_4, hfz85_5, hfz85_6, hfz85_7, hfz85_8⟩ := zc9 BK283) | ((with_reducible refine gate_callee (f := 34) rfl ?_); refine goesL_ (some 5) rfl rfl Tryd.func34 (by kernel_rfl) rfl #[.string a0_2] rfl zM ?_; (with_reducible refine (impl_plainName.calls k a0_2 false _ A2.out ?side1).mono ?_); (case side1 => exact GW.below HG.out zB); rintro e w86 ⟨rfl, hb⟩; refine ⟨_, rfl, ?_⟩; replace BK283 := zK BK283 hb; replace HB := zT hb; (try clear hb); obtain ⟨hcz87_0, hcz87_1, hcz87_2, hcz87_3, hcz87_4, hcz87_5, hcz87_6, hcz87_7, hcz87_8, hfz87_0, hfz87_1, hfz87_2, hfz87_3, hfz87_4, hfz87_5, hfz87_6, hfz87_7, hfz87_8⟩ := zc9 BK283) | (go_at_call 45; (with_reducible refine (impl_isFour.calls k a0_2 true _ A79.out ?side1).mono ?_); (case side1 => exact GW.below HG.out zB); rintro e w88 ⟨rfl, hb⟩; replace BK283 := zK BK283 hb; replace HB := zT hb; (try clear hb); obtain ⟨hcz89_0, hcz89_1, hcz89_2, hcz89_3, hcz89_4, hcz89_5, hcz89_6, hcz89_7, hcz89_8, hfz89_0, hfz89_1, hfz89_2, hfz89_3, hfz89_4, hfz89_5, hfz89_6, hfz89_7, hfz89_8⟩ := zc9 BK283) | (go_at_call 46; (with_reducible refine (impl_isToken.calls k a0_0 true _ A81.out).mono ?_); rintro e w' ⟨rfl, ⟨nd, rfl⟩⟩))
      go_ret
      exact ⟨zE, zB⟩
     ·rw [if_neg c83] at H
      have c83b0 := beq_eq_false_iff_ne.mpr c83
      have c83b1 := bne_iff_ne.mpr c83
      obtain ⟨t294, A90, H⟩ := zO H
      by_cases c91 : t294 = true
      ·subst c91
       replace H := zI H rfl
       obtain ⟨t295, A92, H⟩ := zO H
       by_cases c93 : t295 = true
       ·subst c93
        replace H := zI H rfl
        by_cases c94 : 0 < (a0_4.size : Int)
        ·rw [if_pos c94] at H
         have c94b0 := decide_eq_true c94
         have c94b1 : decide (0 < a0_4.size) = true := decide_eq_true (by omega)
         clear c94
         by_cases c96 : (bt a0_4 0) = 47
         ·rw [if_pos c96] at H
          have c96b0 := beq_iff_eq.mpr c96
          have c96b1 := bne_eq_false_iff_eq.mpr c96
          clear c96
          obtain ⟨t296, A97, H⟩ := zO H
          by_cases c98 : t296 = true
          ·subst c98
           replace H := zI H rfl
           obtain ⟨t297, A99, H⟩ := zO H
           by_cases c100 : t297 = true
           ·subst c100
            replace H := zI H rfl
            obtain ⟨t298, A101, H⟩ := zO H
            by_cases c102 : t298 = true
            ·subst c102
             replace H := zI H rfl
             obtain ⟨t299, A103, H⟩ := zO H
             by_cases c104 : t299 = true
             ·subst c104
              replace H := zI H rfl
              by_cases c105 : a0_7 = 0
              ·rw [if_pos c105] at H
               have c105b0 := beq_iff_eq.mpr c105
               have c105b1 := bne_eq_false_iff_eq.mpr c105
               clear c105
               obtain rfl := Option.some.inj H
               go_enter Tryd.func21, Tryd.ntmps21
               try dsimp only [List.append]
               go_wp2_with (first | ((with_reducible refine gate_dst (N := 1) rfl ?_); refine zX (N := 1) (cs := #[.string a0_0, .string a0_1, .string a0_2, .bool true, .string a0_4, .int .i64 a0_5, .bool a0_6, .int .i64 a0_7, .int .i64 a0_8]) (t := 39) rfl rfl ?hr zB ?_; (case hr => first | (go_simp; done) | (go_simp; rfl)); clear HB; intro gb283 w106 HB BK283 GW283; have GE283 := GW283; obtain ⟨hcz107_0, hcz107_1, hcz107_2, hcz107_3, hcz107_4, hcz107_5, hcz107_6, hcz107_7, hcz107_8, hfz107_0, hfz107_1, hfz107_2, hfz107_3, hfz107_4, hfz107_5, hfz107_6, hfz107_7, hfz107_8⟩ := zc9 BK283) | ((with_reducible refine gate_callee (f := 34) rfl ?_); refine goesL_ (some 5) rfl rfl Tryd.func34 (by kernel_rfl) rfl #[.string a0_2] rfl zM ?_; (with_reducible refine (impl_plainName.calls k a0_2 false _ A2.out ?side1).mono ?_); (case side1 => exact GW.below HG.out zB); rintro e w108 ⟨rfl, hb⟩; refine ⟨_, rfl, ?_⟩; replace BK283 := zK BK283 hb; replace HB := zT hb; (try clear hb); obtain ⟨hcz109_0, hcz109_1, hcz109_2, hcz109_3, hcz109_4, hcz109_5, hcz109_6, hcz109_7, hcz109_8, hfz109_0, hfz109_1, hfz109_2, hfz109_3, hfz109_4, hfz109_5, hfz109_6, hfz109_7, hfz109_8⟩ := zc9 BK283) | (go_at_call 45; (with_reducible refine (impl_isFour.calls k a0_2 true _ A79.out ?side1).mono ?_); (case side1 => exact GW.below HG.out zB); rintro e w110 ⟨rfl, hb⟩; replace BK283 := zK BK283 hb; replace HB := zT hb; (try clear hb); obtain ⟨hcz111_0, hcz111_1, hcz111_2, hcz111_3, hcz111_4, hcz111_5, hcz111_6, hcz111_7, hcz111_8, hfz111_0, hfz111_1, hfz111_2, hfz111_3, hfz111_4, hfz111_5, hfz111_6, hfz111_7, hfz111_8⟩ := zc9 BK283) | (go_at_call 46; (with_reducible refine (impl_isToken.calls k a0_0 true _ A81.out).mono ?_); rintro e w' ⟨rfl, ⟨nd, rfl⟩⟩) | (go_at_call 46; (with_reducible refine (impl_isToken.calls k a0_1 true _ A90.out).mono ?_); rintro e w' ⟨rfl, ⟨nd, rfl⟩⟩) | (go_at_call 47; (with_reducible refine (impl_in.calls (a0_4.size : Int) 1 200 true _ A92.out).mono ?_); rintro e w' ⟨rfl, ⟨nd, rfl⟩⟩; have p95 : 0 ≤ (0 : Int) := (by omega); have q95 : 0 < a0_4.size := (by have : (0 : Int) < (a0_4.size : Int) := zD; omega); have hx95 : ∀ h : 0 < a0_4.size, ((a0_4[0]'h).toNat : Int) = bt a0_4 0 := bt_at a0_4 0; clear p95; have qi95 : (0 < (a0_4.size : Int)) = True := eq_true zD; replace q95 := eq_true q95) | (go_at_call 48; (with_reducible refine (impl_Cookie_prefixOk.calls a0_0 a0_1 a0_2 true a0_4 a0_5 a0_6 a0_7 a0_8 true _ A97.out).mono ?_); rintro e w112 ⟨rfl, hb⟩; replace BK283 := zK BK283 hb; replace HB := zT hb; (try clear hb); obtain ⟨hcz113_0, hcz113_1, hcz113_2, hcz113_3, hcz113_4, hcz113_5, hcz113_6, hcz113_7, hcz113_8, hfz113_0, hfz113_1, hfz113_2, hfz113_3, hfz113_4, hfz113_5, hfz113_6, hfz113_7, hfz113_8⟩ := zc9 BK283) | (go_at_call 47; (with_reducible refine (impl_in.calls a0_5 0 2000001 true _ A99.out).mono ?_); rintro e w' ⟨rfl, ⟨nd, rfl⟩⟩) | (go_at_call 47; (with_reducible refine (impl_in.calls a0_8 0 1000000 true _ A101.out).mono ?_); rintro e w' ⟨rfl, ⟨nd, rfl⟩⟩) | (go_at_call 47; (with_reducible refine (impl_in.calls a0_7 0 2 true _ A103.out).mono ?_); rintro e w' ⟨rfl, ⟨nd, rfl⟩⟩))
               go_ret
               exact ⟨zE, zB⟩
              ·rw [if_neg c105] at H
               have c105b0 := beq_eq_false_iff_ne.mpr c105
               have c105b1 := bne_iff_ne.mpr c105
               obtain rfl := Option.some.inj H
               go_enter Tryd.func21, Tryd.ntmps21
               try dsimp only [List.append]
               go_wp2_with (first | ((with_reducible refine gate_dst (N := 1) rfl ?_); refine zX (N := 1) (cs := #[.string a0_0, .string a0_1, .string a0_2, .bool true, .string a0_4, .int .i64 a0_5, .bool a0_6, .int .i64 a0_7, .int .i64 a0_8]) (t := 39) rfl rfl ?hr zB ?_; (case hr => first | (go_simp; done) | (go_simp; rfl)); clear HB; intro gb283 w114 HB BK283 GW283; have GE283 := GW283; obtain ⟨hcz115_0, hcz115_1, hcz115_2, hcz115_3, hcz115_4, hcz115_5, hcz115_6, hcz115_7, hcz115_8, hfz115_0, hfz115_1, hfz115_2, hfz115_3, hfz115_4, hfz115_5, hfz115_6, hfz115_7, hfz115_8⟩ := zc9 BK283) | ((with_reducible refine gate_callee (f := 34) rfl ?_); refine goesL_ (some 5) rfl rfl Tryd.func34 (by kernel_rfl) rfl #[.string a0_2] rfl zM ?_; (with_reducible refine (impl_plainName.calls k a0_2 false _ A2.out ?side1).mono ?_); (case side1 => exact GW.below HG.out zB); rintro e w116 ⟨rfl, hb⟩; refine ⟨_, rfl, ?_⟩; replace BK283 := zK BK283 hb; replace HB := zT hb; (try clear hb); obtain ⟨hcz117_0, hcz117_1, hcz117_2, hcz117_3, hcz117_4, hcz117_5, hcz117_6, hcz117_7, hcz117_8, hfz117_0, hfz117_1, hfz117_2, hfz117_3, hfz117_4, hfz117_5, hfz117_6, hfz117_7, hfz117_8⟩ := zc9 BK283) | (go_at_call 45; (with_reducible refine (impl_isFour.calls k a0_2 true _ A79.out ?side1).mono ?_); (case side1 => exact GW.below HG.out zB); rintro e w118 ⟨rfl, hb⟩; replace BK283 := zK BK283 hb; replace HB := zT hb; (try clear hb); obtain ⟨hcz119_0, hcz119_1, hcz119_2, hcz119_3, hcz119_4, hcz119_5, hcz119_6, hcz119_7, hcz119_8, hfz119_0, hfz119_1, hfz119_2, hfz119_3, hfz119_4, hfz119_5, hfz119_6, hfz119_7, hfz119_8⟩ := zc9 BK283) | (go_at_call 46; (with_reducible refine (impl_isToken.calls k a0_0 true _ A81.out).mono ?_); rintro e w' ⟨rfl, ⟨nd, rfl⟩⟩) | (go_at_call 46; (with_reducible refine (impl_isToken.calls k a0_1 true _ A90.out).mono ?_); rintro e w' ⟨rfl, ⟨nd, rfl⟩⟩) | (go_at_call 47; (with_reducible refine (impl_in.calls (a0_4.size : Int) 1 200 true _ A92.out).mono ?_); rintro e w' ⟨rfl, ⟨nd, rfl⟩⟩; have p95 : 0 ≤ (0 : Int) := (by omega); have q95 : 0 < a0_4.size := (by have : (0 : Int) < (a0_4.size : Int) := zD; omega); have hx95 : ∀ h : 0 < a0_4.size, ((a0_4[0]'h).toNat : Int) = bt a0_4 0 := bt_at a0_4 0; clear p95; have qi95 : (0 < (a0_4.size : Int)) = True := eq_true zD; replace q95 := eq_true q95) | (go_at_call 48; (with_reducible refine (impl_Cookie_prefixOk.calls a0_0 a0_1 a0_2 true a0_4 a0_5 a0_6 a0_7 a0_8 true _ A97.out).mono ?_); rintro e w120 ⟨rfl, hb⟩; replace BK283 := zK BK283 hb; replace HB := zT hb; (try clear hb); obtain ⟨hcz121_0, hcz121_1, hcz121_2, hcz121_3, hcz121_4, hcz121_5, hcz121_6, hcz121_7, hcz121_8, hfz121_0, hfz121_1, hfz121_2, hfz121_3, hfz121_4, hfz121_5, hfz121_6, hfz121_7, hfz121_8⟩ := zc9 BK283) | (go_at_call 47; (with_reducible refine (impl_in.calls a0_5 0 2000001 true _ A99.out).mono ?_); rintro e w' ⟨rfl, ⟨nd, rfl⟩⟩) | (go_at_call 47; (with_reducible refine (impl_in.calls a0_8 0 1000000 true _ A101.out).mono ?_); rintro e w' ⟨rfl, ⟨nd, rfl⟩⟩) | (go_at_call 47; (with_reducible refine (impl_in.calls a0_7 0 2 true _ A103.out).mono ?_); rintro e w' ⟨rfl, ⟨nd, rfl⟩⟩))
               go_ret
               exact ⟨zE, zB⟩
             ·replace c104 := Bool.eq_false_iff.mpr c104
              subst c104
              replace H := zJ H zF
              obtain rfl := Option.some.inj H
              go_enter Tryd.func21, Tryd.ntmps21
              try dsimp only [List.append]
              go_wp2_with (first | ((with_reducible refine gate_dst (N := 1) rfl ?_); refine zX (N := 1) (cs := #[.string a0_0, .string a0_1, .string a0_2, .bool true, .string a0_4, .int .i64 a0_5, .bool a0_6, .int .i64 a0_7, .int .i64 a0_8]) (t := 39) rfl rfl ?hr zB ?_; (case hr => first | (go_simp; done) | (go_simp; rfl)); clear HB; intro gb283 w122 HB BK283 GW283; have GE283 := GW283; obtain ⟨hcz123_0, hcz123_1, hcz123_2, hcz123_3, hcz123_4, hcz123_5, hcz123_6, hcz123_7, hcz123_8, hfz123_0, hfz123_1, hfz123_2, hfz123_3, hfz123_4, hfz123_5, hfz123_6, hfz123_7, hfz123_8⟩ := zc9 BK283) | ((with_reducible refine gate_callee (f := 34) rfl ?_); refine goesL_ (some 5) rfl rfl Tryd.func34 (by kernel_rfl) rfl #[.string a0_2] rfl zM ?_; (with_reducible refine (impl_plainName.calls k a0_2 false _ A2.out ?side1).mono ?_); (case side1 => exact GW.below HG.out zB); rintro e w124 ⟨rfl, hb⟩; refine ⟨_, rfl, ?_⟩; replace BK283 := zK BK283 hb; replace HB := zT hb; (try clear hb); obtain ⟨hcz125_0, hcz125_1, hcz125_2, hcz125_3, hcz125_4, hcz125_5, hcz125_6, hcz125_7, hcz125_8, hfz125_0, hfz125_1, hfz125_2, hfz125_3, hfz125_4, hfz125_5, hfz125_6, hfz125_7, hfz125_8⟩ := zc9 BK283) | (go_at_call 45; (with_reducible refine (impl_isFour.calls k a0_2 true _ A79.out ?side1).mono ?_); (case side1 => exact GW.below HG.out zB); rintro e w126 ⟨rfl, hb⟩; replace BK283 := zK BK283 hb; replace HB := zT hb; (try clear hb); obtain ⟨hcz127_0, hcz127_1, hcz127_2, hcz127_3, hcz127_4, hcz127_5, hcz127_6, hcz127_7, hcz127_8, hfz127_0, hfz127_1, hfz127_2, hfz127_3, hfz127_4, hfz127_5, hfz127_6, hfz127_7, hfz127_8⟩ := zc9 BK283) | (go_at_call 46; (with_reducible refine (impl_isToken.calls k a0_0 true _ A81.out).mono ?_); rintro e w' ⟨rfl, ⟨nd, rfl⟩⟩) | (go_at_call 46; (with_reducible refine (impl_isToken.calls k a0_1 true _ A90.out).mono ?_); rintro e w' ⟨rfl, ⟨nd, rfl⟩⟩) | (go_at_call 47; (with_reducible refine (impl_in.calls (a0_4.size : Int) 1 200 true _ A92.out).mono ?_); rintro e w' ⟨rfl, ⟨nd, rfl⟩⟩; have p95 : 0 ≤ (0 : Int) := (by omega); have q95 : 0 < a0_4.size := (by have : (0 : Int) < (a0_4.size : Int) := zD; omega); have hx95 : ∀ h : 0 < a0_4.size, ((a0_4[0]'h).toNat : Int) = bt a0_4 0 := bt_at a0_4 0; clear p95; have qi95 : (0 < (a0_4.size : Int)) = True := eq_true zD; replace q95 := eq_true q95) | (go_at_call 48; (with_reducible refine (impl_Cookie_prefixOk.calls a0_0 a0_1 a0_2 true a0_4 a0_5 a0_6 a0_7 a0_8 true _ A97.out).mono ?_); rintro e w128 ⟨rfl, hb⟩; replace BK283 := zK BK283 hb; replace HB := zT hb; (try clear hb); obtain ⟨hcz129_0, hcz129_1, hcz129_2, hcz129_3, hcz129_4, hcz129_5, hcz129_6, hcz129_7, hcz129_8, hfz129_0, hfz129_1, hfz129_2, hfz129_3, hfz129_4, hfz129_5, hfz129_6, hfz129_7, hfz129_8⟩ := zc9 BK283) | (go_at_call 47; (with_reducible refine (impl_in.calls a0_5 0 2000001 true _ A99.out).mono ?_); rintro e w' ⟨rfl, ⟨nd, rfl⟩⟩) | (go_at_call 47; (with_reducible refine (impl_in.calls a0_8 0 1000000 true _ A101.out).mono ?_); rintro e w' ⟨rfl, ⟨nd, rfl⟩⟩) | (go_at_call 47; (with_reducible refine (impl_in.calls a0_7 0 2 false _ A103.out).mono ?_); rintro e w' ⟨rfl, ⟨nd, rfl⟩⟩))
              go_ret
              exact ⟨zE, zB⟩
            ·replace c102 := Bool.eq_false_iff.mpr c102
             subst c102
             replace H := zJ H zF
             obtain rfl := Option.some.inj H
             go_enter Tryd.func21, Tryd.ntmps21
             try dsimp only [List.append]
             go_wp2_with (first | ((with_reducible refine gate_dst (N := 1) rfl ?_); refine zX (N := 1) (cs := #[.string a0_0, .string a0_1, .string a0_2, .bool true, .string a0_4, .int .i64 a0_5, .bool a0_6, .int .i64 a0_7, .int .i64 a0_8]) (t := 39) rfl rfl ?hr zB ?_; (case hr => first | (go_simp; done) | (go_simp; rfl)); clear HB; intro gb283 w130 HB BK283 GW283; have GE283 := GW283; obtain ⟨hcz131_0, hcz131_1, hcz131_2, hcz131_3, hcz131_4, hcz131_5, hcz131_6, hcz131_7, hcz131_8, hfz131_0, hfz131_1, hfz131_2, hfz131_3, hfz131_4, hfz131_5, hfz131_6, hfz131_7, hfz131_8⟩ := zc9 BK283) | ((with_reducible refine gate_callee (f := 34) rfl ?_); refine goesL_ (some 5) rfl rfl Tryd.func34 (by kernel_rfl) rfl #[.string a0_2] rfl zM ?_; (with_reducible refine (impl_plainName.calls k a0_2 false _ A2.out ?side1).mono ?_); (case side1 => exact GW.below HG.out zB); rintro e w132 ⟨rfl, hb⟩; refine ⟨_, rfl, ?_⟩; replace BK283 := zK BK283 hb; replace HB := zT hb; (try clear hb); obtain ⟨hcz133_0, hcz133_1, hcz133_2, hcz133_3, hcz133_4, hcz133_5, hcz133_6, hcz133_7, hcz133_8, hfz133_0, hfz133_1, hfz133_2, hfz133_3, hfz133_4, hfz133_5, hfz133_6, hfz133_7, hfz133_8⟩ := zc9 BK283) | (go_at_call 45; (with_reducible refine (impl_isFour.calls k a0_2 true _ A79.out ?side1).mono ?_); (case side1 => exact GW.below HG.out zB); rintro e w134 ⟨rfl, hb⟩; replace BK283 := zK BK283 hb; replace HB := zT hb; (try clear hb); obtain ⟨hcz135_0, hcz135_1, hcz135_2, hcz135_3, hcz135_4, hcz135_5, hcz135_6, hcz135_7, hcz135_8, hfz135_0, hfz135_1, hfz135_2, hfz135_3, hfz135_4, hfz135_5, hfz135_6, hfz135_7, hfz135_8⟩ := zc9 BK283) | (go_at_call 46; (with_reducible refine (impl_isToken.calls k a0_0 true _ A81.out).mono ?_); rintro e w' ⟨rfl, ⟨nd, rfl⟩⟩) | (go_at_call 46; (with_reducible refine (impl_isToken.calls k a0_1 true _ A90.out).mono ?_); rintro e w' ⟨rfl, ⟨nd, rfl⟩⟩) | (go_at_call 47; (with_reducible refine (impl_in.calls (a0_4.size : Int) 1 200 true _ A92.out).mono ?_); rintro e w' ⟨rfl, ⟨nd, rfl⟩⟩; have p95 : 0 ≤ (0 : Int) := (by omega); have q95 : 0 < a0_4.size := (by have : (0 : Int) < (a0_4.size : Int) := zD; omega); have hx95 : ∀ h : 0 < a0_4.size, ((a0_4[0]'h).toNat : Int) = bt a0_4 0 := bt_at a0_4 0; clear p95; have qi95 : (0 < (a0_4.size : Int)) = True := eq_true zD; replace q95 := eq_true q95) | (go_at_call 48; (with_reducible refine (impl_Cookie_prefixOk.calls a0_0 a0_1 a0_2 true a0_4 a0_5 a0_6 a0_7 a0_8 true _ A97.out).mono ?_); rintro e w136 ⟨rfl, hb⟩; replace BK283 := zK BK283 hb; replace HB := zT hb; (try clear hb); obtain ⟨hcz137_0, hcz137_1, hcz137_2, hcz137_3, hcz137_4, hcz137_5, hcz137_6, hcz137_7, hcz137_8, hfz137_0, hfz137_1, hfz137_2, hfz137_3, hfz137_4, hfz137_5, hfz137_6, hfz137_7, hfz137_8⟩ := zc9 BK283) | (go_at_call 47; (with_reducible refine (impl_in.calls a0_5 0 2000001 true _ A99.out).mono ?_); rintro e w' ⟨rfl, ⟨nd, rfl⟩⟩) | (go_at_call 47; (with_reducible refine (impl_in.calls a0_8 0 1000000 false _ A101.out).mono ?_); rintro e w' ⟨rfl, ⟨nd, rfl⟩⟩))
             go_ret
             exact ⟨zE, zB⟩
           ·replace c100 := Bool.eq_false_iff.mpr c100
            subst c100
            replace H := zJ H zF
            obtain rfl := Option.some.inj H
            go_enter Tryd.func21, Tryd.ntmps21
            try dsimp only [List.append]
            go_wp2_with (first | ((with_reducible refine gate_dst (N := 1) rfl ?_); refine zX (N := 1) (cs := #[.string a0_0, .string a0_1, .string a0_2, .bool true, .string a0_4, .int .i64 a0_5, .bool a0_6, .int .i64 a0_7, .int .i64 a0_8]) (t := 39) rfl rfl ?hr zB ?_; (case hr => first | (go_simp; done) | (go_simp; rfl)); clear HB; intro gb283 w138 HB BK283 GW283; have GE283 := GW283; obtain ⟨hcz139_0, hcz139_1, hcz139_2, hcz139_3, hcz139_4, hcz139_5, hcz139_6, hcz139_7, hcz139_8, hfz139_0, hfz139_1, hfz139_2, hfz139_3, hfz139_4, hfz139_5, hfz139_6, hfz139_7, hfz139_8⟩ := zc9 BK283) | ((with_reducible refine gate_callee (f := 34) rfl ?_); refine goesL_ (some 5) rfl rfl Tryd.func34 (by kernel_rfl) rfl #[.string a0_2] rfl zM ?_; (with_reducible refine (impl_plainName.calls k a0_2 false _ A2.out ?side1).mono ?_); (case side1 => exact GW.below HG.out zB); rintro e w140 ⟨rfl, hb⟩; refine ⟨_, rfl, ?_⟩; replace BK283 := zK BK283 hb; replace HB := zT hb; (try clear hb); obtain ⟨hcz141_0, hcz141_1, hcz141_2, hcz141_3, hcz141_4, hcz141_5, hcz141_6, hcz141_7, hcz141_8, hfz141_0, hfz141_1, hfz141_2, hfz141_3, hfz141_4, hfz141_5, hfz141_6, hfz141_7, hfz141_8⟩ := zc9 BK283) | (go_at_call 45; (with_reducible refine (impl_isFour.calls k a0_2 true _ A79.out ?side1).mono ?_); (case side1 => exact GW.below HG.out zB); rintro e w142 ⟨rfl, hb⟩; replace BK283 := zK BK283 hb; replace HB := zT hb; (try clear hb); obtain ⟨hcz143_0, hcz143_1, hcz143_2, hcz143_3, hcz143_4, hcz143_5, hcz143_6, hcz143_7, hcz143_8, hfz143_0, hfz143_1, hfz143_2, hfz143_3, hfz143_4, hfz143_5, hfz143_6, hfz143_7, hfz143_8⟩ := zc9 BK283) | (go_at_call 46; (with_reducible refine (impl_isToken.calls k a0_0 true _ A81.out).mono ?_); rintro e w' ⟨rfl, ⟨nd, rfl⟩⟩) | (go_at_call 46; (with_reducible refine (impl_isToken.calls k a0_1 true _ A90.out).mono ?_); rintro e w' ⟨rfl, ⟨nd, rfl⟩⟩) | (go_at_call 47; (with_reducible refine (impl_in.calls (a0_4.size : Int) 1 200 true _ A92.out).mono ?_); rintro e w' ⟨rfl, ⟨nd, rfl⟩⟩; have p95 : 0 ≤ (0 : Int) := (by omega); have q95 : 0 < a0_4.size := (by have : (0 : Int) < (a0_4.size : Int) := zD; omega); have hx95 : ∀ h : 0 < a0_4.size, ((a0_4[0]'h).toNat : Int) = bt a0_4 0 := bt_at a0_4 0; clear p95; have qi95 : (0 < (a0_4.size : Int)) = True := eq_true zD; replace q95 := eq_true q95) | (go_at_call 48; (with_reducible refine (impl_Cookie_prefixOk.calls a0_0 a0_1 a0_2 true a0_4 a0_5 a0_6 a0_7 a0_8 true _ A97.out).mono ?_); rintro e w144 ⟨rfl, hb⟩; replace BK283 := zK BK283 hb; replace HB := zT hb; (try clear hb); obtain ⟨hcz145_0, hcz145_1, hcz145_2, hcz145_3, hcz145_4, hcz145_5, hcz145_6, hcz145_7, hcz145_8, hfz145_0, hfz145_1, hfz145_2, hfz145_3, hfz145_4, hfz145_5, hfz145_6, hfz145_7, hfz145_8⟩ := zc9 BK283) | (go_at_call 47; (with_reducible refine (impl_in.calls a0_5 0 2000001 false _ A99.out).mono ?_); rintro e w' ⟨rfl, ⟨nd, rfl⟩⟩))
            go_ret
            exact ⟨zE, zB⟩
          ·replace c98 := Bool.eq_false_iff.mpr c98
           subst c98
           replace H := zJ H zF
           obtain rfl := Option.some.inj H
           go_enter Tryd.func21, Tryd.ntmps21
           try dsimp only [List.append]
           go_wp2_with (first | ((with_reducible refine gate_dst (N := 1) rfl ?_); refine zX (N := 1) (cs := #[.string a0_0, .string a0_1, .string a0_2, .bool true, .string a0_4, .int .i64 a0_5, .bool a0_6, .int .i64 a0_7, .int .i64 a0_8]) (t := 39) rfl rfl ?hr zB ?_; (case hr => first | (go_simp; done) | (go_simp; rfl)); clear HB; intro gb283 w146 HB BK283 GW283; have GE283 := GW283; obtain ⟨hcz147_0, hcz147_1, hcz147_2, hcz147_3, hcz147_4, hcz147_5, hcz147_6, hcz147_7, hcz147_8, hfz147_0, hfz147_1, hfz147_2, hfz147_3, hfz147_4, hfz147_5, hfz147_6, hfz147_7, hfz147_8⟩ := zc9 BK283) | ((with_reducible refine gate_callee (f := 34) rfl ?_); refine goesL_ (some 5) rfl rfl Tryd.func34 (by kernel_rfl) rfl #[.string a0_2] rfl zM ?_; (with_reducible refine (impl_plainName.calls k a0_2 false _ A2.out ?side1).mono ?_); (case side1 => exact GW.below HG.out zB); rintro e w148 ⟨rfl, hb⟩; refine ⟨_, rfl, ?_⟩; replace BK283 := zK BK283 hb; replace HB := zT hb; (try clear hb); obtain ⟨hcz149_0, hcz149_1, hcz149_2, hcz149_3, hcz149_4, hcz149_5, hcz149_6, hcz149_7, hcz149_8, hfz149_0, hfz149_1, hfz149_2, hfz149_3, hfz149_4, hfz149_5, hfz149_6, hfz149_7, hfz149_8⟩ := zc9 BK283) | (go_at_call 45; (with_reducible refine (impl_isFour.calls k a0_2 true _ A79.out ?side1).mono ?_); (case side1 => exact GW.below HG.out zB); rintro e w150 ⟨rfl, hb⟩; replace BK283 := zK BK283 hb; replace HB := zT hb; (try clear hb); obtain ⟨hcz151_0, hcz151_1, hcz151_2, hcz151_3, hcz151_4, hcz151_5, hcz151_6, hcz151_7, hcz151_8, hfz151_0, hfz151_1, hfz151_2, hfz151_3, hfz151_4, hfz151_5, hfz151_6, hfz151_7, hfz151_8⟩ := zc9 BK283) | (go_at_call 46; (with_reducible refine (impl_isToken.calls k a0_0 true _ A81.out).mono ?_); rintro e w' ⟨rfl, ⟨nd, rfl⟩⟩) | (go_at_call 46; (with_reducible refine (impl_isToken.calls k a0_1 true _ A90.out).mono ?_); rintro e w' ⟨rfl, ⟨nd, rfl⟩⟩) | (go_at_call 47; (with_reducible refine (impl_in.calls (a0_4.size : Int) 1 200 true _ A92.out).mono ?_); rintro e w' ⟨rfl, ⟨nd, rfl⟩⟩; have p95 : 0 ≤ (0 : Int) := (by omega); have q95 : 0 < a0_4.size := (by have : (0 : Int) < (a0_4.size : Int) := zD; omega); have hx95 : ∀ h : 0 < a0_4.size, ((a0_4[0]'h).toNat : Int) = bt a0_4 0 := bt_at a0_4 0; clear p95; have qi95 : (0 < (a0_4.size : Int)) = True := eq_true zD; replace q95 := eq_true q95) | (go_at_call 48; (with_reducible refine (impl_Cookie_prefixOk.calls a0_0 a0_1 a0_2 true a0_4 a0_5 a0_6 a0_7 a0_8 false _ A97.out).mono ?_); rintro e w152 ⟨rfl, hb⟩; replace BK283 := zK BK283 hb; replace HB := zT hb; (try clear hb)))
           go_ret
           exact ⟨zE, zB⟩
         ·rw [if_neg c96] at H
          have c96b0 := beq_eq_false_iff_ne.mpr c96
          have c96b1 := bne_iff_ne.mpr c96
          obtain rfl := Option.some.inj H
          go_enter Tryd.func21, Tryd.ntmps21
          try dsimp only [List.append]
          go_wp2_with (first | ((with_reducible refine gate_dst (N := 1) rfl ?_); refine zX (N := 1) (cs := #[.string a0_0, .string a0_1, .string a0_2, .bool true, .string a0_4, .int .i64 a0_5, .bool a0_6, .int .i64 a0_7, .int .i64 a0_8]) (t := 39) rfl rfl ?hr zB ?_; (case hr => first | (go_simp; done) | (go_simp; rfl)); clear HB; intro gb283 w153 HB BK283 GW283; have GE283 := GW283; obtain ⟨hcz154_0, hcz154_1, hcz154_2, hcz154_3, hcz154_4, hcz154_5, hcz154_6, hcz154_7, hcz154_8, hfz154_0, hfz154_1, hfz154_2, hfz154_3, hfz154_4, hfz154_5, hfz154_6, hfz154_7, hfz154_8⟩ := zc9 BK283) | ((with_reducible refine gate_callee (f := 34) rfl ?_); refine goesL_ (some 5) rfl rfl Tryd.func34 (by kernel_rfl) rfl #[.string a0_2] rfl zM ?_; (with_reducible refine (impl_plainName.calls k a0_2 false _ A2.out ?side1).mono ?_); (case side1 => exact GW.below HG.out zB); rintro e w155 ⟨rfl, hb⟩; refine ⟨_, rfl, ?_⟩; replace BK283 := zK BK283 hb; replace HB := zT hb; (try clear hb); obtain ⟨hcz156_0, hcz156_1, hcz156_2, hcz156_3, hcz156_4, hcz156_5, hcz156_6, hcz156_7, hcz156_8, hfz156_0, hfz156_1, hfz156_2, hfz156_3, hfz156_4, hfz156_5, hfz156_6, hfz156_7, hfz156_8⟩ := zc9 BK283) | (go_at_call 45; (with_reducible refine (impl_isFour.calls k a0_2 true _ A79.out ?side1).mono ?_); (case side1 => exact GW.below HG.out zB); rintro e w157 ⟨rfl, hb⟩; replace BK283 := zK BK283 hb; replace HB := zT hb; (try clear hb); obtain ⟨hcz158_0, hcz158_1, hcz158_2, hcz158_3, hcz158_4, hcz158_5, hcz158_6, hcz158_7, hcz158_8, hfz158_0, hfz158_1, hfz158_2, hfz158_3, hfz158_4, hfz158_5, hfz158_6, hfz158_7, hfz158_8⟩ := zc9 BK283) | (go_at_call 46; (with_reducible refine (impl_isToken.calls k a0_0 true _ A81.out).mono ?_); rintro e w' ⟨rfl, ⟨nd, rfl⟩⟩) | (go_at_call 46; (with_reducible refine (impl_isToken.calls k a0_1 true _ A90.out).mono ?_); rintro e w' ⟨rfl, ⟨nd, rfl⟩⟩) | (go_at_call 47; (with_reducible refine (impl_in.calls (a0_4.size : Int) 1 200 true _ A92.out).mono ?_); rintro e w' ⟨rfl, ⟨nd, rfl⟩⟩; have p95 : 0 ≤ (0 : Int) := (by omega); have q95 : 0 < a0_4.size := (by have : (0 : Int) < (a0_4.size : Int) := zD; omega); have hx95 : ∀ h : 0 < a0_4.size, ((a0_4[0]'h).toNat : Int) = bt a0_4 0 := bt_at a0_4 0; clear p95; have qi95 : (0 < (a0_4.size : Int)) = True := eq_true zD; replace q95 := eq_true q95))
          go_ret
          exact ⟨zE, zB⟩
        ·rw [if_neg c94] at H
         exact absurd H (by simp)
       ·replace c93 := Bool.eq_false_iff.mpr c93
        subst c93
        replace H := zJ H zF
        obtain rfl := Option.some.inj H
        go_enter Tryd.func21, Tryd.ntmps21
        try dsimp only [List.append]
        go_wp2_with (first | ((with_reducible refine gate_dst (N := 1) rfl ?_); refine zX (N := 1) (cs := #[.string a0_0, .string a0_1, .string a0_2, .bool true, .string a0_4, .int .i64 a0_5, .bool a0_6, .int .i64 a0_7, .int .i64 a0_8]) (t := 39) rfl rfl ?hr zB ?_; (case hr => first | (go_simp; done) | (go_simp; rfl)); clear HB; intro gb283 w159 HB BK283 GW283; have GE283 := GW283; obtain ⟨hcz160_0, hcz160_1, hcz160_2, hcz160_3, hcz160_4, hcz160_5, hcz160_6, hcz160_7, hcz160_8, hfz160_0, hfz160_1, hfz160_2, hfz160_3, hfz160_4, hfz160_5, hfz160_6, hfz160_7, hfz160_8⟩ := zc9 BK283) | ((with_reducible refine gate_callee (f := 34) rfl ?_); refine goesL_ (some 5) rfl rfl Tryd.func34 (by kernel_rfl) rfl #[.string a0_2] rfl zM ?_; (with_reducible refine (impl_plainName.calls k a0_2 false _ A2.out ?side1).mono ?_); (case side1 => exact GW.below HG.out zB); rintro e w161 ⟨rfl, hb⟩; refine ⟨_, rfl, ?_⟩; replace BK283 := zK BK283 hb; replace HB := zT hb; (try clear hb); obtain ⟨hcz162_0, hcz162_1, hcz162_2, hcz162_3, hcz162_4, hcz162_5, hcz162_6, hcz162_7, hcz162_8, hfz162_0, hfz162_1, hfz162_2, hfz162_3, hfz162_4, hfz162_5, hfz162_6, hfz162_7, hfz162_8⟩ := zc9 BK283) | (go_at_call 45; (with_reducible refine (impl_isFour.calls k a0_2 true _ A79.out ?side1).mono ?_); (case side1 => exact GW.below HG.out zB); rintro e w163 ⟨rfl, hb⟩; replace BK283 := zK BK283 hb; replace HB := zT hb; (try clear hb); obtain ⟨hcz164_0, hcz164_1, hcz164_2, hcz164_3, hcz164_4, hcz164_5, hcz164_6, hcz164_7, hcz164_8, hfz164_0, hfz164_1, hfz164_2, hfz164_3, hfz164_4, hfz164_5, hfz164_6, hfz164_7, hfz164_8⟩ := zc9 BK283) | (go_at_call 46; (with_reducible refine (impl_isToken.calls k a0_0 true _ A81.out).mono ?_); rintro e w' ⟨rfl, ⟨nd, rfl⟩⟩) | (go_at_call 46; (with_reducible refine (impl_isToken.calls k a0_1 true _ A90.out).mono ?_); rintro e w' ⟨rfl, ⟨nd, rfl⟩⟩) | (go_at_call 47; (with_reducible refine (impl_in.calls (a0_4.size : Int) 1 200 false _ A92.out).mono ?_); rintro e w' ⟨rfl, ⟨nd, rfl⟩⟩))
        go_ret
        exact ⟨zE, zB⟩
      ·replace c91 := Bool.eq_false_iff.mpr c91
       subst c91
       replace H := zJ H zF
       obtain rfl := Option.some.inj H
       go_enter Tryd.func21, Tryd.ntmps21
       try dsimp only [List.append]
       go_wp2_with (first | ((with_reducible refine gate_dst (N := 1) rfl ?_); refine zX (N := 1) (cs := #[.string a0_0, .string a0_1, .string a0_2, .bool true, .string a0_4, .int .i64 a0_5, .bool a0_6, .int .i64 a0_7, .int .i64 a0_8]) (t := 39) rfl rfl ?hr zB ?_; (case hr => first | (go_simp; done) | (go_simp; rfl)); clear HB; intro gb283 w165 HB BK283 GW283; have GE283 := GW283; obtain ⟨hcz166_0, hcz166_1, hcz166_2, hcz166_3, hcz166_4, hcz166_5, hcz166_6, hcz166_7, hcz166_8, hfz166_0, hfz166_1, hfz166_2, hfz166_3, hfz166_4, hfz166_5, hfz166_6, hfz166_7, hfz166_8⟩ := zc9 BK283) | ((with_reducible refine gate_callee (f := 34) rfl ?_); refine goesL_ (some 5) rfl rfl Tryd.func34 (by kernel_rfl) rfl #[.string a0_2] rfl zM ?_; (with_reducible refine (impl_plainName.calls k a0_2 false _ A2.out ?side1).mono ?_); (case side1 => exact GW.below HG.out zB); rintro e w167 ⟨rfl, hb⟩; refine ⟨_, rfl, ?_⟩; replace BK283 := zK BK283 hb; replace HB := zT hb; (try clear hb); obtain ⟨hcz168_0, hcz168_1, hcz168_2, hcz168_3, hcz168_4, hcz168_5, hcz168_6, hcz168_7, hcz168_8, hfz168_0, hfz168_1, hfz168_2, hfz168_3, hfz168_4, hfz168_5, hfz168_6, hfz168_7, hfz168_8⟩ := zc9 BK283) | (go_at_call 45; (with_reducible refine (impl_isFour.calls k a0_2 true _ A79.out ?side1).mono ?_); (case side1 => exact GW.below HG.out zB); rintro e w169 ⟨rfl, hb⟩; replace BK283 := zK BK283 hb; replace HB := zT hb; (try clear hb); obtain ⟨hcz170_0, hcz170_1, hcz170_2, hcz170_3, hcz170_4, hcz170_5, hcz170_6, hcz170_7, hcz170_8, hfz170_0, hfz170_1, hfz170_2, hfz170_3, hfz170_4, hfz170_5, hfz170_6, hfz170_7, hfz170_8⟩ := zc9 BK283) | (go_at_call 46; (with_reducible refine (impl_isToken.calls k a0_0 true _ A81.out).mono ?_); rintro e w' ⟨rfl, ⟨nd, rfl⟩⟩) | (go_at_call 46; (with_reducible refine (impl_isToken.calls k a0_1 false _ A90.out).mono ?_); rintro e w' ⟨rfl, ⟨nd, rfl⟩⟩))
       go_ret
       exact ⟨zE, zB⟩
    ·replace c82 := Bool.eq_false_iff.mpr c82
     subst c82
     replace H := zJ H zF
     obtain rfl := Option.some.inj H
     go_enter Tryd.func21, Tryd.ntmps21
     try dsimp only [List.append]
     go_wp2_with (first | ((with_reducible refine gate_dst (N := 1) rfl ?_); refine zX (N := 1) (cs := #[.string a0_0, .string a0_1, .string a0_2, .bool true, .string a0_4, .int .i64 a0_5, .bool a0_6, .int .i64 a0_7, .int .i64 a0_8]) (t := 39) rfl rfl ?hr zB ?_; (case hr => first | (go_simp; done) | (go_simp; rfl)); clear HB; intro gb283 w171 HB BK283 GW283; have GE283 := GW283; obtain ⟨hcz172_0, hcz172_1, hcz172_2, hcz172_3, hcz172_4, hcz172_5, hcz172_6, hcz172_7, hcz172_8, hfz172_0, hfz172_1, hfz172_2, hfz172_3, hfz172_4, hfz172_5, hfz172_6, hfz172_7, hfz172_8⟩ := zc9 BK283) | ((with_reducible refine gate_callee (f := 34) rfl ?_); refine goesL_ (some 5) rfl rfl Tryd.func34 (by kernel_rfl) rfl #[.string a0_2] rfl zM ?_; (with_reducible refine (impl_plainName.calls k a0_2 false _ A2.out ?side1).mono ?_); (case side1 => exact GW.below HG.out zB); rintro e w173 ⟨rfl, hb⟩; refine ⟨_, rfl, ?_⟩; replace BK283 := zK BK283 hb; replace HB := zT hb; (try clear hb); obtain ⟨hcz174_0, hcz174_1, hcz174_2, hcz174_3, hcz174_4, hcz174_5, hcz174_6, hcz174_7, hcz174_8, hfz174_0, hfz174_1, hfz174_2, hfz174_3, hfz174_4, hfz174_5, hfz174_6, hfz174_7, hfz174_8⟩ := zc9 BK283) | (go_at_call 45; (with_reducible refine (impl_isFour.calls k a0_2 true _ A79.out ?side1).mono ?_); (case side1 => exact GW.below HG.out zB); rintro e w175 ⟨rfl, hb⟩; replace BK283 := zK BK283 hb; replace HB := zT hb; (try clear hb); obtain ⟨hcz176_0, hcz176_1, hcz176_2, hcz176_3, hcz176_4, hcz176_5, hcz176_6, hcz176_7, hcz176_8, hfz176_0, hfz176_1, hfz176_2, hfz176_3, hfz176_4, hfz176_5, hfz176_6, hfz176_7, hfz176_8⟩ := zc9 BK283) | (go_at_call 46; (with_reducible refine (impl_isToken.calls k a0_0 false _ A81.out).mono ?_); rintro e w' ⟨rfl, ⟨nd, rfl⟩⟩))
     go_ret
     exact ⟨zE, zB⟩
   ·replace c80 := Bool.eq_false_iff.mpr c80
    subst c80
    replace H := zJ H zF
    obtain rfl := Option.some.inj H
    go_enter Tryd.func21, Tryd.ntmps21
    try dsimp only [List.append]
    go_wp2_with (first | ((with_reducible refine gate_dst (N := 1) rfl ?_); refine zX (N := 1) (cs := #[.string a0_0, .string a0_1, .string a0_2, .bool true, .string a0_4, .int .i64 a0_5, .bool a0_6, .int .i64 a0_7, .int .i64 a0_8]) (t := 39) rfl rfl ?hr zB ?_; (case hr => first | (go_simp; done) | (go_simp; rfl)); clear HB; intro gb283 w177 HB BK283 GW283; have GE283 := GW283; obtain ⟨hcz178_0, hcz178_1, hcz178_2, hcz178_3, hcz178_4, hcz178_5, hcz178_6, hcz178_7, hcz178_8, hfz178_0, hfz178_1, hfz178_2, hfz178_3, hfz178_4, hfz178_5, hfz178_6, hfz178_7, hfz178_8⟩ := zc9 BK283) | ((with_reducible refine gate_callee (f := 34) rfl ?_); refine goesL_ (some 5) rfl rfl Tryd.func34 (by kernel_rfl) rfl #[.string a0_2] rfl zM ?_; (with_reducible refine (impl_plainName.calls k a0_2 false _ A2.out ?side1).mono ?_); (case side1 => exact GW.below HG.out zB); rintro e w179 ⟨rfl, hb⟩; refine ⟨_, rfl, ?_⟩; replace BK283 := zK BK283 hb; replace HB := zT hb; (try clear hb); obtain ⟨hcz180_0, hcz180_1, hcz180_2, hcz180_3, hcz180_4, hcz180_5, hcz180_6, hcz180_7, hcz180_8, hfz180_0, hfz180_1, hfz180_2, hfz180_3, hfz180_4, hfz180_5, hfz180_6, hfz180_7, hfz180_8⟩ := zc9 BK283) | (go_at_call 45; (with_reducible refine (impl_isFour.calls k a0_2 false _ A79.out ?side1).mono ?_); (case side1 => exact GW.below HG.out zB); rintro e w181 ⟨rfl, hb⟩; replace BK283 := zK BK283 hb; replace HB := zT hb; (try clear hb)))
    go_ret
    exact ⟨zE, zB⟩
  ·replace c78 := Bool.eq_false_iff.mpr c78
   subst c78
   replace H := zJ H zF
   obtain rfl := Option.some.inj H
   go_enter Tryd.func21, Tryd.ntmps21
   try dsimp only [List.append]
   go_wp2_with (first | ((with_reducible refine gate_dst (N := 1) rfl ?_); refine zX (N := 1) (cs := #[.string a0_0, .string a0_1, .string a0_2, .bool false, .string a0_4, .int .i64 a0_5, .bool a0_6, .int .i64 a0_7, .int .i64 a0_8]) (t := 39) rfl rfl ?hr zB ?_; (case hr => first | (go_simp; done) | (go_simp; rfl)); clear HB; intro gb283 w182 HB BK283 GW283; have GE283 := GW283; obtain ⟨hcz183_0, hcz183_1, hcz183_2, hcz183_3, hcz183_4, hcz183_5, hcz183_6, hcz183_7, hcz183_8, hfz183_0, hfz183_1, hfz183_2, hfz183_3, hfz183_4, hfz183_5, hfz183_6, hfz183_7, hfz183_8⟩ := zc9 BK283) | ((with_reducible refine gate_callee (f := 34) rfl ?_); refine goesL_ (some 5) rfl rfl Tryd.func34 (by kernel_rfl) rfl #[.string a0_2] rfl zM ?_; (with_reducible refine (impl_plainName.calls k a0_2 false _ A2.out ?side1).mono ?_); (case side1 => exact GW.below HG.out zB); rintro e w184 ⟨rfl, hb⟩; refine ⟨_, rfl, ?_⟩; replace BK283 := zK BK283 hb; replace HB := zT hb; (try clear hb); obtain ⟨hcz185_0, hcz185_1, hcz185_2, hcz185_3, hcz185_4, hcz185_5, hcz185_6, hcz185_7, hcz185_8, hfz185_0, hfz185_1, hfz185_2, hfz185_3, hfz185_4, hfz185_5, hfz185_6, hfz185_7, hfz185_8⟩ := zc9 BK283))
   go_ret
   exact ⟨zE, zB⟩

/-! ### impl_Cookie_twin: function 51 -/
def impl_Cookie_twin.f (a0_0 : ByteArray) (a0_1 : ByteArray) (a0_2 : ByteArray) (a0_3 : Bool) (a0_4 : ByteArray) (a0_5 : Int) (a0_6 : Bool) (a0_7 : Int) (a0_8 : Int) (a1_0 : ByteArray) (a1_1 : ByteArray) (a1_2 : ByteArray) (a1_3 : Bool) (a1_4 : ByteArray) (a1_5 : Int) (a1_6 : Bool) (a1_7 : Int) (a1_8 : Int) : Option (Bool) := if a0_0.toList = a1_0.toList then (if a0_2.toList = a1_2.toList then (if (a0_3 == a1_3) = true then (some (a0_4.toList == a1_4.toList)) else (some false)) else (some false)) else (some false)
set_option maxHeartbeats 8000000 in
set_option maxRecDepth 100000 in
theorem impl_Cookie_twin.calls (a0_0 : ByteArray) (a0_1 : ByteArray) (a0_2 : ByteArray) (a0_3 : Bool) (a0_4 : ByteArray) (a0_5 : Int) (a0_6 : Bool) (a0_7 : Int) (a0_8 : Int) (a1_0 : ByteArray) (a1_1 : ByteArray) (a1_2 : ByteArray) (a1_3 : Bool) (a1_4 : ByteArray) (a1_5 : Int) (a1_6 : Bool) (a1_7 : Int) (a1_8 : Int) (r : Bool) (w : World) (h : impl_Cookie_twin.f a0_0 a0_1 a0_2 a0_3 a0_4 a0_5 a0_6 a0_7 a0_8 a1_0 a1_1 a1_2 a1_3 a1_4 a1_5 a1_6 a1_7 a1_8 = some r) :
  Calls Tryd.prog 51 #[.agg #[.string a0_0, .string a0_1, .string a0_2, .bool a0_3, .string a0_4, .int .i64 a0_5, .bool a0_6, .int .i64 a0_7, .int .i64 a0_8], .agg #[.string a1_0, .string a1_1, .string a1_2, .bool a1_3, .string a1_4, .int .i64 a1_5, .bool a1_6, .int .i64 a1_7, .int .i64 a1_8]] w fun e w' => e = .returned (.bool r) ∧ Below w.heap.size w w' := by
 have hu39 := Tryd.underlying39
 have HB := Aside0.mk (Below.refl w.heap.size w)
 have H : (if a0_0.toList = a1_0.toList then (if a0_2.toList = a1_2.toList then (if (a0_3 == a1_3) = true then (some (a0_4.toList == a1_4.toList)) else (some false)) else (some false)) else (some false)) = some r := h
 clear h
 by_cases c3 : a0_0.toList = a1_0.toList
 ·rw [if_pos c3] at H
  have c3b0 := beq_iff_eq.mpr c3
  have c3b1 := bne_eq_false_iff_eq.mpr c3
  clear c3
  by_cases c4 : a0_2.toList = a1_2.toList
  ·rw [if_pos c4] at H
   have c4b0 := beq_iff_eq.mpr c4
   have c4b1 := bne_eq_false_iff_eq.mpr c4
   clear c4
   by_cases c5 : (a0_3 == a1_3) = true
   ·rw [if_pos c5] at H
    have c5b0 : (a0_3 == a1_3) = true := c5
    (try (have c5b1 : decide (a0_3 = a1_3) = true := by simpa using c5))
    (try (have c5b2 : (a0_3 == a1_3) = true := by simpa using c5))
    clear c5
    obtain rfl := Option.some.inj H
    go_enter Tryd.func51, Tryd.ntmps51
    go_wp2_with (first | ((with_reducible refine gate_dst (N := 2) rfl ?_); refine zX (N := 2) (cs := #[.string a0_0, .string a0_1, .string a0_2, .bool a0_3, .string a0_4, .int .i64 a0_5, .bool a0_6, .int .i64 a0_7, .int .i64 a0_8]) (t := 39) rfl rfl ?hr zB ?_; (case hr => first | (go_simp; done) | (go_simp; rfl)); clear HB; intro gb300 w6 HB BK300 GW300; have GE300 := GW300) | ((with_reducible refine gate_dst (N := 3) rfl ?_); refine zY (N := 3) (cs := #[.string a1_0, .string a1_1, .string a1_2, .bool a1_3, .string a1_4, .int .i64 a1_5, .bool a1_6, .int .i64 a1_7, .int .i64 a1_8]) (t := 39) rfl rfl ?hr ?_; (case hr => first | (go_simp; done) | (go_simp; rfl)); intro gb301 hg w7 hbox hb; have BK301 := Aside0.mk (hbox); have GW301 := zG hg; have GE301 := zG hg; replace HB := zT hb; have NB300_301 := zH BK300 hg; have NB301_300 := Aside0.mk ((by rw [hg]; exact Nat.ne_of_gt (blk_lt (g := gb300) (o := .cells #[.string a0_0, .string a0_1, .string a0_2, .bool a0_3, .string a0_4, .int .i64 a0_5, .bool a0_6, .int .i64 a0_7, .int .i64 a0_8] 39 (0, 0)) (by (with_reducible repeat (first | refine blk_drewN ?_ _ | refine blk_drew ?_ | refine blk_alloc ?_ _)); exact BK300.out)) : gb301 ≠ gb300)); replace BK300 := zK BK300 hb; clear hb hbox hg; have hnb8 := NB300_301.out; have hnc8 := NB301_300.out; obtain ⟨hcz9_0, hcz9_1, hcz9_2, hcz9_3, hcz9_4, hcz9_5, hcz9_6, hcz9_7, hcz9_8, hfz9_0, hfz9_1, hfz9_2, hfz9_3, hfz9_4, hfz9_5, hfz9_6, hfz9_7, hfz9_8⟩ := zc9 BK300; obtain ⟨hcz10_0, hcz10_1, hcz10_2, hcz10_3, hcz10_4, hcz10_5, hcz10_6, hcz10_7, hcz10_8, hfz10_0, hfz10_1, hfz10_2, hfz10_3, hfz10_4, hfz10_5, hfz10_6, hfz10_7, hfz10_8⟩ := zc9 BK301))
    go_ret
    exact ⟨zE, zB⟩
   ·rw [if_neg c5] at H
    have c5b0 : (a0_3 == a1_3) = false := by simpa using c5
    (try (have c5b1 : decide (a0_3 = a1_3) = false := by simpa using c5))
    (try (have c5b2 : (a0_3 == a1_3) = false := by simpa using c5))
    (try (have c5b3 : ¬ (a0_3 = a1_3) := by simpa using c5))
    clear c5
    obtain rfl := Option.some.inj H
    go_enter Tryd.func51, Tryd.ntmps51
    go_wp2_with (first | ((with_reducible refine gate_dst (N := 2) rfl ?_); refine zX (N := 2) (cs := #[.string a0_0, .string a0_1, .string a0_2, .bool a0_3, .string a0_4, .int .i64 a0_5, .bool a0_6, .int .i64 a0_7, .int .i64 a0_8]) (t := 39) rfl rfl ?hr zB ?_; (case hr => first | (go_simp; done) | (go_simp; rfl)); clear HB; intro gb300 w11 HB BK300 GW300; have GE300 := GW300) | ((with_reducible refine gate_dst (N := 3) rfl ?_); refine zY (N := 3) (cs := #[.string a1_0, .string a1_1, .string a1_2, .bool a1_3, .string a1_4, .int .i64 a1_5, .bool a1_6, .int .i64 a1_7, .int .i64 a1_8]) (t := 39) rfl rfl ?hr ?_; (case hr => first | (go_simp; done) | (go_simp; rfl)); intro gb301 hg w12 hbox hb; have BK301 := Aside0.mk (hbox); have GW301 := zG hg; have GE301 := zG hg; replace HB := zT hb; have NB300_301 := zH BK300 hg; have NB301_300 := Aside0.mk ((by rw [hg]; exact Nat.ne_of_gt (blk_lt (g := gb300) (o := .cells #[.string a0_0, .string a0_1, .string a0_2, .bool a0_3, .string a0_4, .int .i64 a0_5, .bool a0_6, .int .i64 a0_7, .int .i64 a0_8] 39 (0, 0)) (by (with_reducible repeat (first | refine blk_drewN ?_ _ | refine blk_drew ?_ | refine blk_alloc ?_ _)); exact BK300.out)) : gb301 ≠ gb300)); replace BK300 := zK BK300 hb; clear hb hbox hg; have hnb13 := NB300_301.out; have hnc13 := NB301_300.out; obtain ⟨hcz14_0, hcz14_1, hcz14_2, hcz14_3, hcz14_4, hcz14_5, hcz14_6, hcz14_7, hcz14_8, hfz14_0, hfz14_1, hfz14_2, hfz14_3, hfz14_4, hfz14_5, hfz14_6, hfz14_7, hfz14_8⟩ := zc9 BK300; obtain ⟨hcz15_0, hcz15_1, hcz15_2, hcz15_3, hcz15_4, hcz15_5, hcz15_6, hcz15_7, hcz15_8, hfz15_0, hfz15_1, hfz15_2, hfz15_3, hfz15_4, hfz15_5, hfz15_6, hfz15_7, hfz15_8⟩ := zc9 BK301))
    go_ret
    exact ⟨zE, zB⟩
  ·rw [if_neg c4] at H
   have c4b0 := beq_eq_false_iff_ne.mpr c4
   have c4b1 := bne_iff_ne.mpr c4
   obtain rfl := Option.some.inj H
   go_enter Tryd.func51, Tryd.ntmps51
   go_wp2_with (first | ((with_reducible refine gate_dst (N := 2) rfl ?_); refine zX (N := 2) (cs := #[.string a0_0, .string a0_1, .string a0_2, .bool a0_3, .string a0_4, .int .i64 a0_5, .bool a0_6, .int .i64 a0_7, .int .i64 a0_8]) (t := 39) rfl rfl ?hr zB ?_; (case hr => first | (go_simp; done) | (go_simp; rfl)); clear HB; intro gb300 w16 HB BK300 GW300; have GE300 := GW300) | ((with_reducible refine gate_dst (N := 3) rfl ?_); refine zY (N := 3) (cs := #[.string a1_0, .string a1_1, .string a1_2, .bool a1_3, .string a1_4, .int .i64 a1_5, .bool a1_6, .int .i64 a1_7, .int .i64 a1_8]) (t := 39) rfl rfl ?hr ?_; (case hr => first | (go_simp; done) | (go_simp; rfl)); intro gb301 hg w17 hbox hb; have BK301 := Aside0.mk (hbox); have GW301 := zG hg; have GE301 := zG hg; replace HB := zT hb; have NB300_301 := zH BK300 hg; have NB301_300 := Aside0.mk ((by rw [hg]; exact Nat.ne_of_gt (blk_lt (g := gb300) (o := .cells #[.string a0_0, .string a0_1, .string a0_2, .bool a0_3, .string a0_4, .int .i64 a0_5, .bool a0_6, .int .i64 a0_7, .int .i64 a0_8] 39 (0, 0)) (by (with_reducible repeat (first | refine blk_drewN ?_ _ | refine blk_drew ?_ | refine blk_alloc ?_ _)); exact BK300.out)) : gb301 ≠ gb300)); replace BK300 := zK BK300 hb; clear hb hbox hg; have hnb18 := NB300_301.out; have hnc18 := NB301_300.out; obtain ⟨hcz19_0, hcz19_1, hcz19_2, hcz19_3, hcz19_4, hcz19_5, hcz19_6, hcz19_7, hcz19_8, hfz19_0, hfz19_1, hfz19_2, hfz19_3, hfz19_4, hfz19_5, hfz19_6, hfz19_7, hfz19_8⟩ := zc9 BK300; obtain ⟨hcz20_0, hcz20_1, hcz20_2, hcz20_3, hcz20_4, hcz20_5, hcz20_6, hcz20_7, hcz20_8, hfz20_0, hfz20_1, hfz20_2, hfz20_3, hfz20_4, hfz20_5, hfz20_6, hfz20_7, hfz20_8⟩ := zc9 BK301))
   go_ret
   exact ⟨zE, zB⟩
 ·rw [if_neg c3] at H
  have c3b0 := beq_eq_false_iff_ne.mpr c3
  have c3b1 := bne_iff_ne.mpr c3
  obtain rfl := Option.some.inj H
  go_enter Tryd.func51, Tryd.ntmps51
  go_wp2_with (first | ((with_reducible refine gate_dst (N := 2) rfl ?_); refine zX (N := 2) (cs := #[.string a0_0, .string a0_1, .string a0_2, .bool a0_3, .string a0_4, .int .i64 a0_5, .bool a0_6, .int .i64 a0_7, .int .i64 a0_8]) (t := 39) rfl rfl ?hr zB ?_; (case hr => first | (go_simp; done) | (go_simp; rfl)); clear HB; intro gb300 w21 HB BK300 GW300; have GE300 := GW300) | ((with_reducible refine gate_dst (N := 3) rfl ?_); refine zY (N := 3) (cs := #[.string a1_0, .string a1_1, .string a1_2, .bool a1_3, .string a1_4, .int .i64 a1_5, .bool a1_6, .int .i64 a1_7, .int .i64 a1_8]) (t := 39) rfl rfl ?hr ?_; (case hr => first | (go_simp; done) | (go_simp; rfl)); intro gb301 hg w22 hbox hb; have BK301 := Aside0.mk (hbox); have GW301 := zG hg; have GE301 := zG hg; replace HB := zT hb; have NB300_301 := zH BK300 hg; have NB301_300 := Aside0.mk ((by rw [hg]; exact Nat.ne_of_gt (blk_lt (g := gb300) (o := .cells #[.string a0_0, .string a0_1, .string a0_2, .bool a0_3, .string a0_4, .int .i64 a0_5, .bool a0_6, .int .i64 a0_7, .int .i64 a0_8] 39 (0, 0)) (by (with_reducible repeat (first | refine blk_drewN ?_ _ | refine blk_drew ?_ | refine blk_alloc ?_ _)); exact BK300.out)) : gb301 ≠ gb300)); replace BK300 := zK BK300 hb; clear hb hbox hg; have hnb23 := NB300_301.out; have hnc23 := NB301_300.out; obtain ⟨hcz24_0, hcz24_1, hcz24_2, hcz24_3, hcz24_4, hcz24_5, hcz24_6, hcz24_7, hcz24_8, hfz24_0, hfz24_1, hfz24_2, hfz24_3, hfz24_4, hfz24_5, hfz24_6, hfz24_7, hfz24_8⟩ := zc9 BK300; obtain ⟨hcz25_0, hcz25_1, hcz25_2, hcz25_3, hcz25_4, hcz25_5, hcz25_6, hcz25_7, hcz25_8, hfz25_0, hfz25_1, hfz25_2, hfz25_3, hfz25_4, hfz25_5, hfz25_6, hfz25_7, hfz25_8⟩ := zc9 BK301))
  go_ret
  exact ⟨zE, zB⟩

/-! ### impl_Cookie_77: function 77 -/
def impl_Cookie_77.l0 : Nat → List (S39) → Int → Int → ByteArray → ByteArray → ByteArray → Bool → ByteArray → Int → Bool → Int → Int → Option (Int)
 | 0, _, _, _, _, _, _, _, _, _, _, _, _ => none
 | k + 1, x0, x7, x8, x920, x921, x922, x923, x924, x925, x926, x927, x928 => if x8 < x7 then (if 0 ≤ x8 then (if x8 < (x0.length : Int) then ((impl_Cookie_twin.f x920 x921 x922 x923 x924 x925 x926 x927 x928 ((rd_T39 x0 x8).f0) ((rd_T39 x0 x8).f1) ((rd_T39 x0 x8).f2) ((rd_T39 x0 x8).f3) ((rd_T39 x0 x8).f4) ((rd_T39 x0 x8).f5) ((rd_T39 x0 x8).f6) ((rd_T39 x0 x8).f7) ((rd_T39 x0 x8).f8)).bind fun t303 => (if t303 = true then (some x8) else (impl_Cookie_77.l0 k x0 x7 (wrap64 (x8 + 1)) x920 x921 x922 x923 x924 x925 x926 x927 x928))) else (none)) else (none)) else (some (-1))
def impl_Cookie_77.f (k : Nat) (l0 : List (S39)) (a1_0 : ByteArray) (a1_1 : ByteArray) (a1_2 : ByteArray) (a1_3 : Bool) (a1_4 : ByteArray) (a1_5 : Int) (a1_6 : Bool) (a1_7 : Int) (a1_8 : Int) : Option (Int) := impl_Cookie_77.l0 k l0 (l0.length : Int) 0 a1_0 a1_1 a1_2 a1_3 a1_4 a1_5 a1_6 a1_7 a1_8
theorem impl_Cookie_77.mono_l : ∀ k, (∀ y0 y1 y2 y3 y4 y5 y6 y7 y8 y9 y10 y11, LeO (impl_Cookie_77.l0 k y0 y1 y2 y3 y4 y5 y6 y7 y8 y9 y10 y11) (impl_Cookie_77.l0 (k + 1) y0 y1 y2 y3 y4 y5 y6 y7 y8 y9 y10 y11))
 | 0 => fun _ _ _ _ _ _ _ _ _ _ _ _ r h => by simp [impl_Cookie_77.l0] at h
 | k + 1 => by
  have ih0 := impl_Cookie_77.mono_l k
  all_goals intros
  all_goals first | unfold impl_Cookie_77.l0
  all_goals repeat' (first | (with_reducible first | apply ih0 | exact LeO.refl _ | exact LeO.none _ | refine LeO.ite ?_ ?_ | refine LeO.bind ?_ fun _ => ?_) | apply ih0 | exact LeO.none _ | refine LeO.ite ?_ ?_ | refine LeO.bind ?_ fun _ => ?_)
theorem impl_Cookie_77.mono : ∀ a0 a1 a2 a3 a4 a5 a6 a7 a8 a9 k, LeO (impl_Cookie_77.f k a0 a1 a2 a3 a4 a5 a6 a7 a8 a9) (impl_Cookie_77.f (k + 1) a0 a1 a2 a3 a4 a5 a6 a7 a8 a9) := by
 intro a0 a1 a2 a3 a4 a5 a6 a7 a8 a9 k
 have ih0 := impl_Cookie_77.mono_l k
 unfold impl_Cookie_77.f
 repeat' (first | (with_reducible first | apply ih0 | exact LeO.refl _ | exact LeO.none _ | refine LeO.ite ?_ ?_ | refine LeO.bind ?_ fun _ => ?_) | apply ih0 | exact LeO.none _ | refine LeO.ite ?_ ?_ | refine LeO.bind ?_ fun _ => ?_)
set_option maxHeartbeats 8000000 in
set_option maxRecDepth 100000 in
theorem impl_Cookie_77.calls (k : Nat) (A0 : Option Addr) (c0 : Nat) (l0 : List (S39)) (a1_0 : ByteArray) (a1_1 : ByteArray) (a1_2 : ByteArray) (a1_3 : Bool) (a1_4 : ByteArray) (a1_5 : Int) (a1_6 : Bool) (a1_7 : Int) (a1_8 : Int) (r : Int) (w : World) (hr0 : Kd.C k39 w A0 l0.length l0) (hc0 : l0.length ≤ c0) (h : impl_Cookie_77.f k l0 a1_0 a1_1 a1_2 a1_3 a1_4 a1_5 a1_6 a1_7 a1_8 = some r) :
  Calls Tryd.prog 77 #[.slice A0 l0.length c0, .func (.func 51) #[.agg #[.string a1_0, .string a1_1, .string a1_2, .bool a1_3, .string a1_4, .int .i64 a1_5, .bool a1_6, .int .i64 a1_7, .int .i64 a1_8]] #[]] w fun e w' => e = .returned (.int .i64 r) ∧ Below w.heap.size w w' := by
 have hu39 := Tryd.underlying39
 have HR0 := Aside0.mk hr0
 have HC0 := Aside0.mk hc0
 clear hr0 hc0
 have HB := Aside0.mk (Below.refl w.heap.size w)
 have H : (impl_Cookie_77.l0 k l0 (l0.length : Int) 0 a1_0 a1_1 a1_2 a1_3 a1_4 a1_5 a1_6 a1_7 a1_8) = some r := h
 clear h
 have H' := Aside0.mk H
 clear H
 go_enter Tryd.func77, Tryd.ntmps77
 go_wp2
 go_loopg [8] k (fun kq v8 w' => ∃ (x8_1 : Int), v8 = .int .i64 x8_1 ∧ Aside0 (impl_Cookie_77.l0 kq l0 (l0.length : Int) x8_1 a1_0 a1_1 a1_2 a1_3 a1_4 a1_5 a1_6 a1_7 a1_8 = some r) ∧ Aside0 (kq ≤ k) ∧ Aside0 (Below w.heap.size w w'))
 case atStart => exact ⟨(0), zS, H', ⟨Nat.le_refl _⟩, ⟨zB⟩⟩
 case round =>
  clear H'
  obtain ⟨x8_1, rfl, HA, HK1, HB⟩ := hrel
  cases gk with
  | zero => exact absurd HA.out (by simp [impl_Cookie_77.l0])
  | succ k1 =>
   have H := HA.out
   clear HA
   simp only [impl_Cookie_77.l0] at H
   by_cases c3 : x8_1 < (l0.length : Int)
   ·rw [if_pos c3] at H
    have c3b0 := decide_eq_true c3
    clear c3
    by_cases c4 : 0 ≤ x8_1
    ·rw [if_pos c4] at H
     have c4b0 := decide_eq_true c4
     clear c4
     by_cases c5 : x8_1 < (l0.length : Int)
     ·rw [if_pos c5] at H
      have c5b0 := decide_eq_true c5
      clear c5
      obtain ⟨t303, A6, H⟩ := zO H
      by_cases c7 : t303 = true
      ·subst c7
       replace H := zI H rfl
       obtain rfl := Option.some.inj H
       have p302 : 0 ≤ (x8_1 : Int) := zD
       have q302 : x8_1 < (l0.length : Int) := zD
       obtain ⟨ad302, e302, hx302_0, hx302_1, hx302_2, hx302_3, hx302_4, hx302_5, hx302_6, hx302_7, hx302_8⟩ := at_T39 HR0.out x8_1 p302 q302
       cases e302
       replace hx302_0 := (HB.out.cell (World.block_lt_of_cell? w _ hx302_0)).trans hx302_0
       replace hx302_1 := (HB.out.cell (World.block_lt_of_cell? w _ hx302_1)).trans hx302_1
       replace hx302_2 := (HB.out.cell (World.block_lt_of_cell? w _ hx302_2)).trans hx302_2
       replace hx302_3 := (HB.out.cell (World.block_lt_of_cell? w _ hx302_3)).trans hx302_3
       replace hx302_4 := (HB.out.cell (World.block_lt_of_cell? w _ hx302_4)).trans hx302_4
       replace hx302_5 := (HB.out.cell (World.block_lt_of_cell? w _ hx302_5)).trans hx302_5
       replace hx302_6 := (HB.out.cell (World.block_lt_of_cell? w _ hx302_6)).trans hx302_6
       replace hx302_7 := (HB.out.cell (World.block_lt_of_cell? w _ hx302_7)).trans hx302_7
       replace hx302_8 := (HB.out.cell (World.block_lt_of_cell? w _ hx302_8)).trans hx302_8
       replace p302 := eq_true p302
       replace q302 := eq_true q302
       go_wp2_with (first | (go_at_call 51; (with_reducible refine (impl_Cookie_twin.calls a1_0 a1_1 a1_2 a1_3 a1_4 a1_5 a1_6 a1_7 a1_8 ((rd_T39 l0 x8_1).f0) ((rd_T39 l0 x8_1).f1) ((rd_T39 l0 x8_1).f2) ((rd_T39 l0 x8_1).f3) ((rd_T39 l0 x8_1).f4) ((rd_T39 l0 x8_1).f5) ((rd_T39 l0 x8_1).f6) ((rd_T39 l0 x8_1).f7) ((rd_T39 l0 x8_1).f8) true _ A6.out).mono ?_); rintro e w8 ⟨rfl, hb⟩; replace HB := zT hb; (try clear hb)))
       go_ret
       exact ⟨zE, zB⟩
      ·replace c7 := Bool.eq_false_iff.mpr c7
       subst c7
       replace H := zJ H zF
       have H' := Aside0.mk H
       clear H
       have p302 : 0 ≤ (x8_1 : Int) := zD
       have q302 : x8_1 < (l0.length : Int) := zD
       obtain ⟨ad302, e302, hx302_0, hx302_1, hx302_2, hx302_3, hx302_4, hx302_5, hx302_6, hx302_7, hx302_8⟩ := at_T39 HR0.out x8_1 p302 q302
       cases e302
       replace hx302_0 := (HB.out.cell (World.block_lt_of_cell? w _ hx302_0)).trans hx302_0
       replace hx302_1 := (HB.out.cell (World.block_lt_of_cell? w _ hx302_1)).trans hx302_1
       replace hx302_2 := (HB.out.cell (World.block_lt_of_cell? w _ hx302_2)).trans hx302_2
       replace hx302_3 := (HB.out.cell (World.block_lt_of_cell? w _ hx302_3)).trans hx302_3
       replace hx302_4 := (HB.out.cell (World.block_lt_of_cell? w _ hx302_4)).trans hx302_4
       replace hx302_5 := (HB.out.cell (World.block_lt_of_cell? w _ hx302_5)).trans hx302_5
       replace hx302_6 := (HB.out.cell (World.block_lt_of_cell? w _ hx302_6)).trans hx302_6
       replace hx302_7 := (HB.out.cell (World.block_lt_of_cell? w _ hx302_7)).trans hx302_7
       replace hx302_8 := (HB.out.cell (World.block_lt_of_cell? w _ hx302_8)).trans hx302_8
       replace p302 := eq_true p302
       replace q302 := eq_true q302
       go_wp2_with (first | (go_at_call 51; (with_reducible refine (impl_Cookie_twin.calls a1_0 a1_1 a1_2 a1_3 a1_4 a1_5 a1_6 a1_7 a1_8 ((rd_T39 l0 x8_1).f0) ((rd_T39 l0 x8_1).f1) ((rd_T39 l0 x8_1).f2) ((rd_T39 l0 x8_1).f3) ((rd_T39 l0 x8_1).f4) ((rd_T39 l0 x8_1).f5) ((rd_T39 l0 x8_1).f6) ((rd_T39 l0 x8_1).f7) ((rd_T39 l0 x8_1).f8) false _ A6.out).mono ?_); rintro e w9 ⟨rfl, hb⟩; replace HB := zT hb; (try clear hb)))
       go_roundg k1
       case measure => have := HK1.out; omega
       case rel => exact ⟨(wrap64 (x8_1 + 1)), zS, H', ⟨by have := HK1.out; omega⟩, ⟨zB⟩⟩
     ·rw [if_neg c5] at H
      exact absurd H (by simp)
    ·rw [if_neg c4] at H
     exact absurd H (by simp)
   ·rw [if_neg c3] at H
    have c3b0 := decide_eq_false c3
    clear c3
    obtain rfl := Option.some.inj H
    go_wp2
    go_ret
    exact ⟨zE, zB⟩

end Go.Proofs.YtakobibclhdakaaDoor.PFnExactJarSave
