-- printed by a program of this session's (wip/myprint.py) out of the translation; Lean checks it
import Derived.Test.YtakobibclhdakaaDoorPFnExactJarSavex0
import Derived.Test.YtakobibclhdakaaDoorPFnExactJarSavex6
import Derived.Test.YtakobibclhdakaaDoorPFnExactJarSavex9
namespace Go.Proofs.YtakobibclhdakaaDoor.PFnExactJarSave
open Go.RowKit Go.Proofs.YtakobibclhdakaaDoorG Go.Proofs.YtakobibclhdakaaDoorZ Go.Proofs.YtakobibclhdakaaDoorW.PrintWords Go.Proofs.YtakobibclhdakaaDoorW.PrintLast Go.Proofs.YtakobibclhdakaaDoorW.PrintMore
attribute [local go_sem] str_leq str_gtr str_geq max2_int min2_int max_two min_two max_three min_three max_four min_four   -- for this text's walks alone
set_option linter.unusedVariables false
set_option linter.unusedSimpArgs false

/-! ### spec_l9Bit: function 98 -/
def spec_l9Bit.f (a0 : Bool) : Option (ByteArray) := if a0 = true then (some (⟨#[49]⟩ : ByteArray)) else (some (⟨#[48]⟩ : ByteArray))
set_option maxHeartbeats 8000000 in
set_option maxRecDepth 100000 in
theorem spec_l9Bit.calls (a0 : Bool) (r : ByteArray) (w : World) (h : spec_l9Bit.f a0 = some r) :
  Calls Tryd.prog 98 #[.bool a0] w fun e w' => e = .returned (.string r) ∧ Drawn0 w w' := by
 have H : (if a0 = true then (some (⟨#[49]⟩ : ByteArray)) else (some (⟨#[48]⟩ : ByteArray))) = some r := h
 clear h
 by_cases c2 : a0 = true
 ·subst c2
  replace H := zI H rfl
  obtain rfl := Option.some.inj H
  go_enter Tryd.func98, Tryd.ntmps98
  go_wp2
  go_ret
  exact ⟨zS, zW⟩
 ·replace c2 := Bool.eq_false_iff.mpr c2
  subst c2
  replace H := zJ H zF
  obtain rfl := Option.some.inj H
  go_enter Tryd.func98, Tryd.ntmps98
  go_wp2
  go_ret
  exact ⟨zS, zW⟩

/-! ### spec_l9Cookie: function 79 -/
def spec_l9Cookie.f (k : Nat) (a0_0 : ByteArray) (a0_1 : ByteArray) (a0_2 : ByteArray) (a0_3 : Bool) (a0_4 : ByteArray) (a0_5 : Int) (a0_6 : Bool) (a0_7 : Int) (a0_8 : Int) : Option (ByteArray) := if a0_0.size + 1 ≤ 9223372036854775807 then ((spec_l9Hex.f k a0_1).bind fun t216 => (if (a0_0 ++ (⟨#[32]⟩ : ByteArray)).size + t216.size ≤ 9223372036854775807 then (if ((a0_0 ++ (⟨#[32]⟩ : ByteArray)) ++ t216).size + 1 ≤ 9223372036854775807 then (if (((a0_0 ++ (⟨#[32]⟩ : ByteArray)) ++ t216) ++ (⟨#[32]⟩ : ByteArray)).size + a0_2.size ≤ 9223372036854775807 then (if ((((a0_0 ++ (⟨#[32]⟩ : ByteArray)) ++ t216) ++ (⟨#[32]⟩ : ByteArray)) ++ a0_2).size + 1 ≤ 9223372036854775807 then ((spec_l9Bit.f a0_3).bind fun t217 => (if (((((a0_0 ++ (⟨#[32]⟩ : ByteArray)) ++ t216) ++ (⟨#[32]⟩ : ByteArray)) ++ a0_2) ++ (⟨#[32]⟩ : ByteArray)).size + t217.size ≤ 9223372036854775807 then (if ((((((a0_0 ++ (⟨#[32]⟩ : ByteArray)) ++ t216) ++ (⟨#[32]⟩ : ByteArray)) ++ a0_2) ++ (⟨#[32]⟩ : ByteArray)) ++ t217).size + 1 ≤ 9223372036854775807 then ((spec_l9Hex.f k a0_4).bind fun t218 => (if (((((((a0_0 ++ (⟨#[32]⟩ : ByteArray)) ++ t216) ++ (⟨#[32]⟩ : ByteArray)) ++ a0_2) ++ (⟨#[32]⟩ : ByteArray)) ++ t217) ++ (⟨#[32]⟩ : ByteArray)).size + t218.size ≤ 9223372036854775807 then (if ((((((((a0_0 ++ (⟨#[32]⟩ : ByteArray)) ++ t216) ++ (⟨#[32]⟩ : ByteArray)) ++ a0_2) ++ (⟨#[32]⟩ : ByteArray)) ++ t217) ++ (⟨#[32]⟩ : ByteArray)) ++ t218).size + 1 ≤ 9223372036854775807 then ((spec_l1Dec.f k a0_5).bind fun t219 => (if (((((((((a0_0 ++ (⟨#[32]⟩ : ByteArray)) ++ t216) ++ (⟨#[32]⟩ : ByteArray)) ++ a0_2) ++ (⟨#[32]⟩ : ByteArray)) ++ t217) ++ (⟨#[32]⟩ : ByteArray)) ++ t218) ++ (⟨#[32]⟩ : ByteArray)).size + t219.size ≤ 9223372036854775807 then (if ((((((((((a0_0 ++ (⟨#[32]⟩ : ByteArray)) ++ t216) ++ (⟨#[32]⟩ : ByteArray)) ++ a0_2) ++ (⟨#[32]⟩ : ByteArray)) ++ t217) ++ (⟨#[32]⟩ : ByteArray)) ++ t218) ++ (⟨#[32]⟩ : ByteArray)) ++ t219).size + 1 ≤ 9223372036854775807 then ((spec_l9Bit.f a0_6).bind fun t220 => (if (((((((((((a0_0 ++ (⟨#[32]⟩ : ByteArray)) ++ t216) ++ (⟨#[32]⟩ : ByteArray)) ++ a0_2) ++ (⟨#[32]⟩ : ByteArray)) ++ t217) ++ (⟨#[32]⟩ : ByteArray)) ++ t218) ++ (⟨#[32]⟩ : ByteArray)) ++ t219) ++ (⟨#[32]⟩ : ByteArray)).size + t220.size ≤ 9223372036854775807 then (if ((((((((((((a0_0 ++ (⟨#[32]⟩ : ByteArray)) ++ t216) ++ (⟨#[32]⟩ : ByteArray)) ++ a0_2) ++ (⟨#[32]⟩ : ByteArray)) ++ t217) ++ (⟨#[32]⟩ : ByteArray)) ++ t218) ++ (⟨#[32]⟩ : ByteArray)) ++ t219) ++ (⟨#[32]⟩ : ByteArray)) ++ t220).size + 1 ≤ 9223372036854775807 then ((spec_l1Dec.f k a0_7).bind fun t221 => (if (((((((((((((a0_0 ++ (⟨#[32]⟩ : ByteArray)) ++ t216) ++ (⟨#[32]⟩ : ByteArray)) ++ a0_2) ++ (⟨#[32]⟩ : ByteArray)) ++ t217) ++ (⟨#[32]⟩ : ByteArray)) ++ t218) ++ (⟨#[32]⟩ : ByteArray)) ++ t219) ++ (⟨#[32]⟩ : ByteArray)) ++ t220) ++ (⟨#[32]⟩ : ByteArray)).size + t221.size ≤ 9223372036854775807 then (if ((((((((((((((a0_0 ++ (⟨#[32]⟩ : ByteArray)) ++ t216) ++ (⟨#[32]⟩ : ByteArray)) ++ a0_2) ++ (⟨#[32]⟩ : ByteArray)) ++ t217) ++ (⟨#[32]⟩ : ByteArray)) ++ t218) ++ (⟨#[32]⟩ : ByteArray)) ++ t219) ++ (⟨#[32]⟩ : ByteArray)) ++ t220) ++ (⟨#[32]⟩ : ByteArray)) ++ t221).size + 1 ≤ 9223372036854775807 then ((spec_l1Dec.f k a0_8).bind fun t222 => (if (((((((((((((((a0_0 ++ (⟨#[32]⟩ : ByteArray)) ++ t216) ++ (⟨#[32]⟩ : ByteArray)) ++ a0_2) ++ (⟨#[32]⟩ : ByteArray)) ++ t217) ++ (⟨#[32]⟩ : ByteArray)) ++ t218) ++ (⟨#[32]⟩ : ByteArray)) ++ t219) ++ (⟨#[32]⟩ : ByteArray)) ++ t220) ++ (⟨#[32]⟩ : ByteArray)) ++ t221) ++ (⟨#[32]⟩ : ByteArray)).size + t222.size ≤ 9223372036854775807 then (if ((((((((((((((((a0_0 ++ (⟨#[32]⟩ : ByteArray)) ++ t216) ++ (⟨#[32]⟩ : ByteArray)) ++ a0_2) ++ (⟨#[32]⟩ : ByteArray)) ++ t217) ++ (⟨#[32]⟩ : ByteArray)) ++ t218) ++ (⟨#[32]⟩ : ByteArray)) ++ t219) ++ (⟨#[32]⟩ : ByteArray)) ++ t220) ++ (⟨#[32]⟩ : ByteArray)) ++ t221) ++ (⟨#[32]⟩ : ByteArray)) ++ t222).size + 1 ≤ 9223372036854775807 then (some (((((((((((((((((a0_0 ++ (⟨#[32]⟩ : ByteArray)) ++ t216) ++ (⟨#[32]⟩ : ByteArray)) ++ a0_2) ++ (⟨#[32]⟩ : ByteArray)) ++ t217) ++ (⟨#[32]⟩ : ByteArray)) ++ t218) ++ (⟨#[32]⟩ : ByteArray)) ++ t219) ++ (⟨#[32]⟩ : ByteArray)) ++ t220) ++ (⟨#[32]⟩ : ByteArray)) ++ t221) ++ (⟨#[32]⟩ : ByteArray)) ++ t222) ++ (⟨#[10]⟩ : ByteArray))) else (none)) else (none))) else (none)) else (none))) else (none)) else (none))) else (none)) else (none))) else (none)) else (none))) else (none)) else (none))) else (none)) else (none)) else (none)) else (none))) else (none)
theorem spec_l9Cookie.mono : ∀ a0 a1 a2 a3 a4 a5 a6 a7 a8 k, LeO (spec_l9Cookie.f k a0 a1 a2 a3 a4 a5 a6 a7 a8) (spec_l9Cookie.f (k + 1) a0 a1 a2 a3 a4 a5 a6 a7 a8) := by
 intro a0 a1 a2 a3 a4 a5 a6 a7 a8 k
 unfold spec_l9Cookie.f
 repeat' (first | (with_reducible first | apply spec_l1Dec.mono | apply spec_l9Hex.mono | exact LeO.refl _ | exact LeO.none _ | refine LeO.ite ?_ ?_ | refine LeO.bind ?_ fun _ => ?_) | apply spec_l1Dec.mono | apply spec_l9Hex.mono | exact LeO.none _ | refine LeO.ite ?_ ?_ | refine LeO.bind ?_ fun _ => ?_)
def spec_l9Cookie.T1 : Bool × List (List Nat × List Nat) := (true, [([], []), ([0], [0]), ([1], [1]), ([], []), ([3], [3]), ([4], [4]), ([2, 5], [2, 5]), ([6], [6]), ([], []), ([8], [8]), ([7, 9], [7, 9]), ([10], [10]), ([], []), ([12], [12]), ([13, 5], [13]), ([11, 14], [11, 14]), ([15], [15]), ([], []), ([17], [17]), ([18, 14], [18]), ([16, 19], [16, 19]), ([20], [20]), ([], []), ([22], [22]), ([23, 19], [23]), ([21, 24], [21, 24]), ([25], [25]), ([], []), ([27], [27]), ([28, 24], [28]), ([26, 29], [26, 29]), ([30], [30]), ([], []), ([32], [32]), ([33, 29], [33]), ([31, 34], [31, 34]), ([35], [35]), ([], []), ([37], [37]), ([38, 34], [38]), ([36, 39], [36, 39]), ([40], [40]), ([41, 39, 0, 1, 2, 3, 4, 5, 6, 7, 8, 9, 10, 11, 12, 13, 14, 15, 16, 17, 18, 19, 20, 21, 22, 23, 24, 25, 26, 27, 28, 29, 30, 31, 32, 33, 34, 35, 36, 37, 38, 39, 40, 41], [41])])
def spec_l9Cookie.B1 : List Nat := [0, 1, 3, 0, 8, 24, 63, 127, 0, 256, 1023, 2047, 0, 4096, 12344, 32767, 65535, 0, 131072, 421944, 1048575, 2097151, 0, 4194304, 13529144, 33554431, 67108863, 0, 134217728, 432959544, 1073741823, 2147483647, 0, 4294967296, 13854732344, 34359738367, 68719476735, 0, 137438953472, 443351461944, 1099511627775, 2199023255551, 4398046511103]
theorem spec_l9Cookie.tab1 : rtab .any (opsOf Tryd.f79 1) = spec_l9Cookie.T1 := by kernel_rfl
theorem spec_l9Cookie.bits1 : waitsOk spec_l9Cookie.T1.2 spec_l9Cookie.B1 = true := by kernel_rfl
set_option maxHeartbeats 8000000 in
set_option maxRecDepth 100000 in
theorem spec_l9Cookie.calls (k : Nat) (a0_0 : ByteArray) (a0_1 : ByteArray) (a0_2 : ByteArray) (a0_3 : Bool) (a0_4 : ByteArray) (a0_5 : Int) (a0_6 : Bool) (a0_7 : Int) (a0_8 : Int) (r : ByteArray) (w : World) (h : spec_l9Cookie.f k a0_0 a0_1 a0_2 a0_3 a0_4 a0_5 a0_6 a0_7 a0_8 = some r) :
  Calls Tryd.prog 79 #[.agg #[.string a0_0, .string a0_1, .string a0_2, .bool a0_3, .string a0_4, .int .i64 a0_5, .bool a0_6, .int .i64 a0_7, .int .i64 a0_8]] w fun e w' => e = .returned (.string r) ∧ Below w.heap.size w w' := by
 have hu39 := Tryd.underlying39
 have HB := Aside0.mk (Below.refl w.heap.size w)
 have H : (if a0_0.size + 1 ≤ 9223372036854775807 then ((spec_l9Hex.f k a0_1).bind fun t216 => (if (a0_0 ++ (⟨#[32]⟩ : ByteArray)).size + t216.size ≤ 9223372036854775807 then (if ((a0_0 ++ (⟨#[32]⟩ : ByteArray)) ++ t216).size + 1 ≤ 9223372036854775807 then (if (((a0_0 ++ (⟨#[32]⟩ : ByteArray)) ++ t216) ++ (⟨#[32]⟩ : ByteArray)).size + a0_2.size ≤ 9223372036854775807 then (if ((((a0_0 ++ (⟨#[32]⟩ : ByteArray)) ++ t216) ++ (⟨#[32]⟩ : ByteArray)) ++ a0_2).size + 1 ≤ 9223372036854775807 then ((spec_l9Bit.f a0_3).bind fun t217 => (if (((((a0_0 ++ (⟨#[32]⟩ : ByteArray)) ++ t216) ++ (⟨#[32]⟩ : ByteArray)) ++ a0_2) ++ (⟨#[32]⟩ : ByteArray)).size + t217.size ≤ 9223372036854775807 then (if ((((((a0_0 ++ (⟨#[32]⟩ : ByteArray)) ++ t216) ++ (⟨#[32]⟩ : ByteArray)) ++ a0_2) ++ (⟨#[32]⟩ : ByteArray)) ++ t217).size + 1 ≤ 9223372036854775807 then ((spec_l9Hex.f k a0_4).bind fun t218 => (if (((((((a0_0 ++ (⟨#[32]⟩ : ByteArray)) ++ t216) ++ (⟨#[32]⟩ : ByteArray)) ++ a0_2) ++ (⟨#[32]⟩ : ByteArray)) ++ t217) ++ (⟨#[32]⟩ : ByteArray)).size + t218.size ≤ 9223372036854775807 then (if ((((((((a0_0 ++ (⟨#[32]⟩ : ByteArray)) ++ t216) ++ (⟨#[32]⟩ : ByteArray)) ++ a0_2) ++ (⟨#[32]⟩ : ByteArray)) ++ t217) ++ (⟨#[32]⟩ : ByteArray)) ++ t218).size + 1 ≤ 9223372036854775807 then ((spec_l1Dec.f k a0_5).bind fun t219 => (if (((((((((a0_0 ++ (⟨#[32]⟩ : ByteArray)) ++ t216) ++ (⟨#[32]⟩ : ByteArray)) ++ a0_2) ++ (⟨#[32]⟩ : ByteArray)) ++ t217) ++ (⟨#[32]⟩ : ByteArray)) ++ t218) ++ (⟨#[32]⟩ : ByteArray)).size + t219.size ≤ 9223372036854775807 then (if ((((((((((a0_0 ++ (⟨#[32]⟩ : ByteArray)) ++ t216) ++ (⟨#[32]⟩ : ByteArray)) ++ a0_2) ++ (⟨#[32]⟩ : ByteArray)) ++ t217) ++ (⟨#[32]⟩ : ByteArray)) ++ t218) ++ (⟨#[32]⟩ : ByteArray)) ++ t219).size + 1 ≤ 9223372036854775807 then ((spec_l9Bit.f a0_6).bind fun t220 => (if (((((((((((a0_0 ++ (⟨#[32]⟩ : ByteArray)) ++ t216) ++ (⟨#[32]⟩ : ByteArray)) ++ a0_2) ++ (⟨#[32]⟩ : ByteArray)) ++ t217) ++ (⟨#[32]⟩ : ByteArray)) ++ t218) ++ (⟨#[32]⟩ : ByteArray)) ++ t219) ++ (⟨#[32]⟩ : ByteArray)).size + t220.size ≤ 9223372036854775807 then (if ((((((((((((a0_0 ++ (⟨#[32]⟩ : ByteArray)) ++ t216) ++ (⟨#[32]⟩ : ByteArray)) ++ a0_2) ++ (⟨#[32]⟩ : ByteArray)) ++ t217) ++ (⟨#[32]⟩ : ByteArray)) ++ t218) ++ (⟨#[32]⟩ : ByteArray)) ++ t219) ++ (⟨#[32]⟩ : ByteArray)) ++ t220).size + 1 ≤ 9223372036854775807 then ((spec_l1Dec.f k a0_7).bind fun t221 => (if (((((((((((((a0_0 ++ (⟨#[32]⟩ : ByteArray)) ++ t216) ++ (⟨#[32]⟩ : ByteArray)) ++ a0_2) ++ (⟨#[32]⟩ : ByteArray)) ++ t217) ++ (⟨#[32]⟩ : ByteArray)) ++ t218) ++ (⟨#[32]⟩ : ByteArray)) ++ t219) ++ (⟨#[32]⟩ : ByteArray)) ++ t220) ++ (⟨#[32]⟩ : ByteArray)).size + t221.size ≤ 9223372036854775807 then (if ((((((((((((((a0_0 ++ (⟨#[32]⟩ : ByteArray)) ++ t216) ++ (⟨#[32]⟩ : ByteArray)) ++ a0_2) ++ (⟨#[32]⟩ : ByteArray)) ++ t217) ++ (⟨#[32]⟩ : ByteArray)) ++ t218) ++ (⟨#[32]⟩ : ByteArray)) ++ t219) ++ (⟨#[32]⟩ : ByteArray)) ++ t220) ++ (⟨#[32]⟩ : ByteArray)) ++ t221).size + 1 ≤ 9223372036854775807 then ((spec_l1Dec.f k a0_8).bind fun t222 => (if (((((((((((((((a0_0 ++ (⟨#[32]⟩ : ByteArray)) ++ t216) ++ (⟨#[32]⟩ : ByteArray)) ++ a0_2) ++ (⟨#[32]⟩ : ByteArray)) ++ t217) ++ (⟨#[32]⟩ : ByteArray)) ++ t218) ++ (⟨#[32]⟩ : ByteArray)) ++ t219) ++ (⟨#[32]⟩ : ByteArray)) ++ t220) ++ (⟨#[32]⟩ : ByteArray)) ++ t221) ++ (⟨#[32]⟩ : ByteArray)).size + t222.size ≤ 9223372036854775807 then (if ((((((((((((((((a0_0 ++ (⟨#[32]⟩ : ByteArray)) ++ t216) ++ (⟨#[32]⟩ : ByteArray)) ++ a0_2) ++ (⟨#[32]⟩ : ByteArray)) ++ t217) ++ (⟨#[32]⟩ : ByteArray)) ++ t218) ++ (⟨#[32]⟩ : ByteArray)) ++ t219) ++ (⟨#[32]⟩ : ByteArray)) ++ t220) ++ (⟨#[32]⟩ : ByteArray)) ++ t221) ++ (⟨#[32]⟩ : ByteArray)) ++ t222).size + 1 ≤ 9223372036854775807 then (some (((((((((((((((((a0_0 ++ (⟨#[32]⟩ : ByteArray)) ++ t216) ++ (⟨#[32]⟩ : ByteArray)) ++ a0_2) ++ (⟨#[32]⟩ : ByteArray)) ++ t217) ++ (⟨#[32]⟩ : ByteArray)) ++ t218) ++ (⟨#[32]⟩ : ByteArray)) ++ t219) ++ (⟨#[32]⟩ : ByteArray)) ++ t220) ++ (⟨#[32]⟩ : ByteArray)) ++ t221) ++ (⟨#[32]⟩ : ByteArray)) ++ t222) ++ (⟨#[10]⟩ : ByteArray))) else (none)) else (none))) else (none)) else (none))) else (none)) else (none))) else (none)) else (none))) else (none)) else (none))) else (none)) else (none))) else (none)) else (none)) else (none)) else (none))) else (none)) = some r := h
 clear h
 by_cases c2 : a0_0.size + 1 ≤ 9223372036854775807
 ·rw [if_pos c2] at H
  have c2b0 := eq_true c2
  have c2b1 := decide_eq_true c2
  try have c2b2 : (9223372036854775807 < a0_0.size + 1) = False := eq_false (Nat.not_lt.2 c2)
  obtain ⟨t216, A3, H⟩ := zO H
  by_cases c4 : (a0_0 ++ (⟨#[32]⟩ : ByteArray)).size + t216.size ≤ 9223372036854775807
  ·rw [if_pos c4] at H
   have c4b0 := eq_true c4
   have c4b1 := decide_eq_true c4
   try have c4b2 : (9223372036854775807 < (a0_0 ++ (⟨#[32]⟩ : ByteArray)).size + t216.size) = False := eq_false (Nat.not_lt.2 c4)
   have c4b3 : (9223372036854775807 < a0_0.size + 1 + t216.size) = False := eq_false (Nat.not_lt.2 (by have h_ := c4; simp only [ByteArray.size_append] at h_; exact h_))
   by_cases c5 : ((a0_0 ++ (⟨#[32]⟩ : ByteArray)) ++ t216).size + 1 ≤ 9223372036854775807
   ·rw [if_pos c5] at H
    have c5b0 := eq_true c5
    have c5b1 := decide_eq_true c5
    try have c5b2 : (9223372036854775807 < ((a0_0 ++ (⟨#[32]⟩ : ByteArray)) ++ t216).size + 1) = False := eq_false (Nat.not_lt.2 c5)
    have c5b3 : (9223372036854775807 < a0_0.size + 1 + t216.size + 1) = False := eq_false (Nat.not_lt.2 (by have h_ := c5; simp only [ByteArray.size_append] at h_; exact h_))
    by_cases c6 : (((a0_0 ++ (⟨#[32]⟩ : ByteArray)) ++ t216) ++ (⟨#[32]⟩ : ByteArray)).size + a0_2.size ≤ 9223372036854775807
    ·rw [if_pos c6] at H
     have c6b0 := eq_true c6
     have c6b1 := decide_eq_true c6
     try have c6b2 : (9223372036854775807 < (((a0_0 ++ (⟨#[32]⟩ : ByteArray)) ++ t216) ++ (⟨#[32]⟩ : ByteArray)).size + a0_2.size) = False := eq_false (Nat.not_lt.2 c6)
     have c6b3 : (9223372036854775807 < a0_0.size + 1 + t216.size + 1 + a0_2.size) = False := eq_false (Nat.not_lt.2 (by have h_ := c6; simp only [ByteArray.size_append] at h_; exact h_))
     by_cases c7 : ((((a0_0 ++ (⟨#[32]⟩ : ByteArray)) ++ t216) ++ (⟨#[32]⟩ : ByteArray)) ++ a0_2).size + 1 ≤ 9223372036854775807
     ·rw [if_pos c7] at H
      have c7b0 := eq_true c7
      have c7b1 := decide_eq_true c7
      try have c7b2 : (9223372036854775807 < ((((a0_0 ++ (⟨#[32]⟩ : ByteArray)) ++ t216) ++ (⟨#[32]⟩ : ByteArray)) ++ a0_2).size + 1) = False := eq_false (Nat.not_lt.2 c7)
      have c7b3 : (9223372036854775807 < a0_0.size + 1 + t216.size + 1 + a0_2.size + 1) = False := eq_false (Nat.not_lt.2 (by have h_ := c7; simp only [ByteArray.size_append] at h_; exact h_))
      obtain ⟨t217, A8, H⟩ := zO H
      by_cases c9 : (((((a0_0 ++ (⟨#[32]⟩ : ByteArray)) ++ t216) ++ (⟨#[32]⟩ : ByteArray)) ++ a0_2) ++ (⟨#[32]⟩ : ByteArray)).size + t217.size ≤ 9223372036854775807
      ·rw [if_pos c9] at H
       have c9b0 := eq_true c9
       have c9b1 := decide_eq_true c9
       try have c9b2 : (9223372036854775807 < (((((a0_0 ++ (⟨#[32]⟩ : ByteArray)) ++ t216) ++ (⟨#[32]⟩ : ByteArray)) ++ a0_2) ++ (⟨#[32]⟩ : ByteArray)).size + t217.size) = False := eq_false (Nat.not_lt.2 c9)
       have c9b3 : (9223372036854775807 < a0_0.size + 1 + t216.size + 1 + a0_2.size + 1 + t217.size) = False := eq_false (Nat.not_lt.2 (by have h_ := c9; simp only [ByteArray.size_append] at h_; exact h_))
       by_cases c10 : ((((((a0_0 ++ (⟨#[32]⟩ : ByteArray)) ++ t216) ++ (⟨#[32]⟩ : ByteArray)) ++ a0_2) ++ (⟨#[32]⟩ : ByteArray)) ++ t217).size + 1 ≤ 9223372036854775807
       ·rw [if_pos c10] at H
        have c10b0 := eq_true c10
        have c10b1 := decide_eq_true c10
        try have c10b2 : (9223372036854775807 < ((((((a0_0 ++ (⟨#[32]⟩ : ByteArray)) ++ t216) ++ (⟨#[32]⟩ : ByteArray)) ++ a0_2) ++ (⟨#[32]⟩ : ByteArray)) ++ t217).size + 1) = False := eq_false (Nat.not_lt.2 c10)
        have c10b3 : (9223372036854775807 < a0_0.size + 1 + t216.size + 1 + a0_2.size + 1 + t217.size + 1) = False := eq_false (Nat.not_lt.2 (by have h_ := c10; simp only [ByteArray.size_append] at h_; exact h_))
        obtain ⟨t218, A11, H⟩ := zO H
        by_cases c12 : (((((((a0_0 ++ (⟨#[32]⟩ : ByteArray)) ++ t216) ++ (⟨#[32]⟩ : ByteArray)) ++ a0_2) ++ (⟨#[32]⟩ : ByteArray)) ++ t217) ++ (⟨#[32]⟩ : ByteArray)).size + t218.size ≤ 9223372036854775807
        ·rw [if_pos c12] at H
         have c12b0 := eq_true c12
         have c12b1 := decide_eq_true c12
         try have c12b2 : (9223372036854775807 < (((((((a0_0 ++ (⟨#[32]⟩ : ByteArray)) ++ t216) ++ (⟨#[32]⟩ : ByteArray)) ++ a0_2) ++ (⟨#[32]⟩ : ByteArray)) ++ t217) ++ (⟨#[32]⟩ : ByteArray)).size + t218.size) = False := eq_false (Nat.not_lt.2 c12)
         have c12b3 : (9223372036854775807 < a0_0.size + 1 + t216.size + 1 + a0_2.size + 1 + t217.size + 1 + t218.size) = False := eq_false (Nat.not_lt.2 (by have h_ := c12; simp only [ByteArray.size_append] at h_; exact h_))
         by_cases c13 : ((((((((a0_0 ++ (⟨#[32]⟩ : ByteArray)) ++ t216) ++ (⟨#[32]⟩ : ByteArray)) ++ a0_2) ++ (⟨#[32]⟩ : ByteArray)) ++ t217) ++ (⟨#[32]⟩ : ByteArray)) ++ t218).size + 1 ≤ 9223372036854775807
         ·rw [if_pos c13] at H
          have c13b0 := eq_true c13
          have c13b1 := decide_eq_true c13
          try have c13b2 : (9223372036854775807 < ((((((((a0_0 ++ (⟨#[32]⟩ : ByteArray)) ++ t216) ++ (⟨#[32]⟩ : ByteArray)) ++ a0_2) ++ (⟨#[32]⟩ : ByteArray)) ++ t217) ++ (⟨#[32]⟩ : ByteArray)) ++ t218).size + 1) = False := eq_false (Nat.not_lt.2 c13)
          have c13b3 : (9223372036854775807 < a0_0.size + 1 + t216.size + 1 + a0_2.size + 1 + t217.size + 1 + t218.size + 1) = False := eq_false (Nat.not_lt.2 (by have h_ := c13; simp only [ByteArray.size_append] at h_; exact h_))
          obtain ⟨t219, A14, H⟩ := zO H
          by_cases c15 : (((((((((a0_0 ++ (⟨#[32]⟩ : ByteArray)) ++ t216) ++ (⟨#[32]⟩ : ByteArray)) ++ a0_2) ++ (⟨#[32]⟩ : ByteArray)) ++ t217) ++ (⟨#[32]⟩ : ByteArray)) ++ t218) ++ (⟨#[32]⟩ : ByteArray)).size + t219.size ≤ 9223372036854775807
          ·rw [if_pos c15] at H
           have c15b0 := eq_true c15
           have c15b1 := decide_eq_true c15
           try have c15b2 : (9223372036854775807 < (((((((((a0_0 ++ (⟨#[32]⟩ : ByteArray)) ++ t216) ++ (⟨#[32]⟩ : ByteArray)) ++ a0_2) ++ (⟨#[32]⟩ : ByteArray)) ++ t217) ++ (⟨#[32]⟩ : ByteArray)) ++ t218) ++ (⟨#[32]⟩ : ByteArray)).size + t219.size) = False := eq_false (Nat.not_lt.2 c15)
           have c15b3 : (9223372036854775807 < a0_0.size + 1 + t216.size + 1 + a0_2.size + 1 + t217.size + 1 + t218.size + 1 + t219.size) = False := eq_false (Nat.not_lt.2 (by have h_ := c15; simp only [ByteArray.size_append] at h_; exact h_))
           by_cases c16 : ((((((((((a0_0 ++ (⟨#[32]⟩ : ByteArray)) ++ t216) ++ (⟨#[32]⟩ : ByteArray)) ++ a0_2) ++ (⟨#[32]⟩ : ByteArray)) ++ t217) ++ (⟨#[32]⟩ : ByteArray)) ++ t218) ++ (⟨#[32]⟩ : ByteArray)) ++ t219).size + 1 ≤ 9223372036854775807
           ·rw [if_pos c16] at H
            have c16b0 := eq_true c16
            have c16b1 := decide_eq_true c16
            try have c16b2 : (9223372036854775807 < ((((((((((a0_0 ++ (⟨#[32]⟩ : ByteArray)) ++ t216) ++ (⟨#[32]⟩ : ByteArray)) ++ a0_2) ++ (⟨#[32]⟩ : ByteArray)) ++ t217) ++ (⟨#[32]⟩ : ByteArray)) ++ t218) ++ (⟨#[32]⟩ : ByteArray)) ++ t219).size + 1) = False := eq_false (Nat.not_lt.2 c16)
            have c16b3 : (9223372036854775807 < a0_0.size + 1 + t216.size + 1 + a0_2.size + 1 + t217.size + 1 + t218.size + 1 + t219.size + 1) = False := eq_false (Nat.not_lt.2 (by have h_ := c16; simp only [ByteArray.size_append] at h_; exact h_))
            obtain ⟨t220, A17, H⟩ := zO H
            by_cases c18 : (((((((((((a0_0 ++ (⟨#[32]⟩ : ByteArray)) ++ t216) ++ (⟨#[32]⟩ : ByteArray)) ++ a0_2) ++ (⟨#[32]⟩ : ByteArray)) ++ t217) ++ (⟨#[32]⟩ : ByteArray)) ++ t218) ++ (⟨#[32]⟩ : ByteArray)) ++ t219) ++ (⟨#[32]⟩ : ByteArray)).size + t220.size ≤ 9223372036854775807
            ·rw [if_pos c18] at H
             have c18b0 := eq_true c18
             have c18b1 := decide_eq_true c18
             try have c18b2 : (9223372036854775807 < (((((((((((a0_0 ++ (⟨#[32]⟩ : ByteArray)) ++ t216) ++ (⟨#[32]⟩ : ByteArray)) ++ a0_2) ++ (⟨#[32]⟩ : ByteArray)) ++ t217) ++ (⟨#[32]⟩ : ByteArray)) ++ t218) ++ (⟨#[32]⟩ : ByteArray)) ++ t219) ++ (⟨#[32]⟩ : ByteArray)).size + t220.size) = False := eq_false (Nat.not_lt.2 c18)
             have c18b3 : (9223372036854775807 < a0_0.size + 1 + t216.size + 1 + a0_2.size + 1 + t217.size + 1 + t218.size + 1 + t219.size + 1 + t220.size) = False := eq_false (Nat.not_lt.2 (by have h_ := c18; simp only [ByteArray.size_append] at h_; exact h_))
             by_cases c19 : ((((((((((((a0_0 ++ (⟨#[32]⟩ : ByteArray)) ++ t216) ++ (⟨#[32]⟩ : ByteArray)) ++ a0_2) ++ (⟨#[32]⟩ : ByteArray)) ++ t217) ++ (⟨#[32]⟩ : ByteArray)) ++ t218) ++ (⟨#[32]⟩ : ByteArray)) ++ t219) ++ (⟨#[32]⟩ : ByteArray)) ++ t220).size + 1 ≤ 9223372036854775807
             ·rw [if_pos c19] at H
              have c19b0 := eq_true c19
              have c19b1 := decide_eq_true c19
              try have c19b2 : (9223372036854775807 < ((((((((((((a0_0 ++ (⟨#[32]⟩ : ByteArray)) ++ t216) ++ (⟨#[32]⟩ : ByteArray)) ++ a0_2) ++ (⟨#[32]⟩ : ByteArray)) ++ t217) ++ (⟨#[32]⟩ : ByteArray)) ++ t218) ++ (⟨#[32]⟩ : ByteArray)) ++ t219) ++ (⟨#[32]⟩ : ByteArray)) ++ t220).size + 1) = False := eq_false (Nat.not_lt.2 c19)
              have c19b3 : (9223372036854775807 < a0_0.size + 1 + t216.size + 1 + a0_2.size + 1 + t217.size + 1 + t218.size + 1 + t219.size + 1 + t220.size + 1) = False := eq_false (Nat.not_lt.2 (by have h_ := c19; simp only [ByteArray.size_append] at h_; exact h_))
              obtain ⟨t221, A20, H⟩ := zO H
              by_cases c21 : (((((((((((((a0_0 ++ (⟨#[32]⟩ : ByteArray)) ++ t216) ++ (⟨#[32]⟩ : ByteArray)) ++ a0_2) ++ (⟨#[32]⟩ : ByteArray)) ++ t217) ++ (⟨#[32]⟩ : ByteArray)) ++ t218) ++ (⟨#[32]⟩ : ByteArray)) ++ t219) ++ (⟨#[32]⟩ : ByteArray)) ++ t220) ++ (⟨#[32]⟩ : ByteArray)).size + t221.size ≤ 9223372036854775807
              ·rw [if_pos c21] at H
               have c21b0 := eq_true c21
               have c21b1 := decide_eq_true c21
               try have c21b2 : (9223372036854775807 < (((((((((((((a0_0 ++ (⟨#[32]⟩ : ByteArray)) ++ t216) ++ (⟨#[32]⟩ : ByteArray)) ++ a0_2) ++ (⟨#[32]⟩ : ByteArray)) ++ t217) ++ (⟨#[32]⟩ : ByteArray)) ++ t218) ++ (⟨#[32]⟩ : ByteArray)) ++ t219) ++ (⟨#[32]⟩ : ByteArray)) ++ t220) ++ (⟨#[32]⟩ : ByteArray)).size + t221.size) = False := eq_false (Nat.not_lt.2 c21)
               have c21b3 : (9223372036854775807 < a0_0.size + 1 + t216.size + 1 + a0_2.size + 1 + t217.size + 1 + t218.size + 1 + t219.size + 1 + t220.size + 1 + t221.size) = False := eq_false (Nat.not_lt.2 (by have h_ := c21; simp only [ByteArray.size_append] at h_; exact h_))
               by_cases c22 : ((((((((((((((a0_0 ++ (⟨#[32]⟩ : ByteArray)) ++ t216) ++ (⟨#[32]⟩ : ByteArray)) ++ a0_2) ++ (⟨#[32]⟩ : ByteArray)) ++ t217) ++ (⟨#[32]⟩ : ByteArray)) ++ t218) ++ (⟨#[32]⟩ : ByteArray)) ++ t219) ++ (⟨#[32]⟩ : ByteArray)) ++ t220) ++ (⟨#[32]⟩ : ByteArray)) ++ t221).size + 1 ≤ 9223372036854775807
               ·rw [if_pos c22] at H
                have c22b0 := eq_true c22
                have c22b1 := decide_eq_true c22
                try have c22b2 : (9223372036854775807 < ((((((((((((((a0_0 ++ (⟨#[32]⟩ : ByteArray)) ++ t216) ++ (⟨#[32]⟩ : ByteArray)) ++ a0_2) ++ (⟨#[32]⟩ : ByteArray)) ++ t217) ++ (⟨#[32]⟩ : ByteArray)) ++ t218) ++ (⟨#[32]⟩ : ByteArray)) ++ t219) ++ (⟨#[32]⟩ : ByteArray)) ++ t220) ++ (⟨#[32]⟩ : ByteArray)) ++ t221).size + 1) = False := eq_false (Nat.not_lt.2 c22)
                have c22b3 : (9223372036854775807 < a0_0.size + 1 + t216.size + 1 + a0_2.size + 1 + t217.size + 1 + t218.size + 1 + t219.size + 1 + t220.size + 1 + t221.size + 1) = False := eq_false (Nat.not_lt.2 (by have h_ := c22; simp only [ByteArray.size_append] at h_; exact h_))
                obtain ⟨t222, A23, H⟩ := zO H
                by_cases c24 : (((((((((((((((a0_0 ++ (⟨#[32]⟩ : ByteArray)) ++ t216) ++ (⟨#[32]⟩ : ByteArray)) ++ a0_2) ++ (⟨#[32]⟩ : ByteArray)) ++ t217) ++ (⟨#[32]⟩ : ByteArray)) ++ t218) ++ (⟨#[32]⟩ : ByteArray)) ++ t219) ++ (⟨#[32]⟩ : ByteArray)) ++ t220) ++ (⟨#[32]⟩ : ByteArray)) ++ t221) ++ (⟨#[32]⟩ : ByteArray)).size + t222.size ≤ 9223372036854775807
                ·rw [if_pos c24] at H
                 have c24b0 := eq_true c24
                 have c24b1 := decide_eq_true c24
                 try have c24b2 : (9223372036854775807 < (((((((((((((((a0_0 ++ (⟨#[32]⟩ : ByteArray)) ++ t216) ++ (⟨#[32]⟩ : ByteArray)) ++ a0_2) ++ (⟨#[32]⟩ : ByteArray)) ++ t217) ++ (⟨#[32]⟩ : ByteArray)) ++ t218) ++ (⟨#[32]⟩ : ByteArray)) ++ t219) ++ (⟨#[32]⟩ : ByteArray)) ++ t220) ++ (⟨#[32]⟩ : ByteArray)) ++ t221) ++ (⟨#[32]⟩ : ByteArray)).size + t222.size) = False := eq_false (Nat.not_lt.2 c24)
                 have c24b3 : (9223372036854775807 < a0_0.size + 1 + t216.size + 1 + a0_2.size + 1 + t217.size + 1 + t218.size + 1 + t219.size + 1 + t220.size + 1 + t221.size + 1 + t222.size) = False := eq_false (Nat.not_lt.2 (by have h_ := c24; simp only [ByteArray.size_append] at h_; exact h_))
                 by_cases c25 : ((((((((((((((((a0_0 ++ (⟨#[32]⟩ : ByteArray)) ++ t216) ++ (⟨#[32]⟩ : ByteArray)) ++ a0_2) ++ (⟨#[32]⟩ : ByteArray)) ++ t217) ++ (⟨#[32]⟩ : ByteArray)) ++ t218) ++ (⟨#[32]⟩ : ByteArray)) ++ t219) ++ (⟨#[32]⟩ : ByteArray)) ++ t220) ++ (⟨#[32]⟩ : ByteArray)) ++ t221) ++ (⟨#[32]⟩ : ByteArray)) ++ t222).size + 1 ≤ 9223372036854775807
                 ·rw [if_pos c25] at H
                  have c25b0 := eq_true c25
                  have c25b1 := decide_eq_true c25
                  try have c25b2 : (9223372036854775807 < ((((((((((((((((a0_0 ++ (⟨#[32]⟩ : ByteArray)) ++ t216) ++ (⟨#[32]⟩ : ByteArray)) ++ a0_2) ++ (⟨#[32]⟩ : ByteArray)) ++ t217) ++ (⟨#[32]⟩ : ByteArray)) ++ t218) ++ (⟨#[32]⟩ : ByteArray)) ++ t219) ++ (⟨#[32]⟩ : ByteArray)) ++ t220) ++ (⟨#[32]⟩ : ByteArray)) ++ t221) ++ (⟨#[32]⟩ : ByteArray)) ++ t222).size + 1) = False := eq_false (Nat.not_lt.2 c25)
                  have c25b3 : (9223372036854775807 < a0_0.size + 1 + t216.size + 1 + a0_2.size + 1 + t217.size + 1 + t218.size + 1 + t219.size + 1 + t220.size + 1 + t221.size + 1 + t222.size + 1) = False := eq_false (Nat.not_lt.2 (by have h_ := c25; simp only [ByteArray.size_append] at h_; exact h_))
                  obtain rfl := Option.some.inj H
                  go_enter Tryd.func79, Tryd.ntmps79
                  try go_wp2_with (first | ((with_reducible refine gate_dst (N := 1) rfl ?_); refine zX (N := 1) (cs := #[.string a0_0, .string a0_1, .string a0_2, .bool a0_3, .string a0_4, .int .i64 a0_5, .bool a0_6, .int .i64 a0_7, .int .i64 a0_8]) (t := 39) rfl rfl ?hr zB ?_; (case hr => first | (go_simp; done) | (go_simp; rfl)); clear HB; intro gb215 w26 HB BK215 GW215; have GE215 := GW215))
                  replace BK215 := Aside0.mk (blk_drew BK215.out)
                  replace HB := Aside0.mk (below_drew1 HB.out)
                  refine start_ (n := 43) (S := fun w' => w'.cell? ⟨gb215, 0, none⟩ = some (.string a0_0) ∧ w'.cell? ⟨gb215, 1, none⟩ = some (.string a0_1) ∧ w'.cell? ⟨gb215, 2, none⟩ = some (.string a0_2) ∧ w'.cell? ⟨gb215, 3, none⟩ = some (.bool a0_3) ∧ w'.cell? ⟨gb215, 4, none⟩ = some (.string a0_4) ∧ w'.cell? ⟨gb215, 5, none⟩ = some (.int .i64 a0_5) ∧ w'.cell? ⟨gb215, 6, none⟩ = some (.bool a0_6) ∧ w'.cell? ⟨gb215, 7, none⟩ = some (.int .i64 a0_7) ∧ w'.cell? ⟨gb215, 8, none⟩ = some (.int .i64 a0_8)) (ds := []) #[false, false, false, false, false, false, false, false, false, false, false, false, false, false, false, false, false, false, false, false, false, false, false, false, false, false, false, false, false, false, false, false, false, false, false, false, false, false, false, false, false, false, false] (by kernel_rfl) rfl rfl ⟨(blk_cell BK215.out 0).trans rfl, (blk_cell BK215.out 1).trans rfl, (blk_cell BK215.out 2).trans rfl, (blk_cell BK215.out 3).trans rfl, (blk_cell BK215.out 4).trans rfl, (blk_cell BK215.out 5).trans rfl, (blk_cell BK215.out 6).trans rfl, (blk_cell BK215.out 7).trans rfl, (blk_cell BK215.out 8).trans rfl⟩ (fun hHeld => ?_); refine with_tabW spec_l9Cookie.tab1 spec_l9Cookie.bits1 (fun HT_ HW_ => ?_)
                  generalize w26.drew = w27 at BK215 HB hHeld ⊢
                  refine pure_ (i := 0) (N := some 3) (v := ?_) (a' := ?_) #[true, false, false, false, false, false, false, false, false, false, false, false, false, false, false, false, false, false, false, false, false, false, false, false, false, false, false, false, false, false, false, false, false, false, false, false, false, false, false, false, false, false, false] rfl rfl (any_of HT_.out (by kernel_rfl)) (fun _ _ _ h => h) (Or.inl ⟨by rfl, ?_⟩) ?_ ?_
                  rotate_left
                  ·intro w'
                   go_simp
                   with_reducible rfl
                  rotate_left
                  ·simp only [Act.put, List.setIfInBounds_toArray, List.set_cons_zero, List.set_cons_succ, i64_w, i32_w]
                   rfl
                  refine pure_ (i := 3) (N := some 6) (v := ?_) (a' := ?_) #[true, false, false, true, false, false, false, false, false, false, false, false, false, false, false, false, false, false, false, false, false, false, false, false, false, false, false, false, false, false, false, false, false, false, false, false, false, false, false, false, false, false, false] rfl rfl (any_of HT_.out (by kernel_rfl)) (fun _ _ _ h => h) (Or.inl ⟨by rfl, ?_⟩) ?_ ?_
                  rotate_left
                  ·intro w'
                   go_simp
                   with_reducible rfl
                  rotate_left
                  ·simp only [Act.put, List.setIfInBounds_toArray, List.set_cons_zero, List.set_cons_succ, i64_w, i32_w]
                   rfl
                  refine pure_ (i := 8) (N := some 11) (v := ?_) (a' := ?_) #[true, false, false, true, false, false, false, false, true, false, false, false, false, false, false, false, false, false, false, false, false, false, false, false, false, false, false, false, false, false, false, false, false, false, false, false, false, false, false, false, false, false, false] rfl rfl (any_of HT_.out (by kernel_rfl)) (fun _ _ _ h => h) (Or.inl ⟨by rfl, ?_⟩) ?_ ?_
                  rotate_left
                  ·intro w'
                   go_simp
                   with_reducible rfl
                  rotate_left
                  ·simp only [Act.put, List.setIfInBounds_toArray, List.set_cons_zero, List.set_cons_succ, i64_w, i32_w]
                   rfl
                  refine pure_ (i := 12) (N := some 15) (v := ?_) (a' := ?_) #[true, false, false, true, false, false, false, false, true, false, false, false, true, false, false, false, false, false, false, false, false, false, false, false, false, false, false, false, false, false, false, false, false, false, false, false, false, false, false, false, false, false, false] rfl rfl (any_of HT_.out (by kernel_rfl)) (fun _ _ _ h => h) (Or.inl ⟨by rfl, ?_⟩) ?_ ?_
                  rotate_left
                  ·intro w'
                   go_simp
                   with_reducible rfl
                  rotate_left
                  ·simp only [Act.put, List.setIfInBounds_toArray, List.set_cons_zero, List.set_cons_succ, i64_w, i32_w]
                   rfl
                  refine pure_ (i := 17) (N := some 20) (v := ?_) (a' := ?_) #[true, false, false, true, false, false, false, false, true, false, false, false, true, false, false, false, false, true, false, false, false, false, false, false, false, false, false, false, false, false, false, false, false, false, false, false, false, false, false, false, false, false, false] rfl rfl (any_of HT_.out (by kernel_rfl)) (fun _ _ _ h => h) (Or.inl ⟨by rfl, ?_⟩) ?_ ?_
                  rotate_left
                  ·intro w'
                   go_simp
                   with_reducible rfl
                  rotate_left
                  ·simp only [Act.put, List.setIfInBounds_toArray, List.set_cons_zero, List.set_cons_succ, i64_w, i32_w]
                   rfl
                  refine pure_ (i := 22) (N := some 25) (v := ?_) (a' := ?_) #[true, false, false, true, false, false, false, false, true, false, false, false, true, false, false, false, false, true, false, false, false, false, true, false, false, false, false, false, false, false, false, false, false, false, false, false, false, false, false, false, false, false, false] rfl rfl (any_of HT_.out (by kernel_rfl)) (fun _ _ _ h => h) (Or.inl ⟨by rfl, ?_⟩) ?_ ?_
                  rotate_left
                  ·intro w'
                   go_simp
                   with_reducible rfl
                  rotate_left
                  ·simp only [Act.put, List.setIfInBounds_toArray, List.set_cons_zero, List.set_cons_succ, i64_w, i32_w]
                   rfl
                  refine pure_ (i := 27) (N := some 30) (v := ?_) (a' := ?_) #[true, false, false, true, false, false, false, false, true, false, false, false, true, false, false, false, false, true, false, false, false, false, true, false, false, false, false, true, false, false, false, false, false, false, false, false, false, false, false, false, false, false, false] rfl rfl (any_of HT_.out (by kernel_rfl)) (fun _ _ _ h => h) (Or.inl ⟨by rfl, ?_⟩) ?_ ?_
                  rotate_left
                  ·intro w'
                   go_simp
                   with_reducible rfl
                  rotate_left
                  ·simp only [Act.put, List.setIfInBounds_toArray, List.set_cons_zero, List.set_cons_succ, i64_w, i32_w]
                   rfl
                  refine pure_ (i := 32) (N := some 35) (v := ?_) (a' := ?_) #[true, false, false, true, false, false, false, false, true, false, false, false, true, false, false, false, false, true, false, false, false, false, true, false, false, false, false, true, false, false, false, false, true, false, false, false, false, false, false, false, false, false, false] rfl rfl (any_of HT_.out (by kernel_rfl)) (fun _ _ _ h => h) (Or.inl ⟨by rfl, ?_⟩) ?_ ?_
                  rotate_left
                  ·intro w'
                   go_simp
                   with_reducible rfl
                  rotate_left
                  ·simp only [Act.put, List.setIfInBounds_toArray, List.set_cons_zero, List.set_cons_succ, i64_w, i32_w]
                   rfl
                  refine pure_ (i := 37) (N := some 40) (v := ?_) (a' := ?_) #[true, false, false, true, false, false, false, false, true, false, false, false, true, false, false, false, false, true, false, false, false, false, true, false, false, false, false, true, false, false, false, false, true, false, false, false, false, true, false, false, false, false, false] rfl rfl (any_of HT_.out (by kernel_rfl)) (fun _ _ _ h => h) (Or.inl ⟨by rfl, ?_⟩) ?_ ?_
                  rotate_left
                  ·intro w'
                   go_simp
                   with_reducible rfl
                  rotate_left
                  ·simp only [Act.put, List.setIfInBounds_toArray, List.set_cons_zero, List.set_cons_succ, i64_w, i32_w]
                   rfl
                  refine take_ (i := 1) (N := some 4) (v := ?_) (a' := ?_) #[true, true, false, true, false, false, false, false, true, false, false, false, true, false, false, false, false, true, false, false, false, false, true, false, false, false, false, true, false, false, false, false, true, false, false, false, false, true, false, false, false, false, false] rfl rfl (take_ofW HT_.out HW_.out (by kernel_rfl)) (fun _ _ _ h => h) (Or.inl ⟨by rfl, ?_⟩) hHeld ?_ ?_
                  rotate_left
                  ·rintro w' ⟨s0, s1, s2, s3, s4, s5, s6, s7, s8⟩
                   go_simp
                   with_reducible rfl
                  rotate_left
                  ·simp only [Act.put, List.setIfInBounds_toArray, List.set_cons_zero, List.set_cons_succ, i64_w, i32_w]
                   rfl
                  refine pure_ (i := 2) (N := some 5) (v := ?_) (a' := ?_) #[true, true, true, true, false, false, false, false, true, false, false, false, true, false, false, false, false, true, false, false, false, false, true, false, false, false, false, true, false, false, false, false, true, false, false, false, false, true, false, false, false, false, false] rfl rfl (any_of HT_.out (by kernel_rfl)) (fun _ _ _ h => h) (Or.inl ⟨by rfl, ?_⟩) ?_ ?_
                  rotate_left
                  ·intro w'
                   go_simp
                   with_reducible rfl
                  rotate_left
                  ·simp only [Act.put, List.setIfInBounds_toArray, List.set_cons_zero, List.set_cons_succ, i64_w, i32_w]
                   rfl
                  refine take_ (i := 4) (N := some 7) (v := ?_) (a' := ?_) #[true, true, true, true, true, false, false, false, true, false, false, false, true, false, false, false, false, true, false, false, false, false, true, false, false, false, false, true, false, false, false, false, true, false, false, false, false, true, false, false, false, false, false] rfl rfl (take_ofW HT_.out HW_.out (by kernel_rfl)) (fun _ _ _ h => h) (Or.inl ⟨by rfl, ?_⟩) hHeld ?_ ?_
                  rotate_left
                  ·rintro w' ⟨s0, s1, s2, s3, s4, s5, s6, s7, s8⟩
                   go_simp
                   with_reducible rfl
                  rotate_left
                  ·simp only [Act.put, List.setIfInBounds_toArray, List.set_cons_zero, List.set_cons_succ, i64_w, i32_w]
                   rfl
                  refine take_ (i := 9) (N := some 12) (v := ?_) (a' := ?_) #[true, true, true, true, true, false, false, false, true, true, false, false, true, false, false, false, false, true, false, false, false, false, true, false, false, false, false, true, false, false, false, false, true, false, false, false, false, true, false, false, false, false, false] rfl rfl (take_ofW HT_.out HW_.out (by kernel_rfl)) (fun _ _ _ h => h) (Or.inl ⟨by rfl, ?_⟩) hHeld ?_ ?_
                  rotate_left
                  ·rintro w' ⟨s0, s1, s2, s3, s4, s5, s6, s7, s8⟩
                   go_simp
                   with_reducible rfl
                  rotate_left
                  ·simp only [Act.put, List.setIfInBounds_toArray, List.set_cons_zero, List.set_cons_succ, i64_w, i32_w]
                   rfl
                  refine take_ (i := 13) (N := some 16) (v := ?_) (a' := ?_) #[true, true, true, true, true, false, false, false, true, true, false, false, true, true, false, false, false, true, false, false, false, false, true, false, false, false, false, true, false, false, false, false, true, false, false, false, false, true, false, false, false, false, false] rfl rfl (take_ofW HT_.out HW_.out (by kernel_rfl)) (fun _ _ _ h => h) (Or.inl ⟨by rfl, ?_⟩) hHeld ?_ ?_
                  rotate_left
                  ·rintro w' ⟨s0, s1, s2, s3, s4, s5, s6, s7, s8⟩
                   go_simp
                   with_reducible rfl
                  rotate_left
                  ·simp only [Act.put, List.setIfInBounds_toArray, List.set_cons_zero, List.set_cons_succ, i64_w, i32_w]
                   rfl
                  refine take_ (i := 18) (N := some 21) (v := ?_) (a' := ?_) #[true, true, true, true, true, false, false, false, true, true, false, false, true, true, false, false, false, true, true, false, false, false, true, false, false, false, false, true, false, false, false, false, true, false, false, false, false, true, false, false, false, false, false] rfl rfl (take_ofW HT_.out HW_.out (by kernel_rfl)) (fun _ _ _ h => h) (Or.inl ⟨by rfl, ?_⟩) hHeld ?_ ?_
                  rotate_left
                  ·rintro w' ⟨s0, s1, s2, s3, s4, s5, s6, s7, s8⟩
                   go_simp
                   with_reducible rfl
                  rotate_left
                  ·simp only [Act.put, List.setIfInBounds_toArray, List.set_cons_zero, List.set_cons_succ, i64_w, i32_w]
                   rfl
                  refine take_ (i := 23) (N := some 26) (v := ?_) (a' := ?_) #[true, true, true, true, true, false, false, false, true, true, false, false, true, true, false, false, false, true, true, false, false, false, true, true, false, false, false, true, false, false, false, false, true, false, false, false, false, true, false, false, false, false, false] rfl rfl (take_ofW HT_.out HW_.out (by kernel_rfl)) (fun _ _ _ h => h) (Or.inl ⟨by rfl, ?_⟩) hHeld ?_ ?_
                  rotate_left
                  ·rintro w' ⟨s0, s1, s2, s3, s4, s5, s6, s7, s8⟩
                   go_simp
                   with_reducible rfl
                  rotate_left
                  ·simp only [Act.put, List.setIfInBounds_toArray, List.set_cons_zero, List.set_cons_succ, i64_w, i32_w]
                   rfl
                  refine take_ (i := 28) (N := some 31) (v := ?_) (a' := ?_) #[true, true, true, true, true, false, false, false, true, true, false, false, true, true, false, false, false, true, true, false, false, false, true, true, false, false, false, true, true, false, false, false, true, false, false, false, false, true, false, false, false, false, false] rfl rfl (take_ofW HT_.out HW_.out (by kernel_rfl)) (fun _ _ _ h => h) (Or.inl ⟨by rfl, ?_⟩) hHeld ?_ ?_
                  rotate_left
                  ·rintro w' ⟨s0, s1, s2, s3, s4, s5, s6, s7, s8⟩
                   go_simp
                   with_reducible rfl
                  rotate_left
                  ·simp only [Act.put, List.setIfInBounds_toArray, List.set_cons_zero, List.set_cons_succ, i64_w, i32_w]
                   rfl
                  refine take_ (i := 33) (N := some 36) (v := ?_) (a' := ?_) #[true, true, true, true, true, false, false, false, true, true, false, false, true, true, false, false, false, true, true, false, false, false, true, true, false, false, false, true, true, false, false, false, true, true, false, false, false, true, false, false, false, false, false] rfl rfl (take_ofW HT_.out HW_.out (by kernel_rfl)) (fun _ _ _ h => h) (Or.inl ⟨by rfl, ?_⟩) hHeld ?_ ?_
                  rotate_left
                  ·rintro w' ⟨s0, s1, s2, s3, s4, s5, s6, s7, s8⟩
                   go_simp
                   with_reducible rfl
                  rotate_left
                  ·simp only [Act.put, List.setIfInBounds_toArray, List.set_cons_zero, List.set_cons_succ, i64_w, i32_w]
                   rfl
                  refine take_ (i := 38) (N := some 41) (v := ?_) (a' := ?_) #[true, true, true, true, true, false, false, false, true, true, false, false, true, true, false, false, false, true, true, false, false, false, true, true, false, false, false, true, true, false, false, false, true, true, false, false, false, true, true, false, false, false, false] rfl rfl (take_ofW HT_.out HW_.out (by kernel_rfl)) (fun _ _ _ h => h) (Or.inl ⟨by rfl, ?_⟩) hHeld ?_ ?_
                  rotate_left
                  ·rintro w' ⟨s0, s1, s2, s3, s4, s5, s6, s7, s8⟩
                   go_simp
                   with_reducible rfl
                  rotate_left
                  ·simp only [Act.put, List.setIfInBounds_toArray, List.set_cons_zero, List.set_cons_succ, i64_w, i32_w]
                   rfl
                  refine one_ (i := 5) (N := some 8) #[true, true, true, true, true, true, false, false, true, true, false, false, true, true, false, false, false, true, true, false, false, false, true, true, false, false, false, true, true, false, false, false, true, true, false, false, false, true, true, false, false, false, false] rfl rfl (one_of HT_.out (by kernel_rfl)) (by decide) (fun K hK => ?_)
                  refine goes_ Tryd.func97 (by kernel_rfl) rfl #[.string a0_1] (by rfl) rfl rfl zM ?_
                  with_reducible refine (spec_l9Hex.calls k a0_1 t216 _ A3.out).mono ?_
                  rintro e w28 ⟨rfl, hb⟩
                  refine ⟨_, rfl, ?_⟩
                  replace BK215 := zK BK215 hb
                  replace HB := zT hb
                  (try clear hb)
                  refine hK.out _ _ ⟨(blk_cell BK215.out 0).trans rfl, (blk_cell BK215.out 1).trans rfl, (blk_cell BK215.out 2).trans rfl, (blk_cell BK215.out 3).trans rfl, (blk_cell BK215.out 4).trans rfl, (blk_cell BK215.out 5).trans rfl, (blk_cell BK215.out 6).trans rfl, (blk_cell BK215.out 7).trans rfl, (blk_cell BK215.out 8).trans rfl⟩ (fun hHeld => ?_)
                  clear hK K
                  refine norm_ (a' := ?_) ?_ ?_
                  rotate_left
                  ·show Act.put _ (some 8) _ = _
                   simp only [Act.put, List.setIfInBounds_toArray, List.set_cons_zero, List.set_cons_succ, i64_w, i32_w]
                   rfl
                  refine pure_ (i := 6) (N := some 9) (v := ?_) (a' := ?_) #[true, true, true, true, true, true, true, false, true, true, false, false, true, true, false, false, false, true, true, false, false, false, true, true, false, false, false, true, true, false, false, false, true, true, false, false, false, true, true, false, false, false, false] rfl rfl (any_of HT_.out (by kernel_rfl)) (fun _ _ _ h => h) (Or.inl ⟨by rfl, ?_⟩) ?_ ?_
                  rotate_left
                  ·intro w'
                   go_simp
                   with_reducible rfl
                  rotate_left
                  ·simp only [Act.put, List.setIfInBounds_toArray, List.set_cons_zero, List.set_cons_succ, i64_w, i32_w]
                   rfl
                  refine pure_ (i := 7) (N := some 10) (v := ?_) (a' := ?_) #[true, true, true, true, true, true, true, true, true, true, false, false, true, true, false, false, false, true, true, false, false, false, true, true, false, false, false, true, true, false, false, false, true, true, false, false, false, true, true, false, false, false, false] rfl rfl (any_of HT_.out (by kernel_rfl)) (fun _ _ _ h => h) (Or.inl ⟨by rfl, ?_⟩) ?_ ?_
                  rotate_left
                  ·intro w'
                   go_simp
                   with_reducible rfl
                  rotate_left
                  ·simp only [Act.put, List.setIfInBounds_toArray, List.set_cons_zero, List.set_cons_succ, i64_w, i32_w]
                   rfl
                  refine pure_ (i := 10) (N := some 13) (v := ?_) (a' := ?_) #[true, true, true, true, true, true, true, true, true, true, true, false, true, true, false, false, false, true, true, false, false, false, true, true, false, false, false, true, true, false, false, false, true, true, false, false, false, true, true, false, false, false, false] rfl rfl (any_of HT_.out (by kernel_rfl)) (fun _ _ _ h => h) (Or.inl ⟨by rfl, ?_⟩) ?_ ?_
                  rotate_left
                  ·intro w'
                   go_simp
                   with_reducible rfl
                  rotate_left
                  ·simp only [Act.put, List.setIfInBounds_toArray, List.set_cons_zero, List.set_cons_succ, i64_w, i32_w]
                   rfl
                  refine pure_ (i := 11) (N := some 14) (v := ?_) (a' := ?_) #[true, true, true, true, true, true, true, true, true, true, true, true, true, true, false, false, false, true, true, false, false, false, true, true, false, false, false, true, true, false, false, false, true, true, false, false, false, true, true, false, false, false, false] rfl rfl (any_of HT_.out (by kernel_rfl)) (fun _ _ _ h => h) (Or.inl ⟨by rfl, ?_⟩) ?_ ?_
                  rotate_left
                  ·intro w'
                   go_simp
                   with_reducible rfl
                  rotate_left
                  ·simp only [Act.put, List.setIfInBounds_toArray, List.set_cons_zero, List.set_cons_succ, i64_w, i32_w]
                   rfl
                  refine one_ (i := 14) (N := some 17) #[true, true, true, true, true, true, true, true, true, true, true, true, true, true, true, false, false, true, true, false, false, false, true, true, false, false, false, true, true, false, false, false, true, true, false, false, false, true, true, false, false, false, false] rfl rfl (one_of HT_.out (by kernel_rfl)) (by decide) (fun K hK => ?_)
                  refine goes_ Tryd.func98 (by kernel_rfl) rfl #[.bool a0_3] (by rfl) rfl rfl zM ?_
                  with_reducible refine (spec_l9Bit.calls a0_3 t217 _ A8.out).mono ?_
                  rintro e w' ⟨rfl, ⟨nd, rfl⟩⟩
                  refine ⟨_, rfl, ?_⟩
                  refine hK.out _ _ ⟨(blk_cell BK215.out 0).trans rfl, (blk_cell BK215.out 1).trans rfl, (blk_cell BK215.out 2).trans rfl, (blk_cell BK215.out 3).trans rfl, (blk_cell BK215.out 4).trans rfl, (blk_cell BK215.out 5).trans rfl, (blk_cell BK215.out 6).trans rfl, (blk_cell BK215.out 7).trans rfl, (blk_cell BK215.out 8).trans rfl⟩ (fun hHeld => ?_)
                  clear hK K
                  refine norm_ (a' := ?_) ?_ ?_
                  rotate_left
                  ·show Act.put _ (some 17) _ = _
                   simp only [Act.put, List.setIfInBounds_toArray, List.set_cons_zero, List.set_cons_succ, i64_w, i32_w]
                   rfl
                  refine pure_ (i := 15) (N := some 18) (v := ?_) (a' := ?_) #[true, true, true, true, true, true, true, true, true, true, true, true, true, true, true, true, false, true, true, false, false, false, true, true, false, false, false, true, true, false, false, false, true, true, false, false, false, true, true, false, false, false, false] rfl rfl (any_of HT_.out (by kernel_rfl)) (fun _ _ _ h => h) (Or.inl ⟨by rfl, ?_⟩) ?_ ?_
                  rotate_left
                  ·intro w'
                   go_simp
                   with_reducible rfl
                  rotate_left
                  ·simp only [Act.put, List.setIfInBounds_toArray, List.set_cons_zero, List.set_cons_succ, i64_w, i32_w]
                   rfl
                  refine pure_ (i := 16) (N := some 19) (v := ?_) (a' := ?_) #[true, true, true, true, true, true, true, true, true, true, true, true, true, true, true, true, true, true, true, false, false, false, true, true, false, false, false, true, true, false, false, false, true, true, false, false, false, true, true, false, false, false, false] rfl rfl (any_of HT_.out (by kernel_rfl)) (fun _ _ _ h => h) (Or.inl ⟨by rfl, ?_⟩) ?_ ?_
                  rotate_left
                  ·intro w'
                   go_simp
                   with_reducible rfl
                  rotate_left
                  ·simp only [Act.put, List.setIfInBounds_toArray, List.set_cons_zero, List.set_cons_succ, i64_w, i32_w]
                   rfl
                  refine one_ (i := 19) (N := some 22) #[true, true, true, true, true, true, true, true, true, true, true, true, true, true, true, true, true, true, true, true, false, false, true, true, false, false, false, true, true, false, false, false, true, true, false, false, false, true, true, false, false, false, false] rfl rfl (one_of HT_.out (by kernel_rfl)) (by decide) (fun K hK => ?_)
                  refine goes_ Tryd.func97 (by kernel_rfl) rfl #[.string a0_4] (by rfl) rfl rfl zM ?_
                  with_reducible refine (spec_l9Hex.calls k a0_4 t218 _ A11.out).mono ?_
                  rintro e w29 ⟨rfl, hb⟩
                  refine ⟨_, rfl, ?_⟩
                  replace BK215 := zK BK215 hb
                  replace HB := zT hb
                  (try clear hb)
                  refine hK.out _ _ ⟨(blk_cell BK215.out 0).trans rfl, (blk_cell BK215.out 1).trans rfl, (blk_cell BK215.out 2).trans rfl, (blk_cell BK215.out 3).trans rfl, (blk_cell BK215.out 4).trans rfl, (blk_cell BK215.out 5).trans rfl, (blk_cell BK215.out 6).trans rfl, (blk_cell BK215.out 7).trans rfl, (blk_cell BK215.out 8).trans rfl⟩ (fun hHeld => ?_)
                  clear hK K
                  refine norm_ (a' := ?_) ?_ ?_
                  rotate_left
                  ·show Act.put _ (some 22) _ = _
                   simp only [Act.put, List.setIfInBounds_toArray, List.set_cons_zero, List.set_cons_succ, i64_w, i32_w]
                   rfl
                  refine pure_ (i := 20) (N := some 23) (v := ?_) (a' := ?_) #[true, true, true, true, true, true, true, true, true, true, true, true, true, true, true, true, true, true, true, true, true, false, true, true, false, false, false, true, true, false, false, false, true, true, false, false, false, true, true, false, false, false, false] rfl rfl (any_of HT_.out (by kernel_rfl)) (fun _ _ _ h => h) (Or.inl ⟨by rfl, ?_⟩) ?_ ?_
                  rotate_left
                  ·intro w'
                   go_simp
                   with_reducible rfl
                  rotate_left
                  ·simp only [Act.put, List.setIfInBounds_toArray, List.set_cons_zero, List.set_cons_succ, i64_w, i32_w]
                   rfl
                  refine pure_ (i := 21) (N := some 24) (v := ?_) (a' := ?_) #[true, true, true, true, true, true, true, true, true, true, true, true, true, true, true, true, true, true, true, true, true, true, true, true, false, false, false, true, true, false, false, false, true, true, false, false, false, true, true, false, false, false, false] rfl rfl (any_of HT_.out (by kernel_rfl)) (fun _ _ _ h => h) (Or.inl ⟨by rfl, ?_⟩) ?_ ?_
                  rotate_left
                  ·intro w'
                   go_simp
                   with_reducible rfl
                  rotate_left
                  ·simp only [Act.put, List.setIfInBounds_toArray, List.set_cons_zero, List.set_cons_succ, i64_w, i32_w]
                   rfl
                  refine one_ (i := 24) (N := some 27) #[true, true, true, true, true, true, true, true, true, true, true, true, true, true, true, true, true, true, true, true, true, true, true, true, true, false, false, true, true, false, false, false, true, true, false, false, false, true, true, false, false, false, false] rfl rfl (one_of HT_.out (by kernel_rfl)) (by decide) (fun K hK => ?_)
                  refine goes_ Tryd.func99 (by kernel_rfl) rfl #[.int .i64 a0_5] (by rfl) rfl rfl zM ?_
                  with_reducible refine (spec_l1Dec.calls k a0_5 t219 _ A14.out).mono ?_
                  rintro e w30 ⟨rfl, hb⟩
                  refine ⟨_, rfl, ?_⟩
                  replace BK215 := zK BK215 hb
                  replace HB := zT hb
                  (try clear hb)
                  refine hK.out _ _ ⟨(blk_cell BK215.out 0).trans rfl, (blk_cell BK215.out 1).trans rfl, (blk_cell BK215.out 2).trans rfl, (blk_cell BK215.out 3).trans rfl, (blk_cell BK215.out 4).trans rfl, (blk_cell BK215.out 5).trans rfl, (blk_cell BK215.out 6).trans rfl, (blk_cell BK215.out 7).trans rfl, (blk_cell BK215.out 8).trans rfl⟩ (fun hHeld => ?_)
                  clear hK K
                  refine norm_ (a' := ?_) ?_ ?_
                  rotate_left
                  ·show Act.put _ (some 27) _ = _
                   simp only [Act.put, List.setIfInBounds_toArray, List.set_cons_zero, List.set_cons_succ, i64_w, i32_w]
                   rfl
                  refine pure_ (i := 25) (N := some 28) (v := ?_) (a' := ?_) #[true, true, true, true, true, true, true, true, true, true, true, true, true, true, true, true, true, true, true, true, true, true, true, true, true, true, false, true, true, false, false, false, true, true, false, false, false, true, true, false, false, false, false] rfl rfl (any_of HT_.out (by kernel_rfl)) (fun _ _ _ h => h) (Or.inl ⟨by rfl, ?_⟩) ?_ ?_
                  rotate_left
                  ·intro w'
                   go_simp
                   with_reducible rfl
                  rotate_left
                  ·simp only [Act.put, List.setIfInBounds_toArray, List.set_cons_zero, List.set_cons_succ, i64_w, i32_w]
                   rfl
                  refine pure_ (i := 26) (N := some 29) (v := ?_) (a' := ?_) #[true, true, true, true, true, true, true, true, true, true, true, true, true, true, true, true, true, true, true, true, true, true, true, true, true, true, true, true, true, false, false, false, true, true, false, false, false, true, true, false, false, false, false] rfl rfl (any_of HT_.out (by kernel_rfl)) (fun _ _ _ h => h) (Or.inl ⟨by rfl, ?_⟩) ?_ ?_
                  rotate_left
                  ·intro w'
                   go_simp
                   with_reducible rfl
                  rotate_left
                  ·simp only [Act.put, List.setIfInBounds_toArray, List.set_cons_zero, List.set_cons_succ, i64_w, i32_w]
                   rfl
                  refine one_ (i := 29) (N := some 32) #[true, true, true, true, true, true, true, true, true, true, true, true, true, true, true, true, true, true, true, true, true, true, true, true, true, true, true, true, true, true, false, false, true, true, false, false, false, true, true, false, false, false, false] rfl rfl (one_of HT_.out (by kernel_rfl)) (by decide) (fun K hK => ?_)
                  refine goes_ Tryd.func98 (by kernel_rfl) rfl #[.bool a0_6] (by rfl) rfl rfl zM ?_
                  with_reducible refine (spec_l9Bit.calls a0_6 t220 _ A17.out).mono ?_
                  rintro e w' ⟨rfl, ⟨nd, rfl⟩⟩
                  refine ⟨_, rfl, ?_⟩
                  refine hK.out _ _ ⟨(blk_cell BK215.out 0).trans rfl, (blk_cell BK215.out 1).trans rfl, (blk_cell BK215.out 2).trans rfl, (blk_cell BK215.out 3).trans rfl, (blk_cell BK215.out 4).trans rfl, (blk_cell BK215.out 5).trans rfl, (blk_cell BK215.out 6).trans rfl, (blk_cell BK215.out 7).trans rfl, (blk_cell BK215.out 8).trans rfl⟩ (fun hHeld => ?_)
                  clear hK K
                  refine norm_ (a' := ?_) ?_ ?_
                  rotate_left
                  ·show Act.put _ (some 32) _ = _
                   simp only [Act.put, List.setIfInBounds_toArray, List.set_cons_zero, List.set_cons_succ, i64_w, i32_w]
                   rfl
                  refine pure_ (i := 30) (N := some 33) (v := ?_) (a' := ?_) #[true, true, true, true, true, true, true, true, true, true, true, true, true, true, true, true, true, true, true, true, true, true, true, true, true, true, true, true, true, true, true, false, true, true, false, false, false, true, true, false, false, false, false] rfl rfl (any_of HT_.out (by kernel_rfl)) (fun _ _ _ h => h) (Or.inl ⟨by rfl, ?_⟩) ?_ ?_
                  rotate_left
                  ·intro w'
                   go_simp
                   with_reducible rfl
                  rotate_left
                  ·simp only [Act.put, List.setIfInBounds_toArray, List.set_cons_zero, List.set_cons_succ, i64_w, i32_w]
                   rfl
                  refine pure_ (i := 31) (N := some 34) (v := ?_) (a' := ?_) #[true, true, true, true, true, true, true, true, true, true, true, true, true, true, true, true, true, true, true, true, true, true, true, true, true, true, true, true, true, true, true, true, true, true, false, false, false, true, true, false, false, false, false] rfl rfl (any_of HT_.out (by kernel_rfl)) (fun _ _ _ h => h) (Or.inl ⟨by rfl, ?_⟩) ?_ ?_
                  rotate_left
                  ·intro w'
                   go_simp
                   with_reducible rfl
                  rotate_left
                  ·simp only [Act.put, List.setIfInBounds_toArray, List.set_cons_zero, List.set_cons_succ, i64_w, i32_w]
                   rfl
                  refine one_ (i := 34) (N := some 37) #[true, true, true, true, true, true, true, true, true, true, true, true, true, true, true, true, true, true, true, true, true, true, true, true, true, true, true, true, true, true, true, true, true, true, true, false, false, true, true, false, false, false, false] rfl rfl (one_of HT_.out (by kernel_rfl)) (by decide) (fun K hK => ?_)
                  refine goes_ Tryd.func99 (by kernel_rfl) rfl #[.int .i64 a0_7] (by rfl) rfl rfl zM ?_
                  with_reducible refine (spec_l1Dec.calls k a0_7 t221 _ A20.out).mono ?_
                  rintro e w31 ⟨rfl, hb⟩
                  refine ⟨_, rfl, ?_⟩
                  replace BK215 := zK BK215 hb
                  replace HB := zT hb
                  (try clear hb)
                  refine hK.out _ _ ⟨(blk_cell BK215.out 0).trans rfl, (blk_cell BK215.out 1).trans rfl, (blk_cell BK215.out 2).trans rfl, (blk_cell BK215.out 3).trans rfl, (blk_cell BK215.out 4).trans rfl, (blk_cell BK215.out 5).trans rfl, (blk_cell BK215.out 6).trans rfl, (blk_cell BK215.out 7).trans rfl, (blk_cell BK215.out 8).trans rfl⟩ (fun hHeld => ?_)
                  clear hK K
                  refine norm_ (a' := ?_) ?_ ?_
                  rotate_left
                  ·show Act.put _ (some 37) _ = _
                   simp only [Act.put, List.setIfInBounds_toArray, List.set_cons_zero, List.set_cons_succ, i64_w, i32_w]
                   rfl
                  refine pure_ (i := 35) (N := some 38) (v := ?_) (a' := ?_) #[true, true, true, true, true, true, true, true, true, true, true, true, true, true, true, true, true, true, true, true, true, true, true, true, true, true, true, true, true, true, true, true, true, true, true, true, false, true, true, false, false, false, false] rfl rfl (any_of HT_.out (by kernel_rfl)) (fun _ _ _ h => h) (Or.inl ⟨by rfl, ?_⟩) ?_ ?_
                  rotate_left
                  ·intro w'
                   go_simp
                   with_reducible rfl
                  rotate_left
                  ·simp only [Act.put, List.setIfInBounds_toArray, List.set_cons_zero, List.set_cons_succ, i64_w, i32_w]
                   rfl
                  refine pure_ (i := 36) (N := some 39) (v := ?_) (a' := ?_) #[true, true, true, true, true, true, true, true, true, true, true, true, true, true, true, true, true, true, true, true, true, true, true, true, true, true, true, true, true, true, true, true, true, true, true, true, true, true, true, false, false, false, false] rfl rfl (any_of HT_.out (by kernel_rfl)) (fun _ _ _ h => h) (Or.inl ⟨by rfl, ?_⟩) ?_ ?_
                  rotate_left
                  ·intro w'
                   go_simp
                   with_reducible rfl
                  rotate_left
                  ·simp only [Act.put, List.setIfInBounds_toArray, List.set_cons_zero, List.set_cons_succ, i64_w, i32_w]
                   rfl
                  refine one_ (i := 39) (N := some 42) #[true, true, true, true, true, true, true, true, true, true, true, true, true, true, true, true, true, true, true, true, true, true, true, true, true, true, true, true, true, true, true, true, true, true, true, true, true, true, true, true, false, false, false] rfl rfl (one_of HT_.out (by kernel_rfl)) (by decide) (fun K hK => ?_)
                  refine goes_ Tryd.func99 (by kernel_rfl) rfl #[.int .i64 a0_8] (by rfl) rfl rfl zM ?_
                  with_reducible refine (spec_l1Dec.calls k a0_8 t222 _ A23.out).mono ?_
                  rintro e w32 ⟨rfl, hb⟩
                  refine ⟨_, rfl, ?_⟩
                  replace BK215 := zK BK215 hb
                  replace HB := zT hb
                  (try clear hb)
                  refine hK.out _ _ ⟨(blk_cell BK215.out 0).trans rfl, (blk_cell BK215.out 1).trans rfl, (blk_cell BK215.out 2).trans rfl, (blk_cell BK215.out 3).trans rfl, (blk_cell BK215.out 4).trans rfl, (blk_cell BK215.out 5).trans rfl, (blk_cell BK215.out 6).trans rfl, (blk_cell BK215.out 7).trans rfl, (blk_cell BK215.out 8).trans rfl⟩ (fun hHeld => ?_)
                  clear hK K
                  refine norm_ (a' := ?_) ?_ ?_
                  rotate_left
                  ·show Act.put _ (some 42) _ = _
                   simp only [Act.put, List.setIfInBounds_toArray, List.set_cons_zero, List.set_cons_succ, i64_w, i32_w]
                   rfl
                  refine pure_ (i := 40) (N := some 43) (v := ?_) (a' := ?_) #[true, true, true, true, true, true, true, true, true, true, true, true, true, true, true, true, true, true, true, true, true, true, true, true, true, true, true, true, true, true, true, true, true, true, true, true, true, true, true, true, true, false, false] rfl rfl (any_of HT_.out (by kernel_rfl)) (fun _ _ _ h => h) (Or.inl ⟨by rfl, ?_⟩) ?_ ?_
                  rotate_left
                  ·intro w'
                   go_simp
                   with_reducible rfl
                  rotate_left
                  ·simp only [Act.put, List.setIfInBounds_toArray, List.set_cons_zero, List.set_cons_succ, i64_w, i32_w]
                   rfl
                  refine pure_ (i := 41) (N := some 44) (v := ?_) (a' := ?_) #[true, true, true, true, true, true, true, true, true, true, true, true, true, true, true, true, true, true, true, true, true, true, true, true, true, true, true, true, true, true, true, true, true, true, true, true, true, true, true, true, true, true, false] rfl rfl (any_of HT_.out (by kernel_rfl)) (fun _ _ _ h => h) (Or.inl ⟨by rfl, ?_⟩) ?_ ?_
                  rotate_left
                  ·intro w'
                   go_simp
                   with_reducible rfl
                  rotate_left
                  ·simp only [Act.put, List.setIfInBounds_toArray, List.set_cons_zero, List.set_cons_succ, i64_w, i32_w]
                   rfl
                  refine pure_ (i := 42) (N := some 2) (v := ?_) (a' := ?_) #[true, true, true, true, true, true, true, true, true, true, true, true, true, true, true, true, true, true, true, true, true, true, true, true, true, true, true, true, true, true, true, true, true, true, true, true, true, true, true, true, true, true, true] rfl rfl (any_of HT_.out (by kernel_rfl)) (fun _ _ _ h => h) (Or.inl ⟨by rfl, ?_⟩) ?_ ?_
                  rotate_left
                  ·intro w'
                   go_simp
                   with_reducible rfl
                  rotate_left
                  ·simp only [Act.put, List.setIfInBounds_toArray, List.set_cons_zero, List.set_cons_succ, i64_w, i32_w]
                   rfl
                  refine done_ (done_of HT_.out (by kernel_rfl)) ?_
                  try go_wp2
                  go_ret
                  exact ⟨zE, zB⟩
                 ·rw [if_neg c25] at H
                  exact absurd H (by simp)
                ·rw [if_neg c24] at H
                 exact absurd H (by simp)
               ·rw [if_neg c22] at H
                exact absurd H (by simp)
              ·rw [if_neg c21] at H
               exact absurd H (by simp)
             ·rw [if_neg c19] at H
              exact absurd H (by simp)
            ·rw [if_neg c18] at H
             exact absurd H (by simp)
           ·rw [if_neg c16] at H
            exact absurd H (by simp)
          ·rw [if_neg c15] at H
           exact absurd H (by simp)
         ·rw [if_neg c13] at H
          exact absurd H (by simp)
        ·rw [if_neg c12] at H
         exact absurd H (by simp)
       ·rw [if_neg c10] at H
        exact absurd H (by simp)
      ·rw [if_neg c9] at H
       exact absurd H (by simp)
     ·rw [if_neg c7] at H
      exact absurd H (by simp)
    ·rw [if_neg c6] at H
     exact absurd H (by simp)
   ·rw [if_neg c5] at H
    exact absurd H (by simp)
  ·rw [if_neg c4] at H
   exact absurd H (by simp)
 ·rw [if_neg c2] at H
  exact absurd H (by simp)

/-! ### spec_l9Jar: function 54 -/
def spec_l9Jar.l0 : Nat → List (S39) → ByteArray → Int → Option (ByteArray)
 | 0, _, _, _ => none
 | k + 1, x0, x3, x4 => if x4 < (x0.length : Int) then (if 0 ≤ x4 then ((spec_l9Cookie.f k ((rd_T39 x0 x4).f0) ((rd_T39 x0 x4).f1) ((rd_T39 x0 x4).f2) ((rd_T39 x0 x4).f3) ((rd_T39 x0 x4).f4) ((rd_T39 x0 x4).f5) ((rd_T39 x0 x4).f6) ((rd_T39 x0 x4).f7) ((rd_T39 x0 x4).f8)).bind fun t224 => (if x3.size + t224.size ≤ 9223372036854775807 then (spec_l9Jar.l0 k x0 (x3 ++ t224) (wrap64 (x4 + 1))) else (none))) else (none)) else (some x3)
def spec_l9Jar.f (k : Nat) (l0 : List (S39)) : Option (ByteArray) := spec_l9Jar.l0 k l0 (⟨#[]⟩ : ByteArray) 0
theorem spec_l9Jar.mono_l : ∀ k, (∀ y0 y1 y2, LeO (spec_l9Jar.l0 k y0 y1 y2) (spec_l9Jar.l0 (k + 1) y0 y1 y2))
 | 0 => fun _ _ _ r h => by simp [spec_l9Jar.l0] at h
 | k + 1 => by
  have ih0 := spec_l9Jar.mono_l k
  all_goals intros
  all_goals first | unfold spec_l9Jar.l0
  all_goals repeat' (first | (with_reducible first | apply ih0 | apply spec_l9Cookie.mono | exact LeO.refl _ | exact LeO.none _ | refine LeO.ite ?_ ?_ | refine LeO.bind ?_ fun _ => ?_) | apply ih0 | apply spec_l9Cookie.mono | exact LeO.none _ | refine LeO.ite ?_ ?_ | refine LeO.bind ?_ fun _ => ?_)
theorem spec_l9Jar.mono : ∀ a0 k, LeO (spec_l9Jar.f k a0) (spec_l9Jar.f (k + 1) a0) := by
 intro a0 k
 have ih0 := spec_l9Jar.mono_l k
 unfold spec_l9Jar.f
 repeat' (first | (with_reducible first | apply ih0 | apply spec_l9Cookie.mono | exact LeO.refl _ | exact LeO.none _ | refine LeO.ite ?_ ?_ | refine LeO.bind ?_ fun _ => ?_) | apply ih0 | apply spec_l9Cookie.mono | exact LeO.none _ | refine LeO.ite ?_ ?_ | refine LeO.bind ?_ fun _ => ?_)
set_option maxHeartbeats 8000000 in
set_option maxRecDepth 100000 in
theorem spec_l9Jar.calls (k : Nat) (A0 : Option Addr) (c0 : Nat) (l0 : List (S39)) (r : ByteArray) (w : World) (hr0 : Kd.C k39 w A0 l0.length l0) (hc0 : l0.length ≤ c0) (h : spec_l9Jar.f k l0 = some r) :
  Calls Tryd.prog 54 #[.slice A0 l0.length c0] w fun e w' => e = .returned (.string r) ∧ Below w.heap.size w w' := by
 have hu39 := Tryd.underlying39
 have HR0 := Aside0.mk hr0
 have HC0 := Aside0.mk hc0
 clear hr0 hc0
 have HB := Aside0.mk (Below.refl w.heap.size w)
 have H : (spec_l9Jar.l0 k l0 (⟨#[]⟩ : ByteArray) 0) = some r := h
 clear h
 have H' := Aside0.mk H
 clear H
 go_enter Tryd.func54, Tryd.ntmps54
 go_wp2
 go_loopg [3, 4] k (fun kq v3 v4 w' => ∃ (x3_1 : ByteArray) (x4_1 : Int), v3 = .string x3_1 ∧ v4 = .int .i64 x4_1 ∧ Aside0 (spec_l9Jar.l0 kq l0 x3_1 x4_1 = some r) ∧ Aside0 (kq ≤ k) ∧ Aside0 (Below w.heap.size w w'))
 case atStart => exact ⟨((⟨#[]⟩ : ByteArray)), (0), zS, zS, H', ⟨Nat.le_refl _⟩, ⟨zB⟩⟩
 case round =>
  clear H'
  obtain ⟨x3_1, x4_1, rfl, rfl, HA, HK1, HB⟩ := hrel
  cases gk with
  | zero => exact absurd HA.out (by simp [spec_l9Jar.l0])
  | succ k1 =>
   have H := HA.out
   clear HA
   simp only [spec_l9Jar.l0] at H
   by_cases c2 : x4_1 < (l0.length : Int)
   ·rw [if_pos c2] at H
    have c2b0 := decide_eq_true c2
    clear c2
    by_cases c3 : 0 ≤ x4_1
    ·rw [if_pos c3] at H
     have c3b0 := decide_eq_true c3
     clear c3
     obtain ⟨t224, A4, H⟩ := zO H
     by_cases c5 : x3_1.size + t224.size ≤ 9223372036854775807
     ·rw [if_pos c5] at H
      have c5b0 := eq_true c5
      have c5b1 := decide_eq_true c5
      try have c5b2 : (9223372036854775807 < x3_1.size + t224.size) = False := eq_false (Nat.not_lt.2 c5)
      have H' := Aside0.mk H
      clear H
      have p223 : 0 ≤ (x4_1 : Int) := zD
      have q223 : x4_1 < (l0.length : Int) := zD
      obtain ⟨ad223, e223, hx223_0, hx223_1, hx223_2, hx223_3, hx223_4, hx223_5, hx223_6, hx223_7, hx223_8⟩ := at_T39 HR0.out x4_1 p223 q223
      cases e223
      replace hx223_0 := (HB.out.cell (World.block_lt_of_cell? w _ hx223_0)).trans hx223_0
      replace hx223_1 := (HB.out.cell (World.block_lt_of_cell? w _ hx223_1)).trans hx223_1
      replace hx223_2 := (HB.out.cell (World.block_lt_of_cell? w _ hx223_2)).trans hx223_2
      replace hx223_3 := (HB.out.cell (World.block_lt_of_cell? w _ hx223_3)).trans hx223_3
      replace hx223_4 := (HB.out.cell (World.block_lt_of_cell? w _ hx223_4)).trans hx223_4
      replace hx223_5 := (HB.out.cell (World.block_lt_of_cell? w _ hx223_5)).trans hx223_5
      replace hx223_6 := (HB.out.cell (World.block_lt_of_cell? w _ hx223_6)).trans hx223_6
      replace hx223_7 := (HB.out.cell (World.block_lt_of_cell? w _ hx223_7)).trans hx223_7
      replace hx223_8 := (HB.out.cell (World.block_lt_of_cell? w _ hx223_8)).trans hx223_8
      replace p223 := eq_true p223
      replace q223 := eq_true q223
      go_wp2_with (first | ((with_reducible refine gate_callee (f := 79) rfl ?_); refine goesL_ (some 16) rfl rfl Tryd.func79 (by kernel_rfl) rfl #[.agg #[.string ((rd_T39 l0 x4_1).f0), .string ((rd_T39 l0 x4_1).f1), .string ((rd_T39 l0 x4_1).f2), .bool ((rd_T39 l0 x4_1).f3), .string ((rd_T39 l0 x4_1).f4), .int .i64 ((rd_T39 l0 x4_1).f5), .bool ((rd_T39 l0 x4_1).f6), .int .i64 ((rd_T39 l0 x4_1).f7), .int .i64 ((rd_T39 l0 x4_1).f8)]] rfl zM ?_; (with_reducible refine (spec_l9Cookie.calls k1 ((rd_T39 l0 x4_1).f0) ((rd_T39 l0 x4_1).f1) ((rd_T39 l0 x4_1).f2) ((rd_T39 l0 x4_1).f3) ((rd_T39 l0 x4_1).f4) ((rd_T39 l0 x4_1).f5) ((rd_T39 l0 x4_1).f6) ((rd_T39 l0 x4_1).f7) ((rd_T39 l0 x4_1).f8) t224 _ A4.out).mono ?_); rintro e w6 ⟨rfl, hb⟩; refine ⟨_, rfl, ?_⟩; replace HB := zT hb; (try clear hb)))
      go_roundg k1
      case measure => have := HK1.out; omega
      case rel => exact ⟨(x3_1 ++ t224), (wrap64 (x4_1 + 1)), zS, zS, H', ⟨by have := HK1.out; omega⟩, ⟨zB⟩⟩
     ·rw [if_neg c5] at H
      exact absurd H (by simp)
    ·rw [if_neg c3] at H
     exact absurd H (by simp)
   ·rw [if_neg c2] at H
    have c2b0 := decide_eq_false c2
    clear c2
    obtain rfl := Option.some.inj H
    go_wp2
    go_ret
    exact ⟨zE, zB⟩

/-! ### spec_JarSave: function 29 -/
def spec_JarSave.f (k : Nat) (l0 : List (S39)) : Option (ByteArray) := (spec_JarOk.f k l0).bind fun t225 => (if t225 = true then ((spec_l9Jar.f k l0).bind fun t226 => (some t226)) else (some (⟨#[]⟩ : ByteArray)))
theorem spec_JarSave.mono : ∀ a0 k, LeO (spec_JarSave.f k a0) (spec_JarSave.f (k + 1) a0) := by
 intro a0 k
 unfold spec_JarSave.f
 repeat' (first | (with_reducible first | apply spec_JarOk.mono | apply spec_l9Jar.mono | exact LeO.refl _ | exact LeO.none _ | refine LeO.ite ?_ ?_ | refine LeO.bind ?_ fun _ => ?_) | apply spec_JarOk.mono | apply spec_l9Jar.mono | exact LeO.none _ | refine LeO.ite ?_ ?_ | refine LeO.bind ?_ fun _ => ?_)
set_option maxHeartbeats 8000000 in
set_option maxRecDepth 100000 in
theorem spec_JarSave.calls (k : Nat) (A0 : Option Addr) (c0 : Nat) (l0 : List (S39)) (r : ByteArray) (w : World) (hr0 : Kd.C k39 w A0 l0.length l0) (hc0 : l0.length ≤ c0) (h : spec_JarSave.f k l0 = some r) :
  Calls Tryd.prog 29 #[.slice A0 l0.length c0] w fun e w' => e = .returned (.string r) ∧ Below w.heap.size w w' := by
 have HR0 := Aside0.mk hr0
 have HC0 := Aside0.mk hc0
 clear hr0 hc0
 have HB := Aside0.mk (Below.refl w.heap.size w)
 have H : ((spec_JarOk.f k l0).bind fun t225 => (if t225 = true then ((spec_l9Jar.f k l0).bind fun t226 => (some t226)) else (some (⟨#[]⟩ : ByteArray)))) = some r := h
 clear h
 obtain ⟨t225, A2, H⟩ := zO H
 by_cases c3 : t225 = true
 ·subst c3
  replace H := zI H rfl
  obtain ⟨t226, A4, H⟩ := zO H
  obtain rfl := Option.some.inj H
  go_enter Tryd.func29, Tryd.ntmps29
  go_wp2_with (first | ((with_reducible refine gate_callee (f := 23) rfl ?_); refine goesL_ (some 4) rfl rfl Tryd.func23 (by kernel_rfl) rfl #[.slice A0 l0.length c0] rfl zM ?_; (with_reducible refine (spec_JarOk.calls k _ _ l0 true _ ?side1 ?side2 A2.out).mono ?_); (case side1 => repeat (first | exact HR0.out | (with_reducible refine Kd.C_alloc ?_ _) | (with_reducible refine Kd.C_drewN ?_ _) | (with_reducible refine Kd.C_drew ?_))); (case side2 => exact HC0.out); rintro e w5 ⟨rfl, hb⟩; refine ⟨_, rfl, ?_⟩; replace HB := zT hb; (try clear hb)) | ((with_reducible refine gate_callee (f := 54) rfl ?_); refine goesL_ (some 7) rfl rfl Tryd.func54 (by kernel_rfl) rfl #[.slice A0 l0.length c0] rfl zM ?_; (with_reducible refine (spec_l9Jar.calls k _ _ l0 t226 _ ?side1 ?side2 A4.out).mono ?_); (case side1 => repeat (first | exact (Kd.C_below HR0.out HB.out) | (with_reducible refine Kd.C_alloc ?_ _) | (with_reducible refine Kd.C_drewN ?_ _) | (with_reducible refine Kd.C_drew ?_))); (case side2 => exact HC0.out); rintro e w6 ⟨rfl, hb⟩; refine ⟨_, rfl, ?_⟩; replace HB := zT hb; (try clear hb)))
  go_ret
  exact ⟨zE, zB⟩
 ·replace c3 := Bool.eq_false_iff.mpr c3
  subst c3
  replace H := zJ H zF
  obtain rfl := Option.some.inj H
  go_enter Tryd.func29, Tryd.ntmps29
  go_wp2_with (first | ((with_reducible refine gate_callee (f := 23) rfl ?_); refine goesL_ (some 4) rfl rfl Tryd.func23 (by kernel_rfl) rfl #[.slice A0 l0.length c0] rfl zM ?_; (with_reducible refine (spec_JarOk.calls k _ _ l0 false _ ?side1 ?side2 A2.out).mono ?_); (case side1 => repeat (first | exact HR0.out | (with_reducible refine Kd.C_alloc ?_ _) | (with_reducible refine Kd.C_drewN ?_ _) | (with_reducible refine Kd.C_drew ?_))); (case side2 => exact HC0.out); rintro e w7 ⟨rfl, hb⟩; refine ⟨_, rfl, ?_⟩; replace HB := zT hb; (try clear hb)))
  go_ret
  exact ⟨zE, zB⟩

/-! ### impl_in: function 47 -/
def impl_in.f (a0 : Int) (a1 : Int) (a2 : Int) : Option (Bool) := if a0 ≥ a1 then (some (decide (a0 ≤ a2))) else (some false)
set_option maxHeartbeats 8000000 in
set_option maxRecDepth 100000 in
theorem impl_in.calls (a0 : Int) (a1 : Int) (a2 : Int) (r : Bool) (w : World) (h : impl_in.f a0 a1 a2 = some r) :
  Calls Tryd.prog 47 #[.int .i64 a0, .int .i64 a1, .int .i64 a2] w fun e w' => e = .returned (.bool r) ∧ Drawn0 w w' := by
 have H : (if a0 ≥ a1 then (some (decide (a0 ≤ a2))) else (some false)) = some r := h
 clear h
 by_cases c4 : a0 ≥ a1
 ·rw [if_pos c4] at H
  have c4b0 := decide_eq_true c4
  clear c4
  obtain rfl := Option.some.inj H
  go_enter Tryd.func47, Tryd.ntmps47
  go_wp2
  go_ret
  exact ⟨zS, zW⟩
 ·rw [if_neg c4] at H
  have c4b0 := decide_eq_false c4
  clear c4
  obtain rfl := Option.some.inj H
  go_enter Tryd.func47, Tryd.ntmps47
  go_wp2
  go_ret
  exact ⟨zS, zW⟩

/-! ### impl_isDigit: function 84 -/
def impl_isDigit.f (a0 : Int) : Option (Bool) := if a0 ≥ 48 then (some (decide (a0 ≤ 57))) else (some false)
set_option maxHeartbeats 8000000 in
set_option maxRecDepth 100000 in
theorem impl_isDigit.calls (a0 : Int) (r : Bool) (w : World) (h : impl_isDigit.f a0 = some r) :
  Calls Tryd.prog 84 #[.int .u8 a0] w fun e w' => e = .returned (.bool r) ∧ Drawn0 w w' := by
 have H : (if a0 ≥ 48 then (some (decide (a0 ≤ 57))) else (some false)) = some r := h
 clear h
 by_cases c2 : a0 ≥ 48
 ·rw [if_pos c2] at H
  have c2b0 := decide_eq_true c2
  clear c2
  obtain rfl := Option.some.inj H
  go_enter Tryd.func84, Tryd.ntmps84
  go_wp2
  go_ret
  exact ⟨zS, zW⟩
 ·rw [if_neg c2] at H
  have c2b0 := decide_eq_false c2
  clear c2
  obtain rfl := Option.some.inj H
  go_enter Tryd.func84, Tryd.ntmps84
  go_wp2
  go_ret
  exact ⟨zS, zW⟩

end Go.Proofs.YtakobibclhdakaaDoor.PFnExactJarSave
