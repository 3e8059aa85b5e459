-- printed by a program of this session's (wip/myprint.py) out of the translation; Lean checks it
import Derived.Test.YtakobibclhdakaaDoorPFnExactJarSavex0
import Derived.Test.YtakobibclhdakaaDoorPFnExactJarSavex13
import Derived.Test.YtakobibclhdakaaDoorPFnExactJarSavex14
namespace Go.Proofs.YtakobibclhdakaaDoor.PFnExactJarSave
open Go.RowKit Go.Proofs.YtakobibclhdakaaDoorG Go.Proofs.YtakobibclhdakaaDoorZ Go.Proofs.YtakobibclhdakaaDoorW.PrintWords Go.Proofs.YtakobibclhdakaaDoorW.PrintLast Go.Proofs.YtakobibclhdakaaDoorW.PrintMore
attribute [local go_sem] str_leq str_gtr str_geq max2_int min2_int max_two min_two max_three min_three max_four min_four   -- for this text's walks alone
set_option linter.unusedVariables false
set_option linter.unusedSimpArgs false

/-! ### impl_Cookie_50: function 50 -/
def impl_Cookie_50.f (k : Nat) (l0 : List (S39)) (a1_0 : ByteArray) (a1_1 : ByteArray) (a1_2 : ByteArray) (a1_3 : Bool) (a1_4 : ByteArray) (a1_5 : Int) (a1_6 : Bool) (a1_7 : Int) (a1_8 : Int) : Option (Bool) := (impl_Cookie_77.f k l0 a1_0 a1_1 a1_2 a1_3 a1_4 a1_5 a1_6 a1_7 a1_8).bind fun t304 => (some (decide (t304 ≥ 0)))
theorem impl_Cookie_50.mono : ∀ a0 a1 a2 a3 a4 a5 a6 a7 a8 a9 k, LeO (impl_Cookie_50.f k a0 a1 a2 a3 a4 a5 a6 a7 a8 a9) (impl_Cookie_50.f (k + 1) a0 a1 a2 a3 a4 a5 a6 a7 a8 a9) := by
 intro a0 a1 a2 a3 a4 a5 a6 a7 a8 a9 k
 unfold impl_Cookie_50.f
 repeat' (first | (with_reducible first | apply impl_Cookie_77.mono | exact LeO.refl _ | exact LeO.none _ | refine LeO.ite ?_ ?_ | refine LeO.bind ?_ fun _ => ?_) | apply impl_Cookie_77.mono | exact LeO.none _ | refine LeO.ite ?_ ?_ | refine LeO.bind ?_ fun _ => ?_)
set_option maxHeartbeats 8000000 in
set_option maxRecDepth 100000 in
theorem impl_Cookie_50.calls (k : Nat) (A0 : Option Addr) (c0 : Nat) (l0 : List (S39)) (a1_0 : ByteArray) (a1_1 : ByteArray) (a1_2 : ByteArray) (a1_3 : Bool) (a1_4 : ByteArray) (a1_5 : Int) (a1_6 : Bool) (a1_7 : Int) (a1_8 : Int) (r : Bool) (w : World) (hr0 : Kd.C k39 w A0 l0.length l0) (hc0 : l0.length ≤ c0) (h : impl_Cookie_50.f k l0 a1_0 a1_1 a1_2 a1_3 a1_4 a1_5 a1_6 a1_7 a1_8 = some r) :
  Calls Tryd.prog 50 #[.slice A0 l0.length c0, .func (.func 51) #[.agg #[.string a1_0, .string a1_1, .string a1_2, .bool a1_3, .string a1_4, .int .i64 a1_5, .bool a1_6, .int .i64 a1_7, .int .i64 a1_8]] #[]] w fun e w' => e = .returned (.bool r) ∧ Below w.heap.size w w' := by
 have HR0 := Aside0.mk hr0
 have HC0 := Aside0.mk hc0
 clear hr0 hc0
 have HB := Aside0.mk (Below.refl w.heap.size w)
 have H : ((impl_Cookie_77.f k l0 a1_0 a1_1 a1_2 a1_3 a1_4 a1_5 a1_6 a1_7 a1_8).bind fun t304 => (some (decide (t304 ≥ 0)))) = some r := h
 clear h
 obtain ⟨t304, A3, H⟩ := zO H
 obtain rfl := Option.some.inj H
 go_enter Tryd.func50, Tryd.ntmps50
 go_wp2_with (first | ((with_reducible refine gate_callee (f := 77) rfl ?_); refine goesL_ (some 7) rfl rfl Tryd.func77 (by kernel_rfl) rfl #[.slice A0 l0.length c0, .func (.func 51) #[.agg #[.string a1_0, .string a1_1, .string a1_2, .bool a1_3, .string a1_4, .int .i64 a1_5, .bool a1_6, .int .i64 a1_7, .int .i64 a1_8]] #[]] rfl zM ?_; (with_reducible refine (impl_Cookie_77.calls k _ _ l0 a1_0 a1_1 a1_2 a1_3 a1_4 a1_5 a1_6 a1_7 a1_8 t304 _ ?side1 ?side2 A3.out).mono ?_); (case side1 => repeat (first | exact HR0.out | (with_reducible refine Kd.C_alloc ?_ _) | (with_reducible refine Kd.C_drewN ?_ _) | (with_reducible refine Kd.C_drew ?_))); (case side2 => exact HC0.out); rintro e w4 ⟨rfl, hb⟩; refine ⟨_, rfl, ?_⟩; replace HB := zT hb; (try clear hb)))
 go_ret
 exact ⟨zE, zB⟩

/-! ### impl_JarOk: function 25 -/
def impl_JarOk.l0 : Nat → List (S39) → List (S39) → Int → Int → Option (Bool)
 | 0, _, _, _, _ => none
 | k + 1, x0, x5, x6, x7 => if x7 < x6 then (if 0 ≤ x7 then (if x7 < (x5.length : Int) then ((impl_CookieOk.f k ((rd_T39 x5 x7).f0) ((rd_T39 x5 x7).f1) ((rd_T39 x5 x7).f2) ((rd_T39 x5 x7).f3) ((rd_T39 x5 x7).f4) ((rd_T39 x5 x7).f5) ((rd_T39 x5 x7).f6) ((rd_T39 x5 x7).f7) ((rd_T39 x5 x7).f8)).bind fun t307 => (if t307 = true then (if x7 ≤ (x0.length : Int) then ((impl_Cookie_50.f k (x0.take (x7 : Int).toNat) ((rd_T39 x5 x7).f0) ((rd_T39 x5 x7).f1) ((rd_T39 x5 x7).f2) ((rd_T39 x5 x7).f3) ((rd_T39 x5 x7).f4) ((rd_T39 x5 x7).f5) ((rd_T39 x5 x7).f6) ((rd_T39 x5 x7).f7) ((rd_T39 x5 x7).f8)).bind fun t312 => (if t312 = true then (some false) else (impl_JarOk.l0 k x0 x5 x6 (wrap64 (x7 + 1))))) else (none)) else (some false))) else (none)) else (none)) else (some (decide ((x0.length : Int) ≤ 10)))
def impl_JarOk.f (k : Nat) (l0 : List (S39)) : Option (Bool) := impl_JarOk.l0 k l0 l0 (l0.length : Int) 0
theorem impl_JarOk.mono_l : ∀ k, (∀ y0 y1 y2 y3, LeO (impl_JarOk.l0 k y0 y1 y2 y3) (impl_JarOk.l0 (k + 1) y0 y1 y2 y3))
 | 0 => fun _ _ _ _ r h => by simp [impl_JarOk.l0] at h
 | k + 1 => by
  have ih0 := impl_JarOk.mono_l k
  all_goals intros
  all_goals first | unfold impl_JarOk.l0
  all_goals repeat' (first | (with_reducible first | apply ih0 | apply impl_CookieOk.mono | apply impl_Cookie_50.mono | exact LeO.refl _ | exact LeO.none _ | refine LeO.ite ?_ ?_ | refine LeO.bind ?_ fun _ => ?_) | apply ih0 | apply impl_CookieOk.mono | apply impl_Cookie_50.mono | exact LeO.none _ | refine LeO.ite ?_ ?_ | refine LeO.bind ?_ fun _ => ?_)
theorem impl_JarOk.mono : ∀ a0 k, LeO (impl_JarOk.f k a0) (impl_JarOk.f (k + 1) a0) := by
 intro a0 k
 have ih0 := impl_JarOk.mono_l k
 unfold impl_JarOk.f
 repeat' (first | (with_reducible first | apply ih0 | apply impl_CookieOk.mono | apply impl_Cookie_50.mono | exact LeO.refl _ | exact LeO.none _ | refine LeO.ite ?_ ?_ | refine LeO.bind ?_ fun _ => ?_) | apply ih0 | apply impl_CookieOk.mono | apply impl_Cookie_50.mono | exact LeO.none _ | refine LeO.ite ?_ ?_ | refine LeO.bind ?_ fun _ => ?_)
def impl_JarOk.T4 : Bool × List (List Nat × List Nat) := (true, [([], []), ([0], [0]), ([1], [1]), ([2, 1], [2]), ([3], [3]), ([3], [3]), ([4, 5, 3], [3, 4, 5]), ([3], [3]), ([7, 3], [3, 7]), ([6, 8, 3, 3], [3, 6, 8]), ([3, 9], [3, 9])])
def impl_JarOk.B4 : List Nat := [0, 1, 3, 7, 15, 15, 63, 15, 143, 511, 1023]
theorem impl_JarOk.tab4 : rtab .any (opsOf Tryd.f25 4) = impl_JarOk.T4 := by kernel_rfl
theorem impl_JarOk.bits4 : waitsOk impl_JarOk.T4.2 impl_JarOk.B4 = true := by kernel_rfl
set_option maxHeartbeats 8000000 in
set_option maxRecDepth 100000 in
theorem impl_JarOk.calls (k : Nat) (A0 : Option Addr) (c0 : Nat) (l0 : List (S39)) (r : Bool) (w : World) (hr0 : Kd.C k39 w A0 l0.length l0) (hc0 : l0.length ≤ c0) (h : impl_JarOk.f k l0 = some r) (hG : GW w) :
  Calls Tryd.prog 25 #[.slice A0 l0.length c0] w fun e w' => e = .returned (.bool r) ∧ Below w.heap.size w w' := by
 have HG := Aside0.mk hG
 clear hG
 have hu39 := Tryd.underlying39
 have HR0 := Aside0.mk hr0
 have HC0 := Aside0.mk hc0
 clear hr0 hc0
 have HB := Aside0.mk (Below.refl w.heap.size w)
 have H : (impl_JarOk.l0 k l0 l0 (l0.length : Int) 0) = some r := h
 clear h
 have H' := Aside0.mk H
 clear H
 go_enter Tryd.func25, Tryd.ntmps25
 go_wp2
 go_loopg [7] k (fun kq v7 w' => ∃ (x7_1 : Int), v7 = .int .i64 x7_1 ∧ Aside0 (impl_JarOk.l0 kq l0 l0 (l0.length : Int) x7_1 = some r) ∧ Aside0 (kq ≤ k) ∧ Aside0 (Below w.heap.size w w'))
 case atStart => exact ⟨(0), zS, H', ⟨Nat.le_refl _⟩, ⟨zB⟩⟩
 case round =>
  clear H'
  obtain ⟨x7_1, rfl, HA, HK1, HB⟩ := hrel
  cases gk with
  | zero => exact absurd HA.out (by simp [impl_JarOk.l0])
  | succ k1 =>
   have H := HA.out
   clear HA
   simp only [impl_JarOk.l0] at H
   by_cases c2 : x7_1 < (l0.length : Int)
   ·rw [if_pos c2] at H
    have c2b0 := decide_eq_true c2
    clear c2
    by_cases c3 : 0 ≤ x7_1
    ·rw [if_pos c3] at H
     have c3b0 := decide_eq_true c3
     clear c3
     by_cases c4 : x7_1 < (l0.length : Int)
     ·rw [if_pos c4] at H
      have c4b0 := decide_eq_true c4
      clear c4
      obtain ⟨t307, A5, H⟩ := zO H
      by_cases c6 : t307 = true
      ·subst c6
       replace H := zI H rfl
       have c7b0 := eq_true (zD : 0 ≤ x7_1)
       by_cases c8 : x7_1 ≤ (l0.length : Int)
       ·rw [if_pos c8] at H
        have c8b0 := eq_true c8
        have c8b1 := decide_eq_true c8
        clear c8
        obtain ⟨y308, hy308⟩ : ∃ y_ : List (S39), y_ = (l0.take (x7_1 : Int).toNat) := ⟨_, rfl⟩
        replace H : ((impl_Cookie_50.f k1 y308 ((rd_T39 l0 x7_1).f0) ((rd_T39 l0 x7_1).f1) ((rd_T39 l0 x7_1).f2) ((rd_T39 l0 x7_1).f3) ((rd_T39 l0 x7_1).f4) ((rd_T39 l0 x7_1).f5) ((rd_T39 l0 x7_1).f6) ((rd_T39 l0 x7_1).f7) ((rd_T39 l0 x7_1).f8)).bind fun t312 => (if t312 = true then (some false) else (impl_JarOk.l0 k1 l0 l0 (l0.length : Int) (wrap64 (x7_1 + 1))))) = some r := by first | (rw [hy308]; with_reducible exact H) | (have H2_ := (Option.bind_some _ _).symm.trans H; rw [hy308]; with_reducible exact H2_) | (have H2_ := (Option.bind_some _ _).symm.trans H; with_reducible exact H2_) | with_reducible exact H | (rw [hy308]; exact H) | exact H
        have Ny308 := Aside0.mk hy308
        clear hy308
        obtain ⟨t312, A9, H⟩ := zO H
        by_cases c10 : t312 = true
        ·subst c10
         replace H := zI H rfl
         obtain rfl := Option.some.inj H
         have p305 : 0 ≤ (x7_1 : Int) := zD
         have q305 : x7_1 < (l0.length : Int) := zD
         obtain ⟨ad305, e305, hx305_0, hx305_1, hx305_2, hx305_3, hx305_4, hx305_5, hx305_6, hx305_7, hx305_8⟩ := at_T39 HR0.out x7_1 p305 q305
         cases e305
         replace hx305_0 := (HB.out.cell (World.block_lt_of_cell? w _ hx305_0)).trans hx305_0
         replace hx305_1 := (HB.out.cell (World.block_lt_of_cell? w _ hx305_1)).trans hx305_1
         replace hx305_2 := (HB.out.cell (World.block_lt_of_cell? w _ hx305_2)).trans hx305_2
         replace hx305_3 := (HB.out.cell (World.block_lt_of_cell? w _ hx305_3)).trans hx305_3
         replace hx305_4 := (HB.out.cell (World.block_lt_of_cell? w _ hx305_4)).trans hx305_4
         replace hx305_5 := (HB.out.cell (World.block_lt_of_cell? w _ hx305_5)).trans hx305_5
         replace hx305_6 := (HB.out.cell (World.block_lt_of_cell? w _ hx305_6)).trans hx305_6
         replace hx305_7 := (HB.out.cell (World.block_lt_of_cell? w _ hx305_7)).trans hx305_7
         replace hx305_8 := (HB.out.cell (World.block_lt_of_cell? w _ hx305_8)).trans hx305_8
         replace p305 := eq_true p305
         replace q305 := eq_true q305
         try go_wp2_with (first | ((with_reducible refine gate_dst (N := 4) rfl ?_); refine zX (N := 4) (cs := #[.string (⟨#[]⟩ : ByteArray), .string (⟨#[]⟩ : ByteArray), .string (⟨#[]⟩ : ByteArray), .bool false, .string (⟨#[]⟩ : ByteArray), .int .i64 0, .bool false, .int .i64 0, .int .i64 0]) (t := 39) rfl rfl ?hr zB ?_; (case hr => first | (go_simp; done) | (go_simp; rfl)); clear HB; intro gb306 w11 HB BK306 GW306; have GE306 := GW306; have hcz12_0 : w11.cell? ⟨gb306, 0, none⟩ = some (.string (⟨#[]⟩ : ByteArray)) := (blk_cell BK306.out 0).trans rfl; have hcz12_1 : w11.cell? ⟨gb306, 1, none⟩ = some (.string (⟨#[]⟩ : ByteArray)) := (blk_cell BK306.out 1).trans rfl; have hcz12_2 : w11.cell? ⟨gb306, 2, none⟩ = some (.string (⟨#[]⟩ : ByteArray)) := (blk_cell BK306.out 2).trans rfl; have hcz12_3 : w11.cell? ⟨gb306, 3, none⟩ = some (.bool false) := (blk_cell BK306.out 3).trans rfl; have hcz12_4 : w11.cell? ⟨gb306, 4, none⟩ = some (.string (⟨#[]⟩ : ByteArray)) := (blk_cell BK306.out 4).trans rfl; have hcz12_5 : w11.cell? ⟨gb306, 5, none⟩ = some (.int .i64 0) := (blk_cell BK306.out 5).trans rfl; have hcz12_6 : w11.cell? ⟨gb306, 6, none⟩ = some (.bool false) := (blk_cell BK306.out 6).trans rfl; have hcz12_7 : w11.cell? ⟨gb306, 7, none⟩ = some (.int .i64 0) := (blk_cell BK306.out 7).trans rfl; have hcz12_8 : w11.cell? ⟨gb306, 8, none⟩ = some (.int .i64 0) := (blk_cell BK306.out 8).trans rfl; have hfz12_0 := blk_frozen BK306.out 0; have hfz12_1 := blk_frozen BK306.out 1; have hfz12_2 := blk_frozen BK306.out 2; have hfz12_3 := blk_frozen BK306.out 3; have hfz12_4 := blk_frozen BK306.out 4; have hfz12_5 := blk_frozen BK306.out 5; have hfz12_6 := blk_frozen BK306.out 6; have hfz12_7 := blk_frozen BK306.out 7; have hfz12_8 := blk_frozen BK306.out 8))
         have n0_ : Aside0 ((((((((((w11.setCell ⟨gb306, 0, none⟩ (.string ((rd_T39 l0 x7_1).f0))).setCell ⟨gb306, 1, none⟩ (.string ((rd_T39 l0 x7_1).f1))).setCell ⟨gb306, 2, none⟩ (.string ((rd_T39 l0 x7_1).f2))).setCell ⟨gb306, 3, none⟩ (.bool ((rd_T39 l0 x7_1).f3))).setCell ⟨gb306, 4, none⟩ (.string ((rd_T39 l0 x7_1).f4))).setCell ⟨gb306, 5, none⟩ (.int .i64 ((rd_T39 l0 x7_1).f5))).setCell ⟨gb306, 6, none⟩ (.bool ((rd_T39 l0 x7_1).f6))).setCell ⟨gb306, 7, none⟩ (.int .i64 ((rd_T39 l0 x7_1).f7))).setCell ⟨gb306, 8, none⟩ (.int .i64 ((rd_T39 l0 x7_1).f8))).heap[gb306]? = some (.cells #[.string ((rd_T39 l0 x7_1).f0), .string ((rd_T39 l0 x7_1).f1), .string ((rd_T39 l0 x7_1).f2), .bool ((rd_T39 l0 x7_1).f3), .string ((rd_T39 l0 x7_1).f4), .int .i64 ((rd_T39 l0 x7_1).f5), .bool ((rd_T39 l0 x7_1).f6), .int .i64 ((rd_T39 l0 x7_1).f7), .int .i64 ((rd_T39 l0 x7_1).f8)] 39 (0, 0))) := ⟨by (with_reducible repeat (first | refine blk_drewN ?_ _ | refine blk_drew ?_ | refine blk_alloc ?_ _)); refine blk_put (cs := #[.string ((rd_T39 l0 x7_1).f0), .string ((rd_T39 l0 x7_1).f1), .string ((rd_T39 l0 x7_1).f2), .bool ((rd_T39 l0 x7_1).f3), .string ((rd_T39 l0 x7_1).f4), .int .i64 ((rd_T39 l0 x7_1).f5), .bool ((rd_T39 l0 x7_1).f6), .int .i64 ((rd_T39 l0 x7_1).f7), .int .i64 0]) ?_ 8 _ rfl; (with_reducible repeat (first | refine blk_drewN ?_ _ | refine blk_drew ?_ | refine blk_alloc ?_ _)); refine blk_put (cs := #[.string ((rd_T39 l0 x7_1).f0), .string ((rd_T39 l0 x7_1).f1), .string ((rd_T39 l0 x7_1).f2), .bool ((rd_T39 l0 x7_1).f3), .string ((rd_T39 l0 x7_1).f4), .int .i64 ((rd_T39 l0 x7_1).f5), .bool ((rd_T39 l0 x7_1).f6), .int .i64 0, .int .i64 0]) ?_ 7 _ rfl; (with_reducible repeat (first | refine blk_drewN ?_ _ | refine blk_drew ?_ | refine blk_alloc ?_ _)); refine blk_put (cs := #[.string ((rd_T39 l0 x7_1).f0), .string ((rd_T39 l0 x7_1).f1), .string ((rd_T39 l0 x7_1).f2), .bool ((rd_T39 l0 x7_1).f3), .string ((rd_T39 l0 x7_1).f4), .int .i64 ((rd_T39 l0 x7_1).f5), .bool false, .int .i64 0, .int .i64 0]) ?_ 6 _ rfl; (with_reducible repeat (first | refine blk_drewN ?_ _ | refine blk_drew ?_ | refine blk_alloc ?_ _)); refine blk_put (cs := #[.string ((rd_T39 l0 x7_1).f0), .string ((rd_T39 l0 x7_1).f1), .string ((rd_T39 l0 x7_1).f2), .bool ((rd_T39 l0 x7_1).f3), .string ((rd_T39 l0 x7_1).f4), .int .i64 0, .bool false, .int .i64 0, .int .i64 0]) ?_ 5 _ rfl; (with_reducible repeat (first | refine blk_drewN ?_ _ | refine blk_drew ?_ | refine blk_alloc ?_ _)); refine blk_put (cs := #[.string ((rd_T39 l0 x7_1).f0), .string ((rd_T39 l0 x7_1).f1), .string ((rd_T39 l0 x7_1).f2), .bool ((rd_T39 l0 x7_1).f3), .string (⟨#[]⟩ : ByteArray), .int .i64 0, .bool false, .int .i64 0, .int .i64 0]) ?_ 4 _ rfl; (with_reducible repeat (first | refine blk_drewN ?_ _ | refine blk_drew ?_ | refine blk_alloc ?_ _)); refine blk_put (cs := #[.string ((rd_T39 l0 x7_1).f0), .string ((rd_T39 l0 x7_1).f1), .string ((rd_T39 l0 x7_1).f2), .bool false, .string (⟨#[]⟩ : ByteArray), .int .i64 0, .bool false, .int .i64 0, .int .i64 0]) ?_ 3 _ rfl; (with_reducible repeat (first | refine blk_drewN ?_ _ | refine blk_drew ?_ | refine blk_alloc ?_ _)); refine blk_put (cs := #[.string ((rd_T39 l0 x7_1).f0), .string ((rd_T39 l0 x7_1).f1), .string (⟨#[]⟩ : ByteArray), .bool false, .string (⟨#[]⟩ : ByteArray), .int .i64 0, .bool false, .int .i64 0, .int .i64 0]) ?_ 2 _ rfl; (with_reducible repeat (first | refine blk_drewN ?_ _ | refine blk_drew ?_ | refine blk_alloc ?_ _)); refine blk_put (cs := #[.string ((rd_T39 l0 x7_1).f0), .string (⟨#[]⟩ : ByteArray), .string (⟨#[]⟩ : ByteArray), .bool false, .string (⟨#[]⟩ : ByteArray), .int .i64 0, .bool false, .int .i64 0, .int .i64 0]) ?_ 1 _ rfl; (with_reducible repeat (first | refine blk_drewN ?_ _ | refine blk_drew ?_ | refine blk_alloc ?_ _)); refine blk_put (cs := #[.string (⟨#[]⟩ : ByteArray), .string (⟨#[]⟩ : ByteArray), .string (⟨#[]⟩ : ByteArray), .bool false, .string (⟨#[]⟩ : ByteArray), .int .i64 0, .bool false, .int .i64 0, .int .i64 0]) ?_ 0 _ rfl; (with_reducible repeat (first | refine blk_drewN ?_ _ | refine blk_drew ?_ | refine blk_alloc ?_ _)); exact BK306.out⟩
         have n1_ : Aside0 (Below w.heap.size w (((((((((w11.setCell ⟨gb306, 0, none⟩ (.string ((rd_T39 l0 x7_1).f0))).setCell ⟨gb306, 1, none⟩ (.string ((rd_T39 l0 x7_1).f1))).setCell ⟨gb306, 2, none⟩ (.string ((rd_T39 l0 x7_1).f2))).setCell ⟨gb306, 3, none⟩ (.bool ((rd_T39 l0 x7_1).f3))).setCell ⟨gb306, 4, none⟩ (.string ((rd_T39 l0 x7_1).f4))).setCell ⟨gb306, 5, none⟩ (.int .i64 ((rd_T39 l0 x7_1).f5))).setCell ⟨gb306, 6, none⟩ (.bool ((rd_T39 l0 x7_1).f6))).setCell ⟨gb306, 7, none⟩ (.int .i64 ((rd_T39 l0 x7_1).f7))).setCell ⟨gb306, 8, none⟩ (.int .i64 ((rd_T39 l0 x7_1).f8)))) := ⟨zB⟩
         (try clear BK306)
         (try clear HB)
         generalize (((((((((w11.setCell ⟨gb306, 0, none⟩ (.string ((rd_T39 l0 x7_1).f0))).setCell ⟨gb306, 1, none⟩ (.string ((rd_T39 l0 x7_1).f1))).setCell ⟨gb306, 2, none⟩ (.string ((rd_T39 l0 x7_1).f2))).setCell ⟨gb306, 3, none⟩ (.bool ((rd_T39 l0 x7_1).f3))).setCell ⟨gb306, 4, none⟩ (.string ((rd_T39 l0 x7_1).f4))).setCell ⟨gb306, 5, none⟩ (.int .i64 ((rd_T39 l0 x7_1).f5))).setCell ⟨gb306, 6, none⟩ (.bool ((rd_T39 l0 x7_1).f6))).setCell ⟨gb306, 7, none⟩ (.int .i64 ((rd_T39 l0 x7_1).f7))).setCell ⟨gb306, 8, none⟩ (.int .i64 ((rd_T39 l0 x7_1).f8))) = w13 at n0_ n1_ ⊢
         have BK306 := n0_
         have HB := n1_
         clear n0_ n1_
         replace BK306 := Aside0.mk (blk_drew BK306.out)
         replace HB := Aside0.mk (below_drew1 HB.out)
         refine start_ (n := 11) (S := fun w' => w'.cell? ⟨gb306, 0, none⟩ = some (.string ((rd_T39 l0 x7_1).f0)) ∧ w'.cell? ⟨gb306, 1, none⟩ = some (.string ((rd_T39 l0 x7_1).f1)) ∧ w'.cell? ⟨gb306, 2, none⟩ = some (.string ((rd_T39 l0 x7_1).f2)) ∧ w'.cell? ⟨gb306, 3, none⟩ = some (.bool ((rd_T39 l0 x7_1).f3)) ∧ w'.cell? ⟨gb306, 4, none⟩ = some (.string ((rd_T39 l0 x7_1).f4)) ∧ w'.cell? ⟨gb306, 5, none⟩ = some (.int .i64 ((rd_T39 l0 x7_1).f5)) ∧ w'.cell? ⟨gb306, 6, none⟩ = some (.bool ((rd_T39 l0 x7_1).f6)) ∧ w'.cell? ⟨gb306, 7, none⟩ = some (.int .i64 ((rd_T39 l0 x7_1).f7)) ∧ w'.cell? ⟨gb306, 8, none⟩ = some (.int .i64 ((rd_T39 l0 x7_1).f8))) (ds := []) #[false, false, false, false, false, false, false, false, false, false, false] (by kernel_rfl) rfl rfl ⟨(blk_cell BK306.out 0).trans rfl, (blk_cell BK306.out 1).trans rfl, (blk_cell BK306.out 2).trans rfl, (blk_cell BK306.out 3).trans rfl, (blk_cell BK306.out 4).trans rfl, (blk_cell BK306.out 5).trans rfl, (blk_cell BK306.out 6).trans rfl, (blk_cell BK306.out 7).trans rfl, (blk_cell BK306.out 8).trans rfl⟩ (fun hHeld => ?_); refine with_tabW impl_JarOk.tab4 impl_JarOk.bits4 (fun HT_ HW_ => ?_)
         generalize w13.drew = w14 at BK306 HB hHeld ⊢
         refine take_ (i := 0) (N := some 12) (v := ?_) (a' := ?_) #[true, false, false, false, false, false, false, false, false, false, false] rfl rfl (take_ofW HT_.out HW_.out (by kernel_rfl)) (fun _ _ _ h => h) (Or.inl ⟨by rfl, ?_⟩) hHeld ?_ ?_
         rotate_left
         ·rintro w' ⟨s0, s1, s2, s3, s4, s5, s6, s7, s8⟩
          go_simp
          with_reducible rfl
         rotate_left
         ·simp only [Act.put, List.setIfInBounds_toArray, List.set_cons_zero, List.set_cons_succ, i64_w, i32_w]
          rfl
         refine one_ (i := 1) (N := some 13) #[true, true, false, false, false, false, false, false, false, false, false] rfl rfl (one_of HT_.out (by kernel_rfl)) (by decide) (fun K hK => ?_)
         refine goes_ Tryd.func21 (by kernel_rfl) rfl #[.agg #[.string ((rd_T39 l0 x7_1).f0), .string ((rd_T39 l0 x7_1).f1), .string ((rd_T39 l0 x7_1).f2), .bool ((rd_T39 l0 x7_1).f3), .string ((rd_T39 l0 x7_1).f4), .int .i64 ((rd_T39 l0 x7_1).f5), .bool ((rd_T39 l0 x7_1).f6), .int .i64 ((rd_T39 l0 x7_1).f7), .int .i64 ((rd_T39 l0 x7_1).f8)]] (by rfl) rfl rfl zM ?_
         with_reducible refine (impl_CookieOk.calls k1 ((rd_T39 l0 x7_1).f0) ((rd_T39 l0 x7_1).f1) ((rd_T39 l0 x7_1).f2) ((rd_T39 l0 x7_1).f3) ((rd_T39 l0 x7_1).f4) ((rd_T39 l0 x7_1).f5) ((rd_T39 l0 x7_1).f6) ((rd_T39 l0 x7_1).f7) ((rd_T39 l0 x7_1).f8) true _ A5.out ?side1).mono ?_
         (case side1 => exact GW.below HG.out zB)
         rintro e w15 ⟨rfl, hb⟩
         refine ⟨_, rfl, ?_⟩
         replace BK306 := zK BK306 hb
         replace HB := zT hb
         (try clear hb)
         have q16 : (x7_1 : Int) ≤ ((l0.length : Int) : Int) := zD
         obtain ⟨i016, hi016, _, hsz16, _⟩ := info_parts info39
         have hroom16 : l0.length ≤ c0 := HC0.out
         have hC16 : Kd.C k39 _ (some ad305) l0.length l0 := HR0.out
         have hcut16 := cut_to (P := Tryd.prog) 45 39 .i64 Tryd.underlying45 hi016 (some ad305) l0.length c0 x7_1 zD q16 hroom16
         have hr16 := Kd.C_take (m := (x7_1 : Int).toNat) hC16 (by omega)
         have hy16 : y308.length = (x7_1 : Int).toNat := (by rw [Ny308.out, List.length_take]; omega)
         rw [← Ny308.out] at hr16
         rw [← hy16] at hcut16
         have HR311 := Aside0.mk hr16
         have HC311 := Aside0.mk (show y308.length ≤ c0 from by omega)
         clear hr16 hC16 hroom16 hi016 hsz16
         have KY16 := Aside0.mk hy16
         clear hy16
         replace q16 := eq_true q16
         refine hK.out _ _ ⟨(blk_cell BK306.out 0).trans rfl, (blk_cell BK306.out 1).trans rfl, (blk_cell BK306.out 2).trans rfl, (blk_cell BK306.out 3).trans rfl, (blk_cell BK306.out 4).trans rfl, (blk_cell BK306.out 5).trans rfl, (blk_cell BK306.out 6).trans rfl, (blk_cell BK306.out 7).trans rfl, (blk_cell BK306.out 8).trans rfl⟩ (fun hHeld => ?_)
         clear hK K
         refine norm_ (a' := ?_) ?_ ?_
         rotate_left
         ·show Act.put _ (some 13) _ = _
          simp only [Act.put, List.setIfInBounds_toArray, List.set_cons_zero, List.set_cons_succ, i64_w, i32_w]
          rfl
         refine pure_ (i := 2) (N := some 14) (v := ?_) (a' := ?_) #[true, true, true, false, false, false, false, false, false, false, false] rfl rfl (any_of HT_.out (by kernel_rfl)) (fun _ _ _ h => h) (Or.inl ⟨by rfl, ?_⟩) ?_ ?_
         rotate_left
         ·intro w'
          go_simp
          with_reducible rfl
         rotate_left
         ·simp only [Act.put, List.setIfInBounds_toArray, List.set_cons_zero, List.set_cons_succ, i64_w, i32_w]
          rfl
         refine pure_ (i := 3) (N := some 15) (v := ?_) (a' := ?_) #[true, true, true, true, false, false, false, false, false, false, false] rfl rfl (any_of HT_.out (by kernel_rfl)) (fun _ _ _ h => h) (Or.inl ⟨by rfl, ?_⟩) ?_ ?_
         rotate_left
         ·intro w'
          go_simp
          with_reducible rfl
         rotate_left
         ·simp only [Act.put, List.setIfInBounds_toArray, List.set_cons_zero, List.set_cons_succ, i64_w, i32_w]
          rfl
         refine pure_ (i := 4) (N := some 16) (v := ?_) (a' := ?_) #[true, true, true, true, true, false, false, false, false, false, false] rfl rfl (any_of HT_.out (by kernel_rfl)) (fun _ _ _ h => h) (Or.inl ⟨by rfl, ?_⟩) ?_ ?_
         rotate_left
         ·intro w'
          go_simp
          with_reducible rfl
         rotate_left
         ·simp only [Act.put, List.setIfInBounds_toArray, List.set_cons_zero, List.set_cons_succ, i64_w, i32_w]
          rfl
         refine pure_ (i := 5) (N := some 17) (v := ?_) (a' := ?_) #[true, true, true, true, true, true, false, false, false, false, false] rfl rfl (any_of HT_.out (by kernel_rfl)) (fun _ _ _ h => h) (Or.inl ⟨by rfl, ?_⟩) ?_ ?_
         rotate_left
         ·intro w'
          go_simp
          with_reducible rfl
         rotate_left
         ·simp only [Act.put, List.setIfInBounds_toArray, List.set_cons_zero, List.set_cons_succ, i64_w, i32_w]
          rfl
         refine pure_ (i := 6) (N := some 18) (v := ?_) (a' := ?_) #[true, true, true, true, true, true, true, false, false, false, false] rfl rfl (any_of HT_.out (by kernel_rfl)) (fun _ _ _ h => h) (Or.inl ⟨by rfl, ?_⟩) ?_ ?_
         rotate_left
         ·intro w'
          go_simp
          with_reducible rfl
         rotate_left
         ·simp only [Act.put, List.setIfInBounds_toArray, List.set_cons_zero, List.set_cons_succ, i64_w, i32_w]
          rfl
         refine take_ (i := 7) (N := some 19) (v := ?_) (a' := ?_) #[true, true, true, true, true, true, true, true, false, false, false] rfl rfl (take_ofW HT_.out HW_.out (by kernel_rfl)) (fun _ _ _ h => h) (Or.inl ⟨by rfl, ?_⟩) hHeld ?_ ?_
         rotate_left
         ·rintro w' ⟨s0, s1, s2, s3, s4, s5, s6, s7, s8⟩
          go_simp
          with_reducible rfl
         rotate_left
         ·simp only [Act.put, List.setIfInBounds_toArray, List.set_cons_zero, List.set_cons_succ, i64_w, i32_w]
          rfl
         refine pure_ (i := 8) (N := some 20) (v := ?_) (a' := ?_) #[true, true, true, true, true, true, true, true, true, false, false] rfl rfl (any_of HT_.out (by kernel_rfl)) (fun _ _ _ h => h) (Or.inl ⟨by rfl, ?_⟩) ?_ ?_
         rotate_left
         ·intro w'
          go_simp
          with_reducible rfl
         rotate_left
         ·simp only [Act.put, List.setIfInBounds_toArray, List.set_cons_zero, List.set_cons_succ, i64_w, i32_w]
          rfl
         refine one_ (i := 9) (N := some 21) #[true, true, true, true, true, true, true, true, true, true, false] rfl rfl (one_of HT_.out (by kernel_rfl)) (by decide) (fun K hK => ?_)
         refine goes_ Tryd.func50 (by kernel_rfl) rfl #[.slice (some ad305) y308.length c0, .func (.func 51) #[.agg #[.string ((rd_T39 l0 x7_1).f0), .string ((rd_T39 l0 x7_1).f1), .string ((rd_T39 l0 x7_1).f2), .bool ((rd_T39 l0 x7_1).f3), .string ((rd_T39 l0 x7_1).f4), .int .i64 ((rd_T39 l0 x7_1).f5), .bool ((rd_T39 l0 x7_1).f6), .int .i64 ((rd_T39 l0 x7_1).f7), .int .i64 ((rd_T39 l0 x7_1).f8)]] #[]] (by rfl) rfl rfl zM ?_
         with_reducible refine (impl_Cookie_50.calls k1 _ _ y308 ((rd_T39 l0 x7_1).f0) ((rd_T39 l0 x7_1).f1) ((rd_T39 l0 x7_1).f2) ((rd_T39 l0 x7_1).f3) ((rd_T39 l0 x7_1).f4) ((rd_T39 l0 x7_1).f5) ((rd_T39 l0 x7_1).f6) ((rd_T39 l0 x7_1).f7) ((rd_T39 l0 x7_1).f8) true _ ?side1 ?side2 A9.out).mono ?_
         (case side1 => repeat (first | exact (Kd.C_below HR311.out HB.out) | (with_reducible refine Kd.C_alloc ?_ _) | (with_reducible refine Kd.C_drewN ?_ _) | (with_reducible refine Kd.C_drew ?_)))
         (case side2 => exact HC311.out)
         rintro e w17 ⟨rfl, hb⟩
         refine ⟨_, rfl, ?_⟩
         replace BK306 := zK BK306 hb
         replace HB := zT hb
         (try clear hb)
         refine hK.out _ _ ⟨(blk_cell BK306.out 0).trans rfl, (blk_cell BK306.out 1).trans rfl, (blk_cell BK306.out 2).trans rfl, (blk_cell BK306.out 3).trans rfl, (blk_cell BK306.out 4).trans rfl, (blk_cell BK306.out 5).trans rfl, (blk_cell BK306.out 6).trans rfl, (blk_cell BK306.out 7).trans rfl, (blk_cell BK306.out 8).trans rfl⟩ (fun hHeld => ?_)
         clear hK K
         refine norm_ (a' := ?_) ?_ ?_
         rotate_left
         ·show Act.put _ (some 21) _ = _
          simp only [Act.put, List.setIfInBounds_toArray, List.set_cons_zero, List.set_cons_succ, i64_w, i32_w]
          rfl
         refine pure_ (i := 10) (N := some 22) (v := ?_) (a' := ?_) #[true, true, true, true, true, true, true, true, true, true, true] rfl rfl (any_of HT_.out (by kernel_rfl)) (fun _ _ _ h => h) (Or.inl ⟨by rfl, ?_⟩) ?_ ?_
         rotate_left
         ·intro w'
          go_simp
          with_reducible rfl
         rotate_left
         ·simp only [Act.put, List.setIfInBounds_toArray, List.set_cons_zero, List.set_cons_succ, i64_w, i32_w]
          rfl
         refine done_ (done_of HT_.out (by kernel_rfl)) ?_
         try go_wp2
         go_ret
         exact ⟨zE, zB⟩
        ·replace c10 := Bool.eq_false_iff.mpr c10
         subst c10
         replace H := zJ H zF
         have H' := Aside0.mk H
         clear H
         have p305 : 0 ≤ (x7_1 : Int) := zD
         have q305 : x7_1 < (l0.length : Int) := zD
         obtain ⟨ad305, e305, hx305_0, hx305_1, hx305_2, hx305_3, hx305_4, hx305_5, hx305_6, hx305_7, hx305_8⟩ := at_T39 HR0.out x7_1 p305 q305
         cases e305
         replace hx305_0 := (HB.out.cell (World.block_lt_of_cell? w _ hx305_0)).trans hx305_0
         replace hx305_1 := (HB.out.cell (World.block_lt_of_cell? w _ hx305_1)).trans hx305_1
         replace hx305_2 := (HB.out.cell (World.block_lt_of_cell? w _ hx305_2)).trans hx305_2
         replace hx305_3 := (HB.out.cell (World.block_lt_of_cell? w _ hx305_3)).trans hx305_3
         replace hx305_4 := (HB.out.cell (World.block_lt_of_cell? w _ hx305_4)).trans hx305_4
         replace hx305_5 := (HB.out.cell (World.block_lt_of_cell? w _ hx305_5)).trans hx305_5
         replace hx305_6 := (HB.out.cell (World.block_lt_of_cell? w _ hx305_6)).trans hx305_6
         replace hx305_7 := (HB.out.cell (World.block_lt_of_cell? w _ hx305_7)).trans hx305_7
         replace hx305_8 := (HB.out.cell (World.block_lt_of_cell? w _ hx305_8)).trans hx305_8
         replace p305 := eq_true p305
         replace q305 := eq_true q305
         try go_wp2_with (first | ((with_reducible refine gate_dst (N := 4) rfl ?_); refine zX (N := 4) (cs := #[.string (⟨#[]⟩ : ByteArray), .string (⟨#[]⟩ : ByteArray), .string (⟨#[]⟩ : ByteArray), .bool false, .string (⟨#[]⟩ : ByteArray), .int .i64 0, .bool false, .int .i64 0, .int .i64 0]) (t := 39) rfl rfl ?hr zB ?_; (case hr => first | (go_simp; done) | (go_simp; rfl)); clear HB; intro gb306 w18 HB BK306 GW306; have GE306 := GW306; have hcz19_0 : w18.cell? ⟨gb306, 0, none⟩ = some (.string (⟨#[]⟩ : ByteArray)) := (blk_cell BK306.out 0).trans rfl; have hcz19_1 : w18.cell? ⟨gb306, 1, none⟩ = some (.string (⟨#[]⟩ : ByteArray)) := (blk_cell BK306.out 1).trans rfl; have hcz19_2 : w18.cell? ⟨gb306, 2, none⟩ = some (.string (⟨#[]⟩ : ByteArray)) := (blk_cell BK306.out 2).trans rfl; have hcz19_3 : w18.cell? ⟨gb306, 3, none⟩ = some (.bool false) := (blk_cell BK306.out 3).trans rfl; have hcz19_4 : w18.cell? ⟨gb306, 4, none⟩ = some (.string (⟨#[]⟩ : ByteArray)) := (blk_cell BK306.out 4).trans rfl; have hcz19_5 : w18.cell? ⟨gb306, 5, none⟩ = some (.int .i64 0) := (blk_cell BK306.out 5).trans rfl; have hcz19_6 : w18.cell? ⟨gb306, 6, none⟩ = some (.bool false) := (blk_cell BK306.out 6).trans rfl; have hcz19_7 : w18.cell? ⟨gb306, 7, none⟩ = some (.int .i64 0) := (blk_cell BK306.out 7).trans rfl; have hcz19_8 : w18.cell? ⟨gb306, 8, none⟩ = some (.int .i64 0) := (blk_cell BK306.out 8).trans rfl; have hfz19_0 := blk_frozen BK306.out 0; have hfz19_1 := blk_frozen BK306.out 1; have hfz19_2 := blk_frozen BK306.out 2; have hfz19_3 := blk_frozen BK306.out 3; have hfz19_4 := blk_frozen BK306.out 4; have hfz19_5 := blk_frozen BK306.out 5; have hfz19_6 := blk_frozen BK306.out 6; have hfz19_7 := blk_frozen BK306.out 7; have hfz19_8 := blk_frozen BK306.out 8))
         have n0_ : Aside0 ((((((((((w18.setCell ⟨gb306, 0, none⟩ (.string ((rd_T39 l0 x7_1).f0))).setCell ⟨gb306, 1, none⟩ (.string ((rd_T39 l0 x7_1).f1))).setCell ⟨gb306, 2, none⟩ (.string ((rd_T39 l0 x7_1).f2))).setCell ⟨gb306, 3, none⟩ (.bool ((rd_T39 l0 x7_1).f3))).setCell ⟨gb306, 4, none⟩ (.string ((rd_T39 l0 x7_1).f4))).setCell ⟨gb306, 5, none⟩ (.int .i64 ((rd_T39 l0 x7_1).f5))).setCell ⟨gb306, 6, none⟩ (.bool ((rd_T39 l0 x7_1).f6))).setCell ⟨gb306, 7, none⟩ (.int .i64 ((rd_T39 l0 x7_1).f7))).setCell ⟨gb306, 8, none⟩ (.int .i64 ((rd_T39 l0 x7_1).f8))).heap[gb306]? = some (.cells #[.string ((rd_T39 l0 x7_1).f0), .string ((rd_T39 l0 x7_1).f1), .string ((rd_T39 l0 x7_1).f2), .bool ((rd_T39 l0 x7_1).f3), .string ((rd_T39 l0 x7_1).f4), .int .i64 ((rd_T39 l0 x7_1).f5), .bool ((rd_T39 l0 x7_1).f6), .int .i64 ((rd_T39 l0 x7_1).f7), .int .i64 ((rd_T39 l0 x7_1).f8)] 39 (0, 0))) := ⟨by (with_reducible repeat (first | refine blk_drewN ?_ _ | refine blk_drew ?_ | refine blk_alloc ?_ _)); refine blk_put (cs := #[.string ((rd_T39 l0 x7_1).f0), .string ((rd_T39 l0 x7_1).f1), .string ((rd_T39 l0 x7_1).f2), .bool ((rd_T39 l0 x7_1).f3), .string ((rd_T39 l0 x7_1).f4), .int .i64 ((rd_T39 l0 x7_1).f5), .bool ((rd_T39 l0 x7_1).f6), .int .i64 ((rd_T39 l0 x7_1).f7), .int .i64 0]) ?_ 8 _ rfl; (with_reducible repeat (first | refine blk_drewN ?_ _ | refine blk_drew ?_ | refine blk_alloc ?_ _)); refine blk_put (cs := #[.string ((rd_T39 l0 x7_1).f0), .string ((rd_T39 l0 x7_1).f1), .string ((rd_T39 l0 x7_1).f2), .bool ((rd_T39 l0 x7_1).f3), .string ((rd_T39 l0 x7_1).f4), .int .i64 ((rd_T39 l0 x7_1).f5), .bool ((rd_T39 l0 x7_1).f6), .int .i64 0, .int .i64 0]) ?_ 7 _ rfl; (with_reducible repeat (first | refine blk_drewN ?_ _ | refine blk_drew ?_ | refine blk_alloc ?_ _)); refine blk_put (cs := #[.string ((rd_T39 l0 x7_1).f0), .string ((rd_T39 l0 x7_1).f1), .string ((rd_T39 l0 x7_1).f2), .bool ((rd_T39 l0 x7_1).f3), .string ((rd_T39 l0 x7_1).f4), .int .i64 ((rd_T39 l0 x7_1).f5), .bool false, .int .i64 0, .int .i64 0]) ?_ 6 _ rfl; (with_reducible repeat (first | refine blk_drewN ?_ _ | refine blk_drew ?_ | refine blk_alloc ?_ _)); refine blk_put (cs := #[.string ((rd_T39 l0 x7_1).f0), .string ((rd_T39 l0 x7_1).f1), .string ((rd_T39 l0 x7_1).f2), .bool ((rd_T39 l0 x7_1).f3), .string ((rd_T39 l0 x7_1).f4), .int .i64 0, .bool false, .int .i64 0, .int .i64 0]) ?_ 5 _ rfl; (with_reducible repeat (first | refine blk_drewN ?_ _ | refine blk_drew ?_ | refine blk_alloc ?_ _)); refine blk_put (cs := #[.string ((rd_T39 l0 x7_1).f0), .string ((rd_T39 l0 x7_1).f1), .string ((rd_T39 l0 x7_1).f2), .bool ((rd_T39 l0 x7_1).f3), .string (⟨#[]⟩ : ByteArray), .int .i64 0, .bool false, .int .i64 0, .int .i64 0]) ?_ 4 _ rfl; (with_reducible repeat (first | refine blk_drewN ?_ _ | refine blk_drew ?_ | refine blk_alloc ?_ _)); refine blk_put (cs := #[.string ((rd_T39 l0 x7_1).f0), .string ((rd_T39 l0 x7_1).f1), .string ((rd_T39 l0 x7_1).f2), .bool false, .string (⟨#[]⟩ : ByteArray), .int .i64 0, .bool false, .int .i64 0, .int .i64 0]) ?_ 3 _ rfl; (with_reducible repeat (first | refine blk_drewN ?_ _ | refine blk_drew ?_ | refine blk_alloc ?_ _)); refine blk_put (cs := #[.string ((rd_T39 l0 x7_1).f0), .string ((rd_T39 l0 x7_1).f1), .string (⟨#[]⟩ : ByteArray), .bool false, .string (⟨#[]⟩ : ByteArray), .int .i64 0, .bool false, .int .i64 0, .int .i64 0]) ?_ 2 _ rfl; (with_reducible repeat (first | refine blk_drewN ?_ _ | refine blk_drew ?_ | refine blk_alloc ?_ _)); refine blk_put (cs := #[.string ((rd_T39 l0 x7_1).f0), .string (⟨#[]⟩ : ByteArray), .string (⟨#[]⟩ : ByteArray), .bool false, .string (⟨#[]⟩ : ByteArray), .int .i64 0, .bool false, .int .i64 0, .int .i64 0]) ?_ 1 _ rfl; (with_reducible repeat (first | refine blk_drewN ?_ _ | refine blk_drew ?_ | refine blk_alloc ?_ _)); refine blk_put (cs := #[.string (⟨#[]⟩ : ByteArray), .string (⟨#[]⟩ : ByteArray), .string (⟨#[]⟩ : ByteArray), .bool false, .string (⟨#[]⟩ : ByteArray), .int .i64 0, .bool false, .int .i64 0, .int .i64 0]) ?_ 0 _ rfl; (with_reducible repeat (first | refine blk_drewN ?_ _ | refine blk_drew ?_ | refine blk_alloc ?_ _)); exact BK306.out⟩
         have n1_ : Aside0 (Below w.heap.size w (((((((((w18.setCell ⟨gb306, 0, none⟩ (.string ((rd_T39 l0 x7_1).f0))).setCell ⟨gb306, 1, none⟩ (.string ((rd_T39 l0 x7_1).f1))).setCell ⟨gb306, 2, none⟩ (.string ((rd_T39 l0 x7_1).f2))).setCell ⟨gb306, 3, none⟩ (.bool ((rd_T39 l0 x7_1).f3))).setCell ⟨gb306, 4, none⟩ (.string ((rd_T39 l0 x7_1).f4))).setCell ⟨gb306, 5, none⟩ (.int .i64 ((rd_T39 l0 x7_1).f5))).setCell ⟨gb306, 6, none⟩ (.bool ((rd_T39 l0 x7_1).f6))).setCell ⟨gb306, 7, none⟩ (.int .i64 ((rd_T39 l0 x7_1).f7))).setCell ⟨gb306, 8, none⟩ (.int .i64 ((rd_T39 l0 x7_1).f8)))) := ⟨zB⟩
         (try clear BK306)
         (try clear HB)
         generalize (((((((((w18.setCell ⟨gb306, 0, none⟩ (.string ((rd_T39 l0 x7_1).f0))).setCell ⟨gb306, 1, none⟩ (.string ((rd_T39 l0 x7_1).f1))).setCell ⟨gb306, 2, none⟩ (.string ((rd_T39 l0 x7_1).f2))).setCell ⟨gb306, 3, none⟩ (.bool ((rd_T39 l0 x7_1).f3))).setCell ⟨gb306, 4, none⟩ (.string ((rd_T39 l0 x7_1).f4))).setCell ⟨gb306, 5, none⟩ (.int .i64 ((rd_T39 l0 x7_1).f5))).setCell ⟨gb306, 6, none⟩ (.bool ((rd_T39 l0 x7_1).f6))).setCell ⟨gb306, 7, none⟩ (.int .i64 ((rd_T39 l0 x7_1).f7))).setCell ⟨gb306, 8, none⟩ (.int .i64 ((rd_T39 l0 x7_1).f8))) = w20 at n0_ n1_ ⊢
         have BK306 := n0_
         have HB := n1_
         clear n0_ n1_
         replace BK306 := Aside0.mk (blk_drew BK306.out)
         replace HB := Aside0.mk (below_drew1 HB.out)
         refine start_ (n := 11) (S := fun w' => w'.cell? ⟨gb306, 0, none⟩ = some (.string ((rd_T39 l0 x7_1).f0)) ∧ w'.cell? ⟨gb306, 1, none⟩ = some (.string ((rd_T39 l0 x7_1).f1)) ∧ w'.cell? ⟨gb306, 2, none⟩ = some (.string ((rd_T39 l0 x7_1).f2)) ∧ w'.cell? ⟨gb306, 3, none⟩ = some (.bool ((rd_T39 l0 x7_1).f3)) ∧ w'.cell? ⟨gb306, 4, none⟩ = some (.string ((rd_T39 l0 x7_1).f4)) ∧ w'.cell? ⟨gb306, 5, none⟩ = some (.int .i64 ((rd_T39 l0 x7_1).f5)) ∧ w'.cell? ⟨gb306, 6, none⟩ = some (.bool ((rd_T39 l0 x7_1).f6)) ∧ w'.cell? ⟨gb306, 7, none⟩ = some (.int .i64 ((rd_T39 l0 x7_1).f7)) ∧ w'.cell? ⟨gb306, 8, none⟩ = some (.int .i64 ((rd_T39 l0 x7_1).f8))) (ds := []) #[false, false, false, false, false, false, false, false, false, false, false] (by kernel_rfl) rfl rfl ⟨(blk_cell BK306.out 0).trans rfl, (blk_cell BK306.out 1).trans rfl, (blk_cell BK306.out 2).trans rfl, (blk_cell BK306.out 3).trans rfl, (blk_cell BK306.out 4).trans rfl, (blk_cell BK306.out 5).trans rfl, (blk_cell BK306.out 6).trans rfl, (blk_cell BK306.out 7).trans rfl, (blk_cell BK306.out 8).trans rfl⟩ (fun hHeld => ?_); refine with_tabW impl_JarOk.tab4 impl_JarOk.bits4 (fun HT_ HW_ => ?_)
         generalize w20.drew = w21 at BK306 HB hHeld ⊢
         refine take_ (i := 0) (N := some 12) (v := ?_) (a' := ?_) #[true, false, false, false, false, false, false, false, false, false, false] rfl rfl (take_ofW HT_.out HW_.out (by kernel_rfl)) (fun _ _ _ h => h) (Or.inl ⟨by rfl, ?_⟩) hHeld ?_ ?_
         rotate_left
         ·rintro w' ⟨s0, s1, s2, s3, s4, s5, s6, s7, s8⟩
          go_simp
          with_reducible rfl
         rotate_left
         ·simp only [Act.put, List.setIfInBounds_toArray, List.set_cons_zero, List.set_cons_succ, i64_w, i32_w]
          rfl
         refine one_ (i := 1) (N := some 13) #[true, true, false, false, false, false, false, false, false, false, false] rfl rfl (one_of HT_.out (by kernel_rfl)) (by decide) (fun K hK => ?_)
         refine goes_ Tryd.func21 (by kernel_rfl) rfl #[.agg #[.string ((rd_T39 l0 x7_1).f0), .string ((rd_T39 l0 x7_1).f1), .string ((rd_T39 l0 x7_1).f2), .bool ((rd_T39 l0 x7_1).f3), .string ((rd_T39 l0 x7_1).f4), .int .i64 ((rd_T39 l0 x7_1).f5), .bool ((rd_T39 l0 x7_1).f6), .int .i64 ((rd_T39 l0 x7_1).f7), .int .i64 ((rd_T39 l0 x7_1).f8)]] (by rfl) rfl rfl zM ?_
         with_reducible refine (impl_CookieOk.calls k1 ((rd_T39 l0 x7_1).f0) ((rd_T39 l0 x7_1).f1) ((rd_T39 l0 x7_1).f2) ((rd_T39 l0 x7_1).f3) ((rd_T39 l0 x7_1).f4) ((rd_T39 l0 x7_1).f5) ((rd_T39 l0 x7_1).f6) ((rd_T39 l0 x7_1).f7) ((rd_T39 l0 x7_1).f8) true _ A5.out ?side1).mono ?_
         (case side1 => exact GW.below HG.out zB)
         rintro e w22 ⟨rfl, hb⟩
         refine ⟨_, rfl, ?_⟩
         replace BK306 := zK BK306 hb
         replace HB := zT hb
         (try clear hb)
         have q23 : (x7_1 : Int) ≤ ((l0.length : Int) : Int) := zD
         obtain ⟨i023, hi023, _, hsz23, _⟩ := info_parts info39
         have hroom23 : l0.length ≤ c0 := HC0.out
         have hC23 : Kd.C k39 _ (some ad305) l0.length l0 := HR0.out
         have hcut23 := cut_to (P := Tryd.prog) 45 39 .i64 Tryd.underlying45 hi023 (some ad305) l0.length c0 x7_1 zD q23 hroom23
         have hr23 := Kd.C_take (m := (x7_1 : Int).toNat) hC23 (by omega)
         have hy23 : y308.length = (x7_1 : Int).toNat := (by rw [Ny308.out, List.length_take]; omega)
         rw [← Ny308.out] at hr23
         rw [← hy23] at hcut23
         have HR311 := Aside0.mk hr23
         have HC311 := Aside0.mk (show y308.length ≤ c0 from by omega)
         clear hr23 hC23 hroom23 hi023 hsz23
         have KY23 := Aside0.mk hy23
         clear hy23
         replace q23 := eq_true q23
         refine hK.out _ _ ⟨(blk_cell BK306.out 0).trans rfl, (blk_cell BK306.out 1).trans rfl, (blk_cell BK306.out 2).trans rfl, (blk_cell BK306.out 3).trans rfl, (blk_cell BK306.out 4).trans rfl, (blk_cell BK306.out 5).trans rfl, (blk_cell BK306.out 6).trans rfl, (blk_cell BK306.out 7).trans rfl, (blk_cell BK306.out 8).trans rfl⟩ (fun hHeld => ?_)
         clear hK K
         refine norm_ (a' := ?_) ?_ ?_
         rotate_left
         ·show Act.put _ (some 13) _ = _
          simp only [Act.put, List.setIfInBounds_toArray, List.set_cons_zero, List.set_cons_succ, i64_w, i32_w]
          rfl
         refine pure_ (i := 2) (N := some 14) (v := ?_) (a' := ?_) #[true, true, true, false, false, false, false, false, false, false, false] rfl rfl (any_of HT_.out (by kernel_rfl)) (fun _ _ _ h => h) (Or.inl ⟨by rfl, ?_⟩) ?_ ?_
         rotate_left
         ·intro w'
          go_simp
          with_reducible rfl
         rotate_left
         ·simp only [Act.put, List.setIfInBounds_toArray, List.set_cons_zero, List.set_cons_succ, i64_w, i32_w]
          rfl
         refine pure_ (i := 3) (N := some 15) (v := ?_) (a' := ?_) #[true, true, true, true, false, false, false, false, false, false, false] rfl rfl (any_of HT_.out (by kernel_rfl)) (fun _ _ _ h => h) (Or.inl ⟨by rfl, ?_⟩) ?_ ?_
         rotate_left
         ·intro w'
          go_simp
          with_reducible rfl
         rotate_left
         ·simp only [Act.put, List.setIfInBounds_toArray, List.set_cons_zero, List.set_cons_succ, i64_w, i32_w]
          rfl
         refine pure_ (i := 4) (N := some 16) (v := ?_) (a' := ?_) #[true, true, true, true, true, false, false, false, false, false, false] rfl rfl (any_of HT_.out (by kernel_rfl)) (fun _ _ _ h => h) (Or.inl ⟨by rfl, ?_⟩) ?_ ?_
         rotate_left
         ·intro w'
          go_simp
          with_reducible rfl
         rotate_left
         ·simp only [Act.put, List.setIfInBounds_toArray, List.set_cons_zero, List.set_cons_succ, i64_w, i32_w]
          rfl
         refine pure_ (i := 5) (N := some 17) (v := ?_) (a' := ?_) #[true, true, true, true, true, true, false, false, false, false, false] rfl rfl (any_of HT_.out (by kernel_rfl)) (fun _ _ _ h => h) (Or.inl ⟨by rfl, ?_⟩) ?_ ?_
         rotate_left
         ·intro w'
          go_simp
          with_reducible rfl
         rotate_left
         ·simp only [Act.put, List.setIfInBounds_toArray, List.set_cons_zero, List.set_cons_succ, i64_w, i32_w]
          rfl
         refine pure_ (i := 6) (N := some 18) (v := ?_) (a' := ?_) #[true, true, true, true, true, true, true, false, false, false, false] rfl rfl (any_of HT_.out (by kernel_rfl)) (fun _ _ _ h => h) (Or.inl ⟨by rfl, ?_⟩) ?_ ?_
         rotate_left
         ·intro w'
          go_simp
          with_reducible rfl
         rotate_left
         ·simp only [Act.put, List.setIfInBounds_toArray, List.set_cons_zero, List.set_cons_succ, i64_w, i32_w]
          rfl
         refine take_ (i := 7) (N := some 19) (v := ?_) (a' := ?_) #[true, true, true, true, true, true, true, true, false, false, false] rfl rfl (take_ofW HT_.out HW_.out (by kernel_rfl)) (fun _ _ _ h => h) (Or.inl ⟨by rfl, ?_⟩) hHeld ?_ ?_
         rotate_left
         ·rintro w' ⟨s0, s1, s2, s3, s4, s5, s6, s7, s8⟩
          go_simp
          with_reducible rfl
         rotate_left
         ·simp only [Act.put, List.setIfInBounds_toArray, List.set_cons_zero, List.set_cons_succ, i64_w, i32_w]
          rfl
         refine pure_ (i := 8) (N := some 20) (v := ?_) (a' := ?_) #[true, true, true, true, true, true, true, true, true, false, false] rfl rfl (any_of HT_.out (by kernel_rfl)) (fun _ _ _ h => h) (Or.inl ⟨by rfl, ?_⟩) ?_ ?_
         rotate_left
         ·intro w'
          go_simp
          with_reducible rfl
         rotate_left
         ·simp only [Act.put, List.setIfInBounds_toArray, List.set_cons_zero, List.set_cons_succ, i64_w, i32_w]
          rfl
         refine one_ (i := 9) (N := some 21) #[true, true, true, true, true, true, true, true, true, true, false] rfl rfl (one_of HT_.out (by kernel_rfl)) (by decide) (fun K hK => ?_)
         refine goes_ Tryd.func50 (by kernel_rfl) rfl #[.slice (some ad305) y308.length c0, .func (.func 51) #[.agg #[.string ((rd_T39 l0 x7_1).f0), .string ((rd_T39 l0 x7_1).f1), .string ((rd_T39 l0 x7_1).f2), .bool ((rd_T39 l0 x7_1).f3), .string ((rd_T39 l0 x7_1).f4), .int .i64 ((rd_T39 l0 x7_1).f5), .bool ((rd_T39 l0 x7_1).f6), .int .i64 ((rd_T39 l0 x7_1).f7), .int .i64 ((rd_T39 l0 x7_1).f8)]] #[]] (by rfl) rfl rfl zM ?_
         with_reducible refine (impl_Cookie_50.calls k1 _ _ y308 ((rd_T39 l0 x7_1).f0) ((rd_T39 l0 x7_1).f1) ((rd_T39 l0 x7_1).f2) ((rd_T39 l0 x7_1).f3) ((rd_T39 l0 x7_1).f4) ((rd_T39 l0 x7_1).f5) ((rd_T39 l0 x7_1).f6) ((rd_T39 l0 x7_1).f7) ((rd_T39 l0 x7_1).f8) false _ ?side1 ?side2 A9.out).mono ?_
         (case side1 => repeat (first | exact (Kd.C_below HR311.out HB.out) | (with_reducible refine Kd.C_alloc ?_ _) | (with_reducible refine Kd.C_drewN ?_ _) | (with_reducible refine Kd.C_drew ?_)))
         (case side2 => exact HC311.out)
         rintro e w24 ⟨rfl, hb⟩
         refine ⟨_, rfl, ?_⟩
         replace BK306 := zK BK306 hb
         replace HB := zT hb
         (try clear hb)
         refine hK.out _ _ ⟨(blk_cell BK306.out 0).trans rfl, (blk_cell BK306.out 1).trans rfl, (blk_cell BK306.out 2).trans rfl, (blk_cell BK306.out 3).trans rfl, (blk_cell BK306.out 4).trans rfl, (blk_cell BK306.out 5).trans rfl, (blk_cell BK306.out 6).trans rfl, (blk_cell BK306.out 7).trans rfl, (blk_cell BK306.out 8).trans rfl⟩ (fun hHeld => ?_)
         clear hK K
         refine norm_ (a' := ?_) ?_ ?_
         rotate_left
         ·show Act.put _ (some 21) _ = _
          simp only [Act.put, List.setIfInBounds_toArray, List.set_cons_zero, List.set_cons_succ, i64_w, i32_w]
          rfl
         refine pure_ (i := 10) (N := some 22) (v := ?_) (a' := ?_) #[true, true, true, true, true, true, true, true, true, true, true] rfl rfl (any_of HT_.out (by kernel_rfl)) (fun _ _ _ h => h) (Or.inl ⟨by rfl, ?_⟩) ?_ ?_
         rotate_left
         ·intro w'
          go_simp
          with_reducible rfl
         rotate_left
         ·simp only [Act.put, List.setIfInBounds_toArray, List.set_cons_zero, List.set_cons_succ, i64_w, i32_w]
          rfl
         refine done_ (done_of HT_.out (by kernel_rfl)) ?_
         try go_wp2
         go_roundg k1
         case measure => have := HK1.out; omega
         case rel => exact ⟨(wrap64 (x7_1 + 1)), zS, H', ⟨by have := HK1.out; omega⟩, ⟨zB⟩⟩
       ·rw [if_neg c8] at H
        exact absurd H (by simp)
      ·replace c6 := Bool.eq_false_iff.mpr c6
       subst c6
       replace H := zJ H zF
       obtain rfl := Option.some.inj H
       have p305 : 0 ≤ (x7_1 : Int) := zD
       have q305 : x7_1 < (l0.length : Int) := zD
       obtain ⟨ad305, e305, hx305_0, hx305_1, hx305_2, hx305_3, hx305_4, hx305_5, hx305_6, hx305_7, hx305_8⟩ := at_T39 HR0.out x7_1 p305 q305
       cases e305
       replace hx305_0 := (HB.out.cell (World.block_lt_of_cell? w _ hx305_0)).trans hx305_0
       replace hx305_1 := (HB.out.cell (World.block_lt_of_cell? w _ hx305_1)).trans hx305_1
       replace hx305_2 := (HB.out.cell (World.block_lt_of_cell? w _ hx305_2)).trans hx305_2
       replace hx305_3 := (HB.out.cell (World.block_lt_of_cell? w _ hx305_3)).trans hx305_3
       replace hx305_4 := (HB.out.cell (World.block_lt_of_cell? w _ hx305_4)).trans hx305_4
       replace hx305_5 := (HB.out.cell (World.block_lt_of_cell? w _ hx305_5)).trans hx305_5
       replace hx305_6 := (HB.out.cell (World.block_lt_of_cell? w _ hx305_6)).trans hx305_6
       replace hx305_7 := (HB.out.cell (World.block_lt_of_cell? w _ hx305_7)).trans hx305_7
       replace hx305_8 := (HB.out.cell (World.block_lt_of_cell? w _ hx305_8)).trans hx305_8
       replace p305 := eq_true p305
       replace q305 := eq_true q305
       try go_wp2_with (first | ((with_reducible refine gate_dst (N := 4) rfl ?_); refine zX (N := 4) (cs := #[.string (⟨#[]⟩ : ByteArray), .string (⟨#[]⟩ : ByteArray), .string (⟨#[]⟩ : ByteArray), .bool false, .string (⟨#[]⟩ : ByteArray), .int .i64 0, .bool false, .int .i64 0, .int .i64 0]) (t := 39) rfl rfl ?hr zB ?_; (case hr => first | (go_simp; done) | (go_simp; rfl)); clear HB; intro gb306 w25 HB BK306 GW306; have GE306 := GW306; have hcz26_0 : w25.cell? ⟨gb306, 0, none⟩ = some (.string (⟨#[]⟩ : ByteArray)) := (blk_cell BK306.out 0).trans rfl; have hcz26_1 : w25.cell? ⟨gb306, 1, none⟩ = some (.string (⟨#[]⟩ : ByteArray)) := (blk_cell BK306.out 1).trans rfl; have hcz26_2 : w25.cell? ⟨gb306, 2, none⟩ = some (.string (⟨#[]⟩ : ByteArray)) := (blk_cell BK306.out 2).trans rfl; have hcz26_3 : w25.cell? ⟨gb306, 3, none⟩ = some (.bool false) := (blk_cell BK306.out 3).trans rfl; have hcz26_4 : w25.cell? ⟨gb306, 4, none⟩ = some (.string (⟨#[]⟩ : ByteArray)) := (blk_cell BK306.out 4).trans rfl; have hcz26_5 : w25.cell? ⟨gb306, 5, none⟩ = some (.int .i64 0) := (blk_cell BK306.out 5).trans rfl; have hcz26_6 : w25.cell? ⟨gb306, 6, none⟩ = some (.bool false) := (blk_cell BK306.out 6).trans rfl; have hcz26_7 : w25.cell? ⟨gb306, 7, none⟩ = some (.int .i64 0) := (blk_cell BK306.out 7).trans rfl; have hcz26_8 : w25.cell? ⟨gb306, 8, none⟩ = some (.int .i64 0) := (blk_cell BK306.out 8).trans rfl; have hfz26_0 := blk_frozen BK306.out 0; have hfz26_1 := blk_frozen BK306.out 1; have hfz26_2 := blk_frozen BK306.out 2; have hfz26_3 := blk_frozen BK306.out 3; have hfz26_4 := blk_frozen BK306.out 4; have hfz26_5 := blk_frozen BK306.out 5; have hfz26_6 := blk_frozen BK306.out 6; have hfz26_7 := blk_frozen BK306.out 7; have hfz26_8 := blk_frozen BK306.out 8))
       have n0_ : Aside0 ((((((((((w25.setCell ⟨gb306, 0, none⟩ (.string ((rd_T39 l0 x7_1).f0))).setCell ⟨gb306, 1, none⟩ (.string ((rd_T39 l0 x7_1).f1))).setCell ⟨gb306, 2, none⟩ (.string ((rd_T39 l0 x7_1).f2))).setCell ⟨gb306, 3, none⟩ (.bool ((rd_T39 l0 x7_1).f3))).setCell ⟨gb306, 4, none⟩ (.string ((rd_T39 l0 x7_1).f4))).setCell ⟨gb306, 5, none⟩ (.int .i64 ((rd_T39 l0 x7_1).f5))).setCell ⟨gb306, 6, none⟩ (.bool ((rd_T39 l0 x7_1).f6))).setCell ⟨gb306, 7, none⟩ (.int .i64 ((rd_T39 l0 x7_1).f7))).setCell ⟨gb306, 8, none⟩ (.int .i64 ((rd_T39 l0 x7_1).f8))).heap[gb306]? = some (.cells #[.string ((rd_T39 l0 x7_1).f0), .string ((rd_T39 l0 x7_1).f1), .string ((rd_T39 l0 x7_1).f2), .bool ((rd_T39 l0 x7_1).f3), .string ((rd_T39 l0 x7_1).f4), .int .i64 ((rd_T39 l0 x7_1).f5), .bool ((rd_T39 l0 x7_1).f6), .int .i64 ((rd_T39 l0 x7_1).f7), .int .i64 ((rd_T39 l0 x7_1).f8)] 39 (0, 0))) := ⟨by (with_reducible repeat (first | refine blk_drewN ?_ _ | refine blk_drew ?_ | refine blk_alloc ?_ _)); refine blk_put (cs := #[.string ((rd_T39 l0 x7_1).f0), .string ((rd_T39 l0 x7_1).f1), .string ((rd_T39 l0 x7_1).f2), .bool ((rd_T39 l0 x7_1).f3), .string ((rd_T39 l0 x7_1).f4), .int .i64 ((rd_T39 l0 x7_1).f5), .bool ((rd_T39 l0 x7_1).f6), .int .i64 ((rd_T39 l0 x7_1).f7), .int .i64 0]) ?_ 8 _ rfl; (with_reducible repeat (first | refine blk_drewN ?_ _ | refine blk_drew ?_ | refine blk_alloc ?_ _)); refine blk_put (cs := #[.string ((rd_T39 l0 x7_1).f0), .string ((rd_T39 l0 x7_1).f1), .string ((rd_T39 l0 x7_1).f2), .bool ((rd_T39 l0 x7_1).f3), .string ((rd_T39 l0 x7_1).f4), .int .i64 ((rd_T39 l0 x7_1).f5), .bool ((rd_T39 l0 x7_1).f6), .int .i64 0, .int .i64 0]) ?_ 7 _ rfl; (with_reducible repeat (first | refine blk_drewN ?_ _ | refine blk_drew ?_ | refine blk_alloc ?_ _)); refine blk_put (cs := #[.string ((rd_T39 l0 x7_1).f0), .string ((rd_T39 l0 x7_1).f1), .string ((rd_T39 l0 x7_1).f2), .bool ((rd_T39 l0 x7_1).f3), .string ((rd_T39 l0 x7_1).f4), .int .i64 ((rd_T39 l0 x7_1).f5), .bool false, .int .i64 0, .int .i64 0]) ?_ 6 _ rfl; (with_reducible repeat (first | refine blk_drewN ?_ _ | refine blk_drew ?_ | refine blk_alloc ?_ _)); refine blk_put (cs := #[.string ((rd_T39 l0 x7_1).f0), .string ((rd_T39 l0 x7_1).f1), .string ((rd_T39 l0 x7_1).f2), .bool ((rd_T39 l0 x7_1).f3), .string ((rd_T39 l0 x7_1).f4), .int .i64 0, .bool false, .int .i64 0, .int .i64 0]) ?_ 5 _ rfl; (with_reducible repeat (first | refine blk_drewN ?_ _ | refine blk_drew ?_ | refine blk_alloc ?_ _)); refine blk_put (cs := #[.string ((rd_T39 l0 x7_1).f0), .string ((rd_T39 l0 x7_1).f1), .string ((rd_T39 l0 x7_1).f2), .bool ((rd_T39 l0 x7_1).f3), .string (⟨#[]⟩ : ByteArray), .int .i64 0, .bool false, .int .i64 0, .int .i64 0]) ?_ 4 _ rfl; (with_reducible repeat (first | refine blk_drewN ?_ _ | refine blk_drew ?_ | refine blk_alloc ?_ _)); refine blk_put (cs := #[.string ((rd_T39 l0 x7_1).f0), .string ((rd_T39 l0 x7_1).f1), .string ((rd_T39 l0 x7_1).f2), .bool false, .string (⟨#[]⟩ : ByteArray), .int .i64 0, .bool false, .int .i64 0, .int .i64 0]) ?_ 3 _ rfl; (with_reducible repeat (first | refine blk_drewN ?_ _ | refine blk_drew ?_ | refine blk_alloc ?_ _)); refine blk_put (cs := #[.string ((rd_T39 l0 x7_1).f0), .string ((rd_T39 l0 x7_1).f1), .string (⟨#[]⟩ : ByteArray), .bool false, .string (⟨#[]⟩ : ByteArray), .int .i64 0, .bool false, .int .i64 0, .int .i64 0]) ?_ 2 _ rfl; (with_reducible repeat (first | refine blk_drewN ?_ _ | refine blk_drew ?_ | refine blk_alloc ?_ _)); refine blk_put (cs := #[.string ((rd_T39 l0 x7_1).f0), .string (⟨#[]⟩ : ByteArray), .string (⟨#[]⟩ : ByteArray), .bool false, .string (⟨#[]⟩ : ByteArray), .int .i64 0, .bool false, .int .i64 0, .int .i64 0]) ?_ 1 _ rfl; (with_reducible repeat (first | refine blk_drewN ?_ _ | refine blk_drew ?_ | refine blk_alloc ?_ _)); refine blk_put (cs := #[.string (⟨#[]⟩ : ByteArray), .string (⟨#[]⟩ : ByteArray), .string (⟨#[]⟩ : ByteArray), .bool false, .string (⟨#[]⟩ : ByteArray), .int .i64 0, .bool false, .int .i64 0, .int .i64 0]) ?_ 0 _ rfl; (with_reducible repeat (first | refine blk_drewN ?_ _ | refine blk_drew ?_ | refine blk_alloc ?_ _)); exact BK306.out⟩
       have n1_ : Aside0 (Below w.heap.size w (((((((((w25.setCell ⟨gb306, 0, none⟩ (.string ((rd_T39 l0 x7_1).f0))).setCell ⟨gb306, 1, none⟩ (.string ((rd_T39 l0 x7_1).f1))).setCell ⟨gb306, 2, none⟩ (.string ((rd_T39 l0 x7_1).f2))).setCell ⟨gb306, 3, none⟩ (.bool ((rd_T39 l0 x7_1).f3))).setCell ⟨gb306, 4, none⟩ (.string ((rd_T39 l0 x7_1).f4))).setCell ⟨gb306, 5, none⟩ (.int .i64 ((rd_T39 l0 x7_1).f5))).setCell ⟨gb306, 6, none⟩ (.bool ((rd_T39 l0 x7_1).f6))).setCell ⟨gb306, 7, none⟩ (.int .i64 ((rd_T39 l0 x7_1).f7))).setCell ⟨gb306, 8, none⟩ (.int .i64 ((rd_T39 l0 x7_1).f8)))) := ⟨zB⟩
       (try clear BK306)
       (try clear HB)
       generalize (((((((((w25.setCell ⟨gb306, 0, none⟩ (.string ((rd_T39 l0 x7_1).f0))).setCell ⟨gb306, 1, none⟩ (.string ((rd_T39 l0 x7_1).f1))).setCell ⟨gb306, 2, none⟩ (.string ((rd_T39 l0 x7_1).f2))).setCell ⟨gb306, 3, none⟩ (.bool ((rd_T39 l0 x7_1).f3))).setCell ⟨gb306, 4, none⟩ (.string ((rd_T39 l0 x7_1).f4))).setCell ⟨gb306, 5, none⟩ (.int .i64 ((rd_T39 l0 x7_1).f5))).setCell ⟨gb306, 6, none⟩ (.bool ((rd_T39 l0 x7_1).f6))).setCell ⟨gb306, 7, none⟩ (.int .i64 ((rd_T39 l0 x7_1).f7))).setCell ⟨gb306, 8, none⟩ (.int .i64 ((rd_T39 l0 x7_1).f8))) = w27 at n0_ n1_ ⊢
       have BK306 := n0_
       have HB := n1_
       clear n0_ n1_
       replace BK306 := Aside0.mk (blk_drew BK306.out)
       replace HB := Aside0.mk (below_drew1 HB.out)
       refine start_ (n := 11) (S := fun w' => w'.cell? ⟨gb306, 0, none⟩ = some (.string ((rd_T39 l0 x7_1).f0)) ∧ w'.cell? ⟨gb306, 1, none⟩ = some (.string ((rd_T39 l0 x7_1).f1)) ∧ w'.cell? ⟨gb306, 2, none⟩ = some (.string ((rd_T39 l0 x7_1).f2)) ∧ w'.cell? ⟨gb306, 3, none⟩ = some (.bool ((rd_T39 l0 x7_1).f3)) ∧ w'.cell? ⟨gb306, 4, none⟩ = some (.string ((rd_T39 l0 x7_1).f4)) ∧ w'.cell? ⟨gb306, 5, none⟩ = some (.int .i64 ((rd_T39 l0 x7_1).f5)) ∧ w'.cell? ⟨gb306, 6, none⟩ = some (.bool ((rd_T39 l0 x7_1).f6)) ∧ w'.cell? ⟨gb306, 7, none⟩ = some (.int .i64 ((rd_T39 l0 x7_1).f7)) ∧ w'.cell? ⟨gb306, 8, none⟩ = some (.int .i64 ((rd_T39 l0 x7_1).f8))) (ds := []) #[false, false, false, false, false, false, false, false, false, false, false] (by kernel_rfl) rfl rfl ⟨(blk_cell BK306.out 0).trans rfl, (blk_cell BK306.out 1).trans rfl, (blk_cell BK306.out 2).trans rfl, (blk_cell BK306.out 3).trans rfl, (blk_cell BK306.out 4).trans rfl, (blk_cell BK306.out 5).trans rfl, (blk_cell BK306.out 6).trans rfl, (blk_cell BK306.out 7).trans rfl, (blk_cell BK306.out 8).trans rfl⟩ (fun hHeld => ?_); refine with_tabW impl_JarOk.tab4 impl_JarOk.bits4 (fun HT_ HW_ => ?_)
       generalize w27.drew = w28 at BK306 HB hHeld ⊢
       refine take_ (i := 0) (N := some 12) (v := ?_) (a' := ?_) #[true, false, false, false, false, false, false, false, false, false, false] rfl rfl (take_ofW HT_.out HW_.out (by kernel_rfl)) (fun _ _ _ h => h) (Or.inl ⟨by rfl, ?_⟩) hHeld ?_ ?_
       rotate_left
       ·rintro w' ⟨s0, s1, s2, s3, s4, s5, s6, s7, s8⟩
        go_simp
        with_reducible rfl
       rotate_left
       ·simp only [Act.put, List.setIfInBounds_toArray, List.set_cons_zero, List.set_cons_succ, i64_w, i32_w]
        rfl
       refine one_ (i := 1) (N := some 13) #[true, true, false, false, false, false, false, false, false, false, false] rfl rfl (one_of HT_.out (by kernel_rfl)) (by decide) (fun K hK => ?_)
       refine goes_ Tryd.func21 (by kernel_rfl) rfl #[.agg #[.string ((rd_T39 l0 x7_1).f0), .string ((rd_T39 l0 x7_1).f1), .string ((rd_T39 l0 x7_1).f2), .bool ((rd_T39 l0 x7_1).f3), .string ((rd_T39 l0 x7_1).f4), .int .i64 ((rd_T39 l0 x7_1).f5), .bool ((rd_T39 l0 x7_1).f6), .int .i64 ((rd_T39 l0 x7_1).f7), .int .i64 ((rd_T39 l0 x7_1).f8)]] (by rfl) rfl rfl zM ?_
       with_reducible refine (impl_CookieOk.calls k1 ((rd_T39 l0 x7_1).f0) ((rd_T39 l0 x7_1).f1) ((rd_T39 l0 x7_1).f2) ((rd_T39 l0 x7_1).f3) ((rd_T39 l0 x7_1).f4) ((rd_T39 l0 x7_1).f5) ((rd_T39 l0 x7_1).f6) ((rd_T39 l0 x7_1).f7) ((rd_T39 l0 x7_1).f8) false _ A5.out ?side1).mono ?_
       (case side1 => exact GW.below HG.out zB)
       rintro e w29 ⟨rfl, hb⟩
       refine ⟨_, rfl, ?_⟩
       replace BK306 := zK BK306 hb
       replace HB := zT hb
       (try clear hb)
       refine hK.out _ _ ⟨(blk_cell BK306.out 0).trans rfl, (blk_cell BK306.out 1).trans rfl, (blk_cell BK306.out 2).trans rfl, (blk_cell BK306.out 3).trans rfl, (blk_cell BK306.out 4).trans rfl, (blk_cell BK306.out 5).trans rfl, (blk_cell BK306.out 6).trans rfl, (blk_cell BK306.out 7).trans rfl, (blk_cell BK306.out 8).trans rfl⟩ (fun hHeld => ?_)
       clear hK K
       refine norm_ (a' := ?_) ?_ ?_
       rotate_left
       ·show Act.put _ (some 13) _ = _
        simp only [Act.put, List.setIfInBounds_toArray, List.set_cons_zero, List.set_cons_succ, i64_w, i32_w]
        rfl
       refine pure_ (i := 2) (N := some 14) (v := ?_) (a' := ?_) #[true, true, true, false, false, false, false, false, false, false, false] rfl rfl (any_of HT_.out (by kernel_rfl)) (fun _ _ _ h => h) (Or.inl ⟨by rfl, ?_⟩) ?_ ?_
       rotate_left
       ·intro w'
        go_simp
        with_reducible rfl
       rotate_left
       ·simp only [Act.put, List.setIfInBounds_toArray, List.set_cons_zero, List.set_cons_succ, i64_w, i32_w]
        rfl
       refine pure_ (i := 3) (N := some 15) (v := ?_) (a' := ?_) #[true, true, true, true, false, false, false, false, false, false, false] rfl rfl (any_of HT_.out (by kernel_rfl)) (fun _ _ _ h => h) (Or.inl ⟨by rfl, ?_⟩) ?_ ?_
       rotate_left
       ·intro w'
        go_simp
        with_reducible rfl
       rotate_left
       ·simp only [Act.put, List.setIfInBounds_toArray, List.set_cons_zero, List.set_cons_succ, i64_w, i32_w]
        rfl
       refine pure_ (i := 4) (N := some 16) (v := undef) (a' := ?_) #[true, true, true, true, true, false, false, false, false, false, false] rfl rfl (any_of HT_.out (by kernel_rfl)) (fun _ _ _ h => h) (Or.inr ⟨by rfl, rfl⟩) ?_ ?_
       rotate_left
       ·simp only [Act.put, List.setIfInBounds_toArray, List.set_cons_zero, List.set_cons_succ, i64_w, i32_w]
        rfl
       refine pure_ (i := 5) (N := some 17) (v := undef) (a' := ?_) #[true, true, true, true, true, true, false, false, false, false, false] rfl rfl (any_of HT_.out (by kernel_rfl)) (fun _ _ _ h => h) (Or.inr ⟨by rfl, rfl⟩) ?_ ?_
       rotate_left
       ·simp only [Act.put, List.setIfInBounds_toArray, List.set_cons_zero, List.set_cons_succ, i64_w, i32_w]
        rfl
       refine pure_ (i := 6) (N := some 18) (v := undef) (a' := ?_) #[true, true, true, true, true, true, true, false, false, false, false] rfl rfl (any_of HT_.out (by kernel_rfl)) (fun _ _ _ h => h) (Or.inr ⟨by rfl, rfl⟩) ?_ ?_
       rotate_left
       ·simp only [Act.put, List.setIfInBounds_toArray, List.set_cons_zero, List.set_cons_succ, i64_w, i32_w]
        rfl
       refine pure_ (i := 7) (N := some 19) (v := undef) (a' := ?_) #[true, true, true, true, true, true, true, true, false, false, false] rfl rfl (any_of HT_.out (by kernel_rfl)) (fun _ _ _ h => h) (Or.inr ⟨by rfl, rfl⟩) ?_ ?_
       rotate_left
       ·simp only [Act.put, List.setIfInBounds_toArray, List.set_cons_zero, List.set_cons_succ, i64_w, i32_w]
        rfl
       refine pure_ (i := 8) (N := some 20) (v := undef) (a' := ?_) #[true, true, true, true, true, true, true, true, true, false, false] rfl rfl (any_of HT_.out (by kernel_rfl)) (fun _ _ _ h => h) (Or.inr ⟨by rfl, rfl⟩) ?_ ?_
       rotate_left
       ·simp only [Act.put, List.setIfInBounds_toArray, List.set_cons_zero, List.set_cons_succ, i64_w, i32_w]
        rfl
       refine pure_ (i := 9) (N := some 21) (v := undef) (a' := ?_) #[true, true, true, true, true, true, true, true, true, true, false] rfl rfl (any_of HT_.out (by kernel_rfl)) (fun _ _ _ h => h) (Or.inr ⟨by rfl, rfl⟩) ?_ ?_
       rotate_left
       ·simp only [Act.put, List.setIfInBounds_toArray, List.set_cons_zero, List.set_cons_succ, i64_w, i32_w]
        rfl
       refine pure_ (i := 10) (N := some 22) (v := ?_) (a' := ?_) #[true, true, true, true, true, true, true, true, true, true, true] rfl rfl (any_of HT_.out (by kernel_rfl)) (fun _ _ _ h => h) (Or.inl ⟨by rfl, ?_⟩) ?_ ?_
       rotate_left
       ·intro w'
        go_simp
        with_reducible rfl
       rotate_left
       ·simp only [Act.put, List.setIfInBounds_toArray, List.set_cons_zero, List.set_cons_succ, i64_w, i32_w]
        rfl
       refine done_ (done_of HT_.out (by kernel_rfl)) ?_
       try go_wp2
       go_ret
       exact ⟨zE, zB⟩
     ·rw [if_neg c4] at H
      exact absurd H (by simp)
    ·rw [if_neg c3] at H
     exact absurd H (by simp)
   ·rw [if_neg c2] at H
    have c2b0 := decide_eq_false c2
    clear c2
    obtain rfl := Option.some.inj H
    go_wp2
    go_ret
    exact ⟨zE, zB⟩

/-! ### strings_Builder_WriteString: function 55 -/
def IsBu (B b : Nat) (s : ByteArray) (w : World) : Prop := Lib.IsBuilderF 65 5 B b (Lib.byteCells s.data.toList) w
theorem IsBu.fresh {B b : Nat} {w : World} (h : w.heap[b]? = some (.cells #[.pointer none, .slice none 0 0] 65)) (hB : B ≤ b) : IsBu B b ⟨#[]⟩ w :=
 .inl ⟨hB, _, h, ⟨by simp [Lib.byteCells], .inl ⟨rfl, rfl⟩⟩, by intro h; cases h⟩
theorem IsBu.lt {B b : Nat} {s : ByteArray} {w : World} (h : IsBu B b s w) : b < w.heap.size := h.elim (fun x => x.lt) (fun x => x.lt)
theorem IsBu.below {B b : Nat} {s : ByteArray} {w w' : World} (h : IsBu B b s w) (hb : Below w.heap.size w w') : IsBu B b s w' := by
 have at_ : ∀ {p bs}, Lib.BuilderAtF 65 5 B b p bs w → Lib.BuilderAtF 65 5 B b p bs w' := by
  rintro p bs ⟨h1, v, h2, h3, h4⟩
  refine ⟨h1, v, blk_below h2 hb, ⟨h3.1, ?_⟩, h4⟩
  rcases h3.2 with h5 | ⟨g, cap, cur, fz, e1, e2, e3, e4⟩
  ·exact .inl h5
  ·exact .inr ⟨g, cap, cur, fz, e1, e2, blk_below e3 hb, e4⟩
 exact h.elim (fun x => .inl (at_ x)) (fun x => .inr (at_ x))
theorem anch_ {n : Nat} {w W : World} (h : Below n w W) : ∃ z, z = W := ⟨_, rfl⟩
theorem zKb {w w1 w2 : World} {g b e : Nat} {c : Array Value} {t : TypeId} {fz : Nat × Nat} (h : Aside0 (w.heap[g]? = some (.cells c t fz))) (hok : Lib.OthersKept e (some b) w1 w2) (hne : g ≠ b) (ht : t ≠ e) (s : w.heap[g]? = some (.cells c t fz) → w1.heap[g]? = some (.cells c t fz) := by intro hh_; (with_reducible repeat (first | refine blk_drewN ?_ _ | refine blk_drew ?_ | refine blk_alloc ?_ _)); exact hh_) : Aside0 (w2.heap[g]? = some (.cells c t fz)) :=
 ⟨hok g _ (s h.out) (fun e => hne (Option.some.inj e)) (fun c2 f2 e => ht (by injection e))⟩
def strings_Builder_WriteString.f (a0 : ByteArray) (a1 : ByteArray) : Option ByteArray := if a0.size + a1.size ≤ 140737488355328 then some (a0 ++ a1) else none
theorem strings_Builder_WriteString.calls (B b : Nat) (a0 : ByteArray) (a1 : ByteArray) (r : ByteArray) (w : World) (hu : IsBu B b a0 w) (hB : B ≤ w.heap.size) (h : strings_Builder_WriteString.f a0 a1 = some r) :
  Calls Tryd.prog 55 #[.pointer (some ⟨b, 0, none⟩), .string a1] w fun e w' => e = .returned (.tuple #[.int .i64 a1.size, .nilIface]) ∧ IsBu B b r w' ∧ Below B w w' ∧ Lib.OthersKept 5 (some b) w w' := by
 unfold strings_Builder_WriteString.f at h
 split at h
 case isFalse => cases h
 case isTrue hc =>
  obtain rfl := Option.some.inj h
  refine (Tryd.Builder_WriteString_kB B b _ a1 w hu (by rw [Lib.byteCells_length]; exact hc) hB).mono ?_
  rintro e w' ⟨rfl, h1, h2, h3⟩
  refine ⟨rfl, .inr ?_, h2, h3⟩
  rw [Lib.strCells_eq, ← Lib.byteCells_append] at h1
  rw [show (a0 ++ a1).data.toList = a0.data.toList ++ a1.data.toList by simp]
  exact h1

/-! ### impl_row: function 56 -/
def impl_row.f (l0 : List ByteArray) : Option (ByteArray) := (strings_Join.f l0 (⟨#[32]⟩ : ByteArray)).bind fun t313 => (if t313.size + 1 ≤ 9223372036854775807 then (some (t313 ++ (⟨#[10]⟩ : ByteArray))) else (none))
set_option maxHeartbeats 8000000 in
set_option maxRecDepth 100000 in
theorem impl_row.calls (A0 : Option Addr) (c0 : Nat) (l0 : List ByteArray) (r : ByteArray) (w : World) (hr0 : Kd.C Kd.string w A0 l0.length l0) (hc0 : l0.length ≤ c0) (h : impl_row.f l0 = some r) :
  Calls Tryd.prog 56 #[.slice A0 l0.length c0] w fun e w' => e = .returned (.string r) ∧ Below w.heap.size w w' := by
 have HR0 := Aside0.mk hr0
 have HC0 := Aside0.mk hc0
 clear hr0 hc0
 have HB := Aside0.mk (Below.refl w.heap.size w)
 have H : ((strings_Join.f l0 (⟨#[32]⟩ : ByteArray)).bind fun t313 => (if t313.size + 1 ≤ 9223372036854775807 then (some (t313 ++ (⟨#[10]⟩ : ByteArray))) else (none))) = some r := h
 clear h
 obtain ⟨t313, A2, H⟩ := zO H
 by_cases c3 : t313.size + 1 ≤ 9223372036854775807
 ·rw [if_pos c3] at H
  have c3b0 := eq_true c3
  have c3b1 := decide_eq_true c3
  try have c3b2 : (9223372036854775807 < t313.size + 1) = False := eq_false (Nat.not_lt.2 c3)
  obtain rfl := Option.some.inj H
  go_enter Tryd.func56, Tryd.ntmps56
  go_wp2_with (first | ((with_reducible refine gate_callee (f := 53) rfl ?_); refine goesL_ (some 4) rfl rfl Tryd.func53 (by kernel_rfl) rfl #[.slice A0 l0.length c0, .string (⟨#[32]⟩ : ByteArray)] rfl zM ?_; (with_reducible refine (strings_Join.calls _ _ l0 (⟨#[32]⟩ : ByteArray) t313 _ ?side1 ?side2 A2.out).mono ?_); (case side1 => repeat (first | exact HR0.out | (with_reducible refine Kd.C_alloc ?_ _) | (with_reducible refine Kd.C_drewN ?_ _) | (with_reducible refine Kd.C_drew ?_))); (case side2 => exact HC0.out); rintro e w4 ⟨rfl, hb⟩; refine ⟨_, rfl, ?_⟩; replace HB := zT hb; (try clear hb)))
  go_ret
  exact ⟨zE, zB⟩
 ·rw [if_neg c3] at H
  exact absurd H (by simp)

end Go.Proofs.YtakobibclhdakaaDoor.PFnExactJarSave
