-- printed by a program of this session's (wip/myprint.py) out of the translation; Lean checks it
import Derived.Test.YtakobibclhdakaaDoorPFnExactJarSavex0
import Derived.Test.YtakobibclhdakaaDoorPFnExactJarSavex2
import Derived.Test.YtakobibclhdakaaDoorPFnExactJarSavex10
import Derived.Test.YtakobibclhdakaaDoorPFnExactJarSavex13
import Derived.Test.YtakobibclhdakaaDoorPFnExactJarSavex15
import Derived.Test.YtakobibclhdakaaDoorPFnExactJarSavex16
namespace Go.Proofs.YtakobibclhdakaaDoor.PFnExactJarSave
open Go.RowKit Go.Proofs.YtakobibclhdakaaDoorG Go.Proofs.YtakobibclhdakaaDoorZ Go.Proofs.YtakobibclhdakaaDoorW.PrintWords Go.Proofs.YtakobibclhdakaaDoorW.PrintLast Go.Proofs.YtakobibclhdakaaDoorW.PrintMore
attribute [local go_sem] str_leq str_gtr str_geq max2_int min2_int max_two min_two max_three min_three max_four min_four   -- for this text's walks alone
set_option linter.unusedVariables false
set_option linter.unusedSimpArgs false

/-! ### impl_JarSave: function 30 -/
def impl_JarSave.l0 : Nat → ByteArray → List (S39) → Int → Int → Option (ByteArray)
 | 0, _, _, _, _ => none
 | k + 1, x3, x9, x10, x11 => if x11 < x10 then (if 0 ≤ x11 then (if x11 < (x9.length : Int) then ((impl_hexText.f k ((rd_T39 x9 x11).f1)).bind fun t324 => ((impl_bit.f ((rd_T39 x9 x11).f3)).bind fun t325 => ((impl_hexText.f k ((rd_T39 x9 x11).f4)).bind fun t326 => ((strconv_Itoa.f ((rd_T39 x9 x11).f5)).bind fun t327 => ((impl_bit.f ((rd_T39 x9 x11).f6)).bind fun t328 => ((strconv_Itoa.f ((rd_T39 x9 x11).f7)).bind fun t329 => ((strconv_Itoa.f ((rd_T39 x9 x11).f8)).bind fun t330 => ((impl_row.f (([(rd_T39 x9 x11).f0, t324, (rd_T39 x9 x11).f2, t325, t326, t327, t328, t329, t330] : List ByteArray))).bind fun t334 => ((strings_Builder_WriteString.f x3 t334).bind fun t335 => (impl_JarSave.l0 k t335 x9 x10 (wrap64 (x11 + 1)))))))))))) else (none)) else (none)) else ((strings_Builder_String.f x3).bind fun t321 => (some t321))
def impl_JarSave.f (k : Nat) (l0 : List (S39)) : Option (ByteArray) := (impl_JarOk.f k l0).bind fun t320 => (if t320 = true then (impl_JarSave.l0 k (⟨#[]⟩ : ByteArray) l0 (l0.length : Int) 0) else (some (⟨#[]⟩ : ByteArray)))
theorem impl_JarSave.mono_l : ∀ k, (∀ y0 y1 y2 y3, LeO (impl_JarSave.l0 k y0 y1 y2 y3) (impl_JarSave.l0 (k + 1) y0 y1 y2 y3))
 | 0 => fun _ _ _ _ r h => by simp [impl_JarSave.l0] at h
 | k + 1 => by
  have ih0 := impl_JarSave.mono_l k
  all_goals intros
  all_goals first | unfold impl_JarSave.l0
  all_goals repeat' (first | (with_reducible first | apply ih0 | apply impl_JarOk.mono | apply impl_hexText.mono | exact LeO.refl _ | exact LeO.none _ | refine LeO.ite ?_ ?_ | refine LeO.bind ?_ fun _ => ?_) | apply ih0 | apply impl_JarOk.mono | apply impl_hexText.mono | exact LeO.none _ | refine LeO.ite ?_ ?_ | refine LeO.bind ?_ fun _ => ?_)
theorem impl_JarSave.mono : ∀ a0 k, LeO (impl_JarSave.f k a0) (impl_JarSave.f (k + 1) a0) := by
 intro a0 k
 have ih0 := impl_JarSave.mono_l k
 unfold impl_JarSave.f
 repeat' (first | (with_reducible first | apply ih0 | apply impl_JarOk.mono | apply impl_hexText.mono | exact LeO.refl _ | exact LeO.none _ | refine LeO.ite ?_ ?_ | refine LeO.bind ?_ fun _ => ?_) | apply ih0 | apply impl_JarOk.mono | apply impl_hexText.mono | exact LeO.none _ | refine LeO.ite ?_ ?_ | refine LeO.bind ?_ fun _ => ?_)
def impl_JarSave.T7 : Bool × List (List Nat × List Nat) := (true, [([], []), ([0], [0]), ([], []), ([2], [2]), ([3], [3]), ([], []), ([5], [5]), ([], []), ([7], [7]), ([8, 4], [8]), ([], []), ([10], [10]), ([11, 9], [11]), ([], []), ([13], [13]), ([14, 12], [14]), ([], []), ([16], [16]), ([17, 15], [17]), ([], []), ([19], [19]), ([20, 18], [20]), ([], []), ([22], [22]), ([23, 21], [23]), ([1, 4, 6, 9, 12, 15, 18, 21, 24], [1, 4, 6, 9, 12, 15, 18, 21, 24]), ([25, 24], [25]), ([26, 26], [26])])
def impl_JarSave.B7 : List Nat := [0, 1, 0, 4, 12, 0, 32, 0, 128, 412, 0, 1024, 3996, 0, 8192, 32668, 0, 65536, 262044, 0, 524288, 2097052, 0, 4194304, 16777116, 33554431, 67108863, 134217727]
theorem impl_JarSave.tab7 : rtab .any (opsOf Tryd.f30 7) = impl_JarSave.T7 := by kernel_rfl
theorem impl_JarSave.bits7 : waitsOk impl_JarSave.T7.2 impl_JarSave.B7 = true := by kernel_rfl
set_option maxHeartbeats 8000000 in
set_option maxRecDepth 100000 in
theorem impl_JarSave.calls (k : Nat) (A0 : Option Addr) (c0 : Nat) (l0 : List (S39)) (r : ByteArray) (w : World) (hr0 : Kd.C k39 w A0 l0.length l0) (hc0 : l0.length ≤ c0) (h : impl_JarSave.f k l0 = some r) (hG : GW w) :
  Calls Tryd.prog 30 #[.slice A0 l0.length c0] w fun e w' => e = .returned (.string r) ∧ Below w.heap.size w w' := by
 have HG := Aside0.mk hG
 clear hG
 have hu39 := Tryd.underlying39
 have HR0 := Aside0.mk hr0
 have HC0 := Aside0.mk hc0
 clear hr0 hc0
 have HB := Aside0.mk (Below.refl w.heap.size w)
 have HR0z := HR0
 have HGz := HG
 have HB0 := HB
 have H : ((impl_JarOk.f k l0).bind fun t320 => (if t320 = true then (impl_JarSave.l0 k (⟨#[]⟩ : ByteArray) l0 (l0.length : Int) 0) else (some (⟨#[]⟩ : ByteArray)))) = some r := h
 clear h
 obtain ⟨t320, A2, H⟩ := zO H
 by_cases c3 : t320 = true
 ·subst c3
  replace H := zI H rfl
  have H' := Aside0.mk H
  clear H
  go_enter Tryd.func30, Tryd.ntmps30
  go_wp2_with (first | ((with_reducible refine gate_dst (N := 3) rfl ?_); refine zX (N := 3) (cs := #[.pointer none, .slice none 0 0]) (t := 65) rfl rfl ?hr zB ?_; (case hr => first | (go_simp; done) | (go_simp; rfl)); clear HB; intro gbu wbu HB BKU GWU; have BU := Aside0.mk (IsBu.fresh BKU.out GWU.out); clear GWU BKU) | ((with_reducible refine gate_callee (f := 25) rfl ?_); refine goesL_ (some 7) rfl rfl Tryd.func25 (by kernel_rfl) rfl #[.slice A0 l0.length c0] rfl zM ?_; (with_reducible refine (impl_JarOk.calls k _ _ l0 true _ ?side1 ?side2 A2.out ?side3).mono ?_); (case side1 => repeat (first | exact HR0.out | (with_reducible refine Kd.C_alloc ?_ _) | (with_reducible refine Kd.C_drewN ?_ _) | (with_reducible refine Kd.C_drew ?_))); (case side2 => exact HC0.out); (case side3 => exact GW.below HG.out zB); rintro e w4 ⟨rfl, hb⟩; refine ⟨_, rfl, ?_⟩; replace HB := zT hb; (try clear hb)))
  go_loopg [11] k (fun kq v11 w' => ∃ (x3_1 : ByteArray) (x11_1 : Int), v11 = .int .i64 x11_1 ∧ Aside0 (impl_JarSave.l0 kq x3_1 l0 (l0.length : Int) x11_1 = some r) ∧ Aside0 (kq ≤ k) ∧ Aside0 (Below w.heap.size w w') ∧ Aside0 (IsBu w.heap.size gbu x3_1 w'))
  case atStart => exact ⟨((⟨#[]⟩ : ByteArray)), (0), zS, H', ⟨Nat.le_refl _⟩, ⟨zB⟩, ⟨IsBu.below BU.out (by first | exact Below.refl _ _ | (repeat (first | apply below_alloc | apply pw_below_drewN | apply below_drew1); exact Below.refl _ _))⟩⟩
  case round =>
   clear H'
   try clear c3
   obtain ⟨x3_1, x11_1, rfl, HA, HK1, HB, BU⟩ := hrel
   clear HB0
   have HB0 := HB
   clear HB
   obtain ⟨w, ew_⟩ := anch_ HB0.out
   subst ew_
   replace HR0 := Aside0.mk (Kd.C_below HR0z.out HB0.out)
   replace HG := Aside0.mk (GW.below HGz.out HB0.out)
   have HB := Aside0.mk (Below.refl w.heap.size w)
   cases gk with
   | zero => exact absurd HA.out (by simp [impl_JarSave.l0])
   | succ k1 =>
    have H := HA.out
    clear HA
    simp only [impl_JarSave.l0] at H
    by_cases c5 : x11_1 < (l0.length : Int)
    ·rw [if_pos c5] at H
     have c5b0 := decide_eq_true c5
     clear c5
     by_cases c6 : 0 ≤ x11_1
     ·rw [if_pos c6] at H
      have c6b0 := decide_eq_true c6
      clear c6
      by_cases c7 : x11_1 < (l0.length : Int)
      ·rw [if_pos c7] at H
       have c7b0 := decide_eq_true c7
       clear c7
       obtain ⟨t324, A8, H⟩ := zO H
       obtain ⟨t325, A9, H⟩ := zO H
       obtain ⟨t326, A10, H⟩ := zO H
       obtain ⟨t327, A11, H⟩ := zO H
       obtain ⟨t328, A12, H⟩ := zO H
       obtain ⟨t329, A13, H⟩ := zO H
       obtain ⟨t330, A14, H⟩ := zO H
       obtain ⟨y331, hy331⟩ : ∃ y_ : List ByteArray, y_ = (([(rd_T39 l0 x11_1).f0, t324, (rd_T39 l0 x11_1).f2, t325, t326, t327, t328, t329, t330] : List ByteArray)) := ⟨_, rfl⟩
       replace H : ((impl_row.f y331).bind fun t334 => ((strings_Builder_WriteString.f x3_1 t334).bind fun t335 => (impl_JarSave.l0 k1 t335 l0 (l0.length : Int) (wrap64 (x11_1 + 1))))) = some r := by first | (rw [hy331]; with_reducible exact H) | (have H2_ := (Option.bind_some _ _).symm.trans H; rw [hy331]; with_reducible exact H2_) | (have H2_ := (Option.bind_some _ _).symm.trans H; with_reducible exact H2_) | with_reducible exact H | (rw [hy331]; exact H) | exact H
       have Ny331 := Aside0.mk hy331
       clear hy331
       obtain ⟨t334, A15, H⟩ := zO H
       obtain ⟨t335, A16, H⟩ := zO H
       have H' := Aside0.mk H
       clear H
       have p322 : 0 ≤ (x11_1 : Int) := zD
       have q322 : x11_1 < (l0.length : Int) := zD
       obtain ⟨ad322, e322, hx322_0, hx322_1, hx322_2, hx322_3, hx322_4, hx322_5, hx322_6, hx322_7, hx322_8⟩ := at_T39 HR0.out x11_1 p322 q322
       cases e322
       replace hx322_0 := (HB.out.cell (World.block_lt_of_cell? w _ hx322_0)).trans hx322_0
       replace hx322_1 := (HB.out.cell (World.block_lt_of_cell? w _ hx322_1)).trans hx322_1
       replace hx322_2 := (HB.out.cell (World.block_lt_of_cell? w _ hx322_2)).trans hx322_2
       replace hx322_3 := (HB.out.cell (World.block_lt_of_cell? w _ hx322_3)).trans hx322_3
       replace hx322_4 := (HB.out.cell (World.block_lt_of_cell? w _ hx322_4)).trans hx322_4
       replace hx322_5 := (HB.out.cell (World.block_lt_of_cell? w _ hx322_5)).trans hx322_5
       replace hx322_6 := (HB.out.cell (World.block_lt_of_cell? w _ hx322_6)).trans hx322_6
       replace hx322_7 := (HB.out.cell (World.block_lt_of_cell? w _ hx322_7)).trans hx322_7
       replace hx322_8 := (HB.out.cell (World.block_lt_of_cell? w _ hx322_8)).trans hx322_8
       replace p322 := eq_true p322
       replace q322 := eq_true q322
       try go_wp2_with (first | ((with_reducible refine gate_dst (N := 5) rfl ?_); refine zX (N := 5) (cs := #[.string (⟨#[]⟩ : ByteArray), .string (⟨#[]⟩ : ByteArray), .string (⟨#[]⟩ : ByteArray), .bool false, .string (⟨#[]⟩ : ByteArray), .int .i64 0, .bool false, .int .i64 0, .int .i64 0]) (t := 39) rfl rfl ?hr zB ?_; (case hr => first | (go_simp; done) | (go_simp; rfl)); clear HB; intro gb323 w17 HB BK323 GW323; have GE323 := GW323; have hcz18_0 : w17.cell? ⟨gb323, 0, none⟩ = some (.string (⟨#[]⟩ : ByteArray)) := (blk_cell BK323.out 0).trans rfl; have hcz18_1 : w17.cell? ⟨gb323, 1, none⟩ = some (.string (⟨#[]⟩ : ByteArray)) := (blk_cell BK323.out 1).trans rfl; have hcz18_2 : w17.cell? ⟨gb323, 2, none⟩ = some (.string (⟨#[]⟩ : ByteArray)) := (blk_cell BK323.out 2).trans rfl; have hcz18_3 : w17.cell? ⟨gb323, 3, none⟩ = some (.bool false) := (blk_cell BK323.out 3).trans rfl; have hcz18_4 : w17.cell? ⟨gb323, 4, none⟩ = some (.string (⟨#[]⟩ : ByteArray)) := (blk_cell BK323.out 4).trans rfl; have hcz18_5 : w17.cell? ⟨gb323, 5, none⟩ = some (.int .i64 0) := (blk_cell BK323.out 5).trans rfl; have hcz18_6 : w17.cell? ⟨gb323, 6, none⟩ = some (.bool false) := (blk_cell BK323.out 6).trans rfl; have hcz18_7 : w17.cell? ⟨gb323, 7, none⟩ = some (.int .i64 0) := (blk_cell BK323.out 7).trans rfl; have hcz18_8 : w17.cell? ⟨gb323, 8, none⟩ = some (.int .i64 0) := (blk_cell BK323.out 8).trans rfl; have hfz18_0 := blk_frozen BK323.out 0; have hfz18_1 := blk_frozen BK323.out 1; have hfz18_2 := blk_frozen BK323.out 2; have hfz18_3 := blk_frozen BK323.out 3; have hfz18_4 := blk_frozen BK323.out 4; have hfz18_5 := blk_frozen BK323.out 5; have hfz18_6 := blk_frozen BK323.out 6; have hfz18_7 := blk_frozen BK323.out 7; have hfz18_8 := blk_frozen BK323.out 8))
       have n0_ : Aside0 ((((((((((w17.setCell ⟨gb323, 0, none⟩ (.string ((rd_T39 l0 x11_1).f0))).setCell ⟨gb323, 1, none⟩ (.string ((rd_T39 l0 x11_1).f1))).setCell ⟨gb323, 2, none⟩ (.string ((rd_T39 l0 x11_1).f2))).setCell ⟨gb323, 3, none⟩ (.bool ((rd_T39 l0 x11_1).f3))).setCell ⟨gb323, 4, none⟩ (.string ((rd_T39 l0 x11_1).f4))).setCell ⟨gb323, 5, none⟩ (.int .i64 ((rd_T39 l0 x11_1).f5))).setCell ⟨gb323, 6, none⟩ (.bool ((rd_T39 l0 x11_1).f6))).setCell ⟨gb323, 7, none⟩ (.int .i64 ((rd_T39 l0 x11_1).f7))).setCell ⟨gb323, 8, none⟩ (.int .i64 ((rd_T39 l0 x11_1).f8))).heap[gb323]? = some (.cells #[.string ((rd_T39 l0 x11_1).f0), .string ((rd_T39 l0 x11_1).f1), .string ((rd_T39 l0 x11_1).f2), .bool ((rd_T39 l0 x11_1).f3), .string ((rd_T39 l0 x11_1).f4), .int .i64 ((rd_T39 l0 x11_1).f5), .bool ((rd_T39 l0 x11_1).f6), .int .i64 ((rd_T39 l0 x11_1).f7), .int .i64 ((rd_T39 l0 x11_1).f8)] 39 (0, 0))) := ⟨by (with_reducible repeat (first | refine blk_drewN ?_ _ | refine blk_drew ?_ | refine blk_alloc ?_ _)); refine blk_put (cs := #[.string ((rd_T39 l0 x11_1).f0), .string ((rd_T39 l0 x11_1).f1), .string ((rd_T39 l0 x11_1).f2), .bool ((rd_T39 l0 x11_1).f3), .string ((rd_T39 l0 x11_1).f4), .int .i64 ((rd_T39 l0 x11_1).f5), .bool ((rd_T39 l0 x11_1).f6), .int .i64 ((rd_T39 l0 x11_1).f7), .int .i64 0]) ?_ 8 _ rfl; (with_reducible repeat (first | refine blk_drewN ?_ _ | refine blk_drew ?_ | refine blk_alloc ?_ _)); refine blk_put (cs := #[.string ((rd_T39 l0 x11_1).f0), .string ((rd_T39 l0 x11_1).f1), .string ((rd_T39 l0 x11_1).f2), .bool ((rd_T39 l0 x11_1).f3), .string ((rd_T39 l0 x11_1).f4), .int .i64 ((rd_T39 l0 x11_1).f5), .bool ((rd_T39 l0 x11_1).f6), .int .i64 0, .int .i64 0]) ?_ 7 _ rfl; (with_reducible repeat (first | refine blk_drewN ?_ _ | refine blk_drew ?_ | refine blk_alloc ?_ _)); refine blk_put (cs := #[.string ((rd_T39 l0 x11_1).f0), .string ((rd_T39 l0 x11_1).f1), .string ((rd_T39 l0 x11_1).f2), .bool ((rd_T39 l0 x11_1).f3), .string ((rd_T39 l0 x11_1).f4), .int .i64 ((rd_T39 l0 x11_1).f5), .bool false, .int .i64 0, .int .i64 0]) ?_ 6 _ rfl; (with_reducible repeat (first | refine blk_drewN ?_ _ | refine blk_drew ?_ | refine blk_alloc ?_ _)); refine blk_put (cs := #[.string ((rd_T39 l0 x11_1).f0), .string ((rd_T39 l0 x11_1).f1), .string ((rd_T39 l0 x11_1).f2), .bool ((rd_T39 l0 x11_1).f3), .string ((rd_T39 l0 x11_1).f4), .int .i64 0, .bool false, .int .i64 0, .int .i64 0]) ?_ 5 _ rfl; (with_reducible repeat (first | refine blk_drewN ?_ _ | refine blk_drew ?_ | refine blk_alloc ?_ _)); refine blk_put (cs := #[.string ((rd_T39 l0 x11_1).f0), .string ((rd_T39 l0 x11_1).f1), .string ((rd_T39 l0 x11_1).f2), .bool ((rd_T39 l0 x11_1).f3), .string (⟨#[]⟩ : ByteArray), .int .i64 0, .bool false, .int .i64 0, .int .i64 0]) ?_ 4 _ rfl; (with_reducible repeat (first | refine blk_drewN ?_ _ | refine blk_drew ?_ | refine blk_alloc ?_ _)); refine blk_put (cs := #[.string ((rd_T39 l0 x11_1).f0), .string ((rd_T39 l0 x11_1).f1), .string ((rd_T39 l0 x11_1).f2), .bool false, .string (⟨#[]⟩ : ByteArray), .int .i64 0, .bool false, .int .i64 0, .int .i64 0]) ?_ 3 _ rfl; (with_reducible repeat (first | refine blk_drewN ?_ _ | refine blk_drew ?_ | refine blk_alloc ?_ _)); refine blk_put (cs := #[.string ((rd_T39 l0 x11_1).f0), .string ((rd_T39 l0 x11_1).f1), .string (⟨#[]⟩ : ByteArray), .bool false, .string (⟨#[]⟩ : ByteArray), .int .i64 0, .bool false, .int .i64 0, .int .i64 0]) ?_ 2 _ rfl; (with_reducible repeat (first | refine blk_drewN ?_ _ | refine blk_drew ?_ | refine blk_alloc ?_ _)); refine blk_put (cs := #[.string ((rd_T39 l0 x11_1).f0), .string (⟨#[]⟩ : ByteArray), .string (⟨#[]⟩ : ByteArray), .bool false, .string (⟨#[]⟩ : ByteArray), .int .i64 0, .bool false, .int .i64 0, .int .i64 0]) ?_ 1 _ rfl; (with_reducible repeat (first | refine blk_drewN ?_ _ | refine blk_drew ?_ | refine blk_alloc ?_ _)); refine blk_put (cs := #[.string (⟨#[]⟩ : ByteArray), .string (⟨#[]⟩ : ByteArray), .string (⟨#[]⟩ : ByteArray), .bool false, .string (⟨#[]⟩ : ByteArray), .int .i64 0, .bool false, .int .i64 0, .int .i64 0]) ?_ 0 _ rfl; (with_reducible repeat (first | refine blk_drewN ?_ _ | refine blk_drew ?_ | refine blk_alloc ?_ _)); exact BK323.out⟩
       have n1_ : Aside0 (Below w.heap.size w (((((((((w17.setCell ⟨gb323, 0, none⟩ (.string ((rd_T39 l0 x11_1).f0))).setCell ⟨gb323, 1, none⟩ (.string ((rd_T39 l0 x11_1).f1))).setCell ⟨gb323, 2, none⟩ (.string ((rd_T39 l0 x11_1).f2))).setCell ⟨gb323, 3, none⟩ (.bool ((rd_T39 l0 x11_1).f3))).setCell ⟨gb323, 4, none⟩ (.string ((rd_T39 l0 x11_1).f4))).setCell ⟨gb323, 5, none⟩ (.int .i64 ((rd_T39 l0 x11_1).f5))).setCell ⟨gb323, 6, none⟩ (.bool ((rd_T39 l0 x11_1).f6))).setCell ⟨gb323, 7, none⟩ (.int .i64 ((rd_T39 l0 x11_1).f7))).setCell ⟨gb323, 8, none⟩ (.int .i64 ((rd_T39 l0 x11_1).f8)))) := ⟨zB⟩
       (try clear BK323)
       (try clear HB)
       generalize (((((((((w17.setCell ⟨gb323, 0, none⟩ (.string ((rd_T39 l0 x11_1).f0))).setCell ⟨gb323, 1, none⟩ (.string ((rd_T39 l0 x11_1).f1))).setCell ⟨gb323, 2, none⟩ (.string ((rd_T39 l0 x11_1).f2))).setCell ⟨gb323, 3, none⟩ (.bool ((rd_T39 l0 x11_1).f3))).setCell ⟨gb323, 4, none⟩ (.string ((rd_T39 l0 x11_1).f4))).setCell ⟨gb323, 5, none⟩ (.int .i64 ((rd_T39 l0 x11_1).f5))).setCell ⟨gb323, 6, none⟩ (.bool ((rd_T39 l0 x11_1).f6))).setCell ⟨gb323, 7, none⟩ (.int .i64 ((rd_T39 l0 x11_1).f7))).setCell ⟨gb323, 8, none⟩ (.int .i64 ((rd_T39 l0 x11_1).f8))) = w19 at n0_ n1_ ⊢
       have BK323 := n0_
       have HB := n1_
       clear n0_ n1_
       replace BK323 := Aside0.mk (blk_drew BK323.out)
       replace HB := Aside0.mk (below_drew1 HB.out)
       refine start_ (n := 28) (S := fun w' => w'.cell? ⟨gb323, 0, none⟩ = some (.string ((rd_T39 l0 x11_1).f0)) ∧ w'.cell? ⟨gb323, 1, none⟩ = some (.string ((rd_T39 l0 x11_1).f1)) ∧ w'.cell? ⟨gb323, 2, none⟩ = some (.string ((rd_T39 l0 x11_1).f2)) ∧ w'.cell? ⟨gb323, 3, none⟩ = some (.bool ((rd_T39 l0 x11_1).f3)) ∧ w'.cell? ⟨gb323, 4, none⟩ = some (.string ((rd_T39 l0 x11_1).f4)) ∧ w'.cell? ⟨gb323, 5, none⟩ = some (.int .i64 ((rd_T39 l0 x11_1).f5)) ∧ w'.cell? ⟨gb323, 6, none⟩ = some (.bool ((rd_T39 l0 x11_1).f6)) ∧ w'.cell? ⟨gb323, 7, none⟩ = some (.int .i64 ((rd_T39 l0 x11_1).f7)) ∧ w'.cell? ⟨gb323, 8, none⟩ = some (.int .i64 ((rd_T39 l0 x11_1).f8))) (ds := []) #[false, false, false, false, false, false, false, false, false, false, false, false, false, false, false, false, false, false, false, false, false, false, false, false, false, false, false, false] (by kernel_rfl) rfl rfl ⟨(blk_cell BK323.out 0).trans rfl, (blk_cell BK323.out 1).trans rfl, (blk_cell BK323.out 2).trans rfl, (blk_cell BK323.out 3).trans rfl, (blk_cell BK323.out 4).trans rfl, (blk_cell BK323.out 5).trans rfl, (blk_cell BK323.out 6).trans rfl, (blk_cell BK323.out 7).trans rfl, (blk_cell BK323.out 8).trans rfl⟩ (fun hHeld => ?_); refine with_tabW impl_JarSave.tab7 impl_JarSave.bits7 (fun HT_ HW_ => ?_)
       generalize w19.drew = w20 at BK323 HB hHeld ⊢
       refine pure_ (i := 0) (N := some 15) (v := ?_) (a' := ?_) #[true, false, false, false, false, false, false, false, false, false, false, false, false, false, false, false, false, false, false, false, false, false, false, false, false, false, false, false] rfl rfl (any_of HT_.out (by kernel_rfl)) (fun _ _ _ h => h) (Or.inl ⟨by rfl, ?_⟩) ?_ ?_
       rotate_left
       ·intro w'
        go_simp
        with_reducible rfl
       rotate_left
       ·simp only [Act.put, List.setIfInBounds_toArray, List.set_cons_zero, List.set_cons_succ, i64_w, i32_w]
        rfl
       refine pure_ (i := 2) (N := some 17) (v := ?_) (a' := ?_) #[true, false, true, false, false, false, false, false, false, false, false, false, false, false, false, false, false, false, false, false, false, false, false, false, false, false, false, false] rfl rfl (any_of HT_.out (by kernel_rfl)) (fun _ _ _ h => h) (Or.inl ⟨by rfl, ?_⟩) ?_ ?_
       rotate_left
       ·intro w'
        go_simp
        with_reducible rfl
       rotate_left
       ·simp only [Act.put, List.setIfInBounds_toArray, List.set_cons_zero, List.set_cons_succ, i64_w, i32_w]
        rfl
       refine pure_ (i := 5) (N := some 20) (v := ?_) (a' := ?_) #[true, false, true, false, false, true, false, false, false, false, false, false, false, false, false, false, false, false, false, false, false, false, false, false, false, false, false, false] rfl rfl (any_of HT_.out (by kernel_rfl)) (fun _ _ _ h => h) (Or.inl ⟨by rfl, ?_⟩) ?_ ?_
       rotate_left
       ·intro w'
        go_simp
        with_reducible rfl
       rotate_left
       ·simp only [Act.put, List.setIfInBounds_toArray, List.set_cons_zero, List.set_cons_succ, i64_w, i32_w]
        rfl
       refine pure_ (i := 7) (N := some 22) (v := ?_) (a' := ?_) #[true, false, true, false, false, true, false, true, false, false, false, false, false, false, false, false, false, false, false, false, false, false, false, false, false, false, false, false] rfl rfl (any_of HT_.out (by kernel_rfl)) (fun _ _ _ h => h) (Or.inl ⟨by rfl, ?_⟩) ?_ ?_
       rotate_left
       ·intro w'
        go_simp
        with_reducible rfl
       rotate_left
       ·simp only [Act.put, List.setIfInBounds_toArray, List.set_cons_zero, List.set_cons_succ, i64_w, i32_w]
        rfl
       refine pure_ (i := 10) (N := some 25) (v := ?_) (a' := ?_) #[true, false, true, false, false, true, false, true, false, false, true, false, false, false, false, false, false, false, false, false, false, false, false, false, false, false, false, false] rfl rfl (any_of HT_.out (by kernel_rfl)) (fun _ _ _ h => h) (Or.inl ⟨by rfl, ?_⟩) ?_ ?_
       rotate_left
       ·intro w'
        go_simp
        with_reducible rfl
       rotate_left
       ·simp only [Act.put, List.setIfInBounds_toArray, List.set_cons_zero, List.set_cons_succ, i64_w, i32_w]
        rfl
       refine pure_ (i := 13) (N := some 28) (v := ?_) (a' := ?_) #[true, false, true, false, false, true, false, true, false, false, true, false, false, true, false, false, false, false, false, false, false, false, false, false, false, false, false, false] rfl rfl (any_of HT_.out (by kernel_rfl)) (fun _ _ _ h => h) (Or.inl ⟨by rfl, ?_⟩) ?_ ?_
       rotate_left
       ·intro w'
        go_simp
        with_reducible rfl
       rotate_left
       ·simp only [Act.put, List.setIfInBounds_toArray, List.set_cons_zero, List.set_cons_succ, i64_w, i32_w]
        rfl
       refine pure_ (i := 16) (N := some 31) (v := ?_) (a' := ?_) #[true, false, true, false, false, true, false, true, false, false, true, false, false, true, false, false, true, false, false, false, false, false, false, false, false, false, false, false] rfl rfl (any_of HT_.out (by kernel_rfl)) (fun _ _ _ h => h) (Or.inl ⟨by rfl, ?_⟩) ?_ ?_
       rotate_left
       ·intro w'
        go_simp
        with_reducible rfl
       rotate_left
       ·simp only [Act.put, List.setIfInBounds_toArray, List.set_cons_zero, List.set_cons_succ, i64_w, i32_w]
        rfl
       refine pure_ (i := 19) (N := some 34) (v := ?_) (a' := ?_) #[true, false, true, false, false, true, false, true, false, false, true, false, false, true, false, false, true, false, false, true, false, false, false, false, false, false, false, false] rfl rfl (any_of HT_.out (by kernel_rfl)) (fun _ _ _ h => h) (Or.inl ⟨by rfl, ?_⟩) ?_ ?_
       rotate_left
       ·intro w'
        go_simp
        with_reducible rfl
       rotate_left
       ·simp only [Act.put, List.setIfInBounds_toArray, List.set_cons_zero, List.set_cons_succ, i64_w, i32_w]
        rfl
       refine pure_ (i := 22) (N := some 37) (v := ?_) (a' := ?_) #[true, false, true, false, false, true, false, true, false, false, true, false, false, true, false, false, true, false, false, true, false, false, true, false, false, false, false, false] rfl rfl (any_of HT_.out (by kernel_rfl)) (fun _ _ _ h => h) (Or.inl ⟨by rfl, ?_⟩) ?_ ?_
       rotate_left
       ·intro w'
        go_simp
        with_reducible rfl
       rotate_left
       ·simp only [Act.put, List.setIfInBounds_toArray, List.set_cons_zero, List.set_cons_succ, i64_w, i32_w]
        rfl
       refine take_ (i := 1) (N := some 16) (v := ?_) (a' := ?_) #[true, true, true, false, false, true, false, true, false, false, true, false, false, true, false, false, true, false, false, true, false, false, true, false, false, false, false, false] rfl rfl (take_ofW HT_.out HW_.out (by kernel_rfl)) (fun _ _ _ h => h) (Or.inl ⟨by rfl, ?_⟩) hHeld ?_ ?_
       rotate_left
       ·rintro w' ⟨s0, s1, s2, s3, s4, s5, s6, s7, s8⟩
        go_simp
        with_reducible rfl
       rotate_left
       ·simp only [Act.put, List.setIfInBounds_toArray, List.set_cons_zero, List.set_cons_succ, i64_w, i32_w]
        rfl
       refine take_ (i := 3) (N := some 18) (v := ?_) (a' := ?_) #[true, true, true, true, false, true, false, true, false, false, true, false, false, true, false, false, true, false, false, true, false, false, true, false, false, false, false, false] rfl rfl (take_ofW HT_.out HW_.out (by kernel_rfl)) (fun _ _ _ h => h) (Or.inl ⟨by rfl, ?_⟩) hHeld ?_ ?_
       rotate_left
       ·rintro w' ⟨s0, s1, s2, s3, s4, s5, s6, s7, s8⟩
        go_simp
        with_reducible rfl
       rotate_left
       ·simp only [Act.put, List.setIfInBounds_toArray, List.set_cons_zero, List.set_cons_succ, i64_w, i32_w]
        rfl
       refine take_ (i := 6) (N := some 21) (v := ?_) (a' := ?_) #[true, true, true, true, false, true, true, true, false, false, true, false, false, true, false, false, true, false, false, true, false, false, true, false, false, false, false, false] rfl rfl (take_ofW HT_.out HW_.out (by kernel_rfl)) (fun _ _ _ h => h) (Or.inl ⟨by rfl, ?_⟩) hHeld ?_ ?_
       rotate_left
       ·rintro w' ⟨s0, s1, s2, s3, s4, s5, s6, s7, s8⟩
        go_simp
        with_reducible rfl
       rotate_left
       ·simp only [Act.put, List.setIfInBounds_toArray, List.set_cons_zero, List.set_cons_succ, i64_w, i32_w]
        rfl
       refine take_ (i := 8) (N := some 23) (v := ?_) (a' := ?_) #[true, true, true, true, false, true, true, true, true, false, true, false, false, true, false, false, true, false, false, true, false, false, true, false, false, false, false, false] rfl rfl (take_ofW HT_.out HW_.out (by kernel_rfl)) (fun _ _ _ h => h) (Or.inl ⟨by rfl, ?_⟩) hHeld ?_ ?_
       rotate_left
       ·rintro w' ⟨s0, s1, s2, s3, s4, s5, s6, s7, s8⟩
        go_simp
        with_reducible rfl
       rotate_left
       ·simp only [Act.put, List.setIfInBounds_toArray, List.set_cons_zero, List.set_cons_succ, i64_w, i32_w]
        rfl
       refine take_ (i := 11) (N := some 26) (v := ?_) (a' := ?_) #[true, true, true, true, false, true, true, true, true, false, true, true, false, true, false, false, true, false, false, true, false, false, true, false, false, false, false, false] rfl rfl (take_ofW HT_.out HW_.out (by kernel_rfl)) (fun _ _ _ h => h) (Or.inl ⟨by rfl, ?_⟩) hHeld ?_ ?_
       rotate_left
       ·rintro w' ⟨s0, s1, s2, s3, s4, s5, s6, s7, s8⟩
        go_simp
        with_reducible rfl
       rotate_left
       ·simp only [Act.put, List.setIfInBounds_toArray, List.set_cons_zero, List.set_cons_succ, i64_w, i32_w]
        rfl
       refine take_ (i := 14) (N := some 29) (v := ?_) (a' := ?_) #[true, true, true, true, false, true, true, true, true, false, true, true, false, true, true, false, true, false, false, true, false, false, true, false, false, false, false, false] rfl rfl (take_ofW HT_.out HW_.out (by kernel_rfl)) (fun _ _ _ h => h) (Or.inl ⟨by rfl, ?_⟩) hHeld ?_ ?_
       rotate_left
       ·rintro w' ⟨s0, s1, s2, s3, s4, s5, s6, s7, s8⟩
        go_simp
        with_reducible rfl
       rotate_left
       ·simp only [Act.put, List.setIfInBounds_toArray, List.set_cons_zero, List.set_cons_succ, i64_w, i32_w]
        rfl
       refine take_ (i := 17) (N := some 32) (v := ?_) (a' := ?_) #[true, true, true, true, false, true, true, true, true, false, true, true, false, true, true, false, true, true, false, true, false, false, true, false, false, false, false, false] rfl rfl (take_ofW HT_.out HW_.out (by kernel_rfl)) (fun _ _ _ h => h) (Or.inl ⟨by rfl, ?_⟩) hHeld ?_ ?_
       rotate_left
       ·rintro w' ⟨s0, s1, s2, s3, s4, s5, s6, s7, s8⟩
        go_simp
        with_reducible rfl
       rotate_left
       ·simp only [Act.put, List.setIfInBounds_toArray, List.set_cons_zero, List.set_cons_succ, i64_w, i32_w]
        rfl
       refine take_ (i := 20) (N := some 35) (v := ?_) (a' := ?_) #[true, true, true, true, false, true, true, true, true, false, true, true, false, true, true, false, true, true, false, true, true, false, true, false, false, false, false, false] rfl rfl (take_ofW HT_.out HW_.out (by kernel_rfl)) (fun _ _ _ h => h) (Or.inl ⟨by rfl, ?_⟩) hHeld ?_ ?_
       rotate_left
       ·rintro w' ⟨s0, s1, s2, s3, s4, s5, s6, s7, s8⟩
        go_simp
        with_reducible rfl
       rotate_left
       ·simp only [Act.put, List.setIfInBounds_toArray, List.set_cons_zero, List.set_cons_succ, i64_w, i32_w]
        rfl
       refine take_ (i := 23) (N := some 38) (v := ?_) (a' := ?_) #[true, true, true, true, false, true, true, true, true, false, true, true, false, true, true, false, true, true, false, true, true, false, true, true, false, false, false, false] rfl rfl (take_ofW HT_.out HW_.out (by kernel_rfl)) (fun _ _ _ h => h) (Or.inl ⟨by rfl, ?_⟩) hHeld ?_ ?_
       rotate_left
       ·rintro w' ⟨s0, s1, s2, s3, s4, s5, s6, s7, s8⟩
        go_simp
        with_reducible rfl
       rotate_left
       ·simp only [Act.put, List.setIfInBounds_toArray, List.set_cons_zero, List.set_cons_succ, i64_w, i32_w]
        rfl
       refine one_ (i := 4) (N := some 19) #[true, true, true, true, true, true, true, true, true, false, true, true, false, true, true, false, true, true, false, true, true, false, true, true, false, false, false, false] rfl rfl (one_of HT_.out (by kernel_rfl)) (by decide) (fun K hK => ?_)
       refine goes_ Tryd.func57 (by kernel_rfl) rfl #[.string ((rd_T39 l0 x11_1).f1)] (by rfl) rfl rfl zM ?_
       with_reducible refine (impl_hexText.calls k1 ((rd_T39 l0 x11_1).f1) t324 _ A8.out).mono ?_
       rintro e w21 ⟨rfl, hb⟩
       refine ⟨_, rfl, ?_⟩
       replace BK323 := zK BK323 hb
       replace HB := zT hb
       (try clear hb)
       refine hK.out _ _ ⟨(blk_cell BK323.out 0).trans rfl, (blk_cell BK323.out 1).trans rfl, (blk_cell BK323.out 2).trans rfl, (blk_cell BK323.out 3).trans rfl, (blk_cell BK323.out 4).trans rfl, (blk_cell BK323.out 5).trans rfl, (blk_cell BK323.out 6).trans rfl, (blk_cell BK323.out 7).trans rfl, (blk_cell BK323.out 8).trans rfl⟩ (fun hHeld => ?_)
       clear hK K
       refine norm_ (a' := ?_) ?_ ?_
       rotate_left
       ·show Act.put _ (some 19) _ = _
        simp only [Act.put, List.setIfInBounds_toArray, List.set_cons_zero, List.set_cons_succ, i64_w, i32_w]
        rfl
       refine one_ (i := 9) (N := some 24) #[true, true, true, true, true, true, true, true, true, true, true, true, false, true, true, false, true, true, false, true, true, false, true, true, false, false, false, false] rfl rfl (one_of HT_.out (by kernel_rfl)) (by decide) (fun K hK => ?_)
       refine goes_ Tryd.func58 (by kernel_rfl) rfl #[.bool ((rd_T39 l0 x11_1).f3)] (by rfl) rfl rfl zM ?_
       with_reducible refine (impl_bit.calls ((rd_T39 l0 x11_1).f3) t325 _ A9.out).mono ?_
       rintro e w' ⟨rfl, ⟨nd, rfl⟩⟩
       refine ⟨_, rfl, ?_⟩
       refine hK.out _ _ ⟨(blk_cell BK323.out 0).trans rfl, (blk_cell BK323.out 1).trans rfl, (blk_cell BK323.out 2).trans rfl, (blk_cell BK323.out 3).trans rfl, (blk_cell BK323.out 4).trans rfl, (blk_cell BK323.out 5).trans rfl, (blk_cell BK323.out 6).trans rfl, (blk_cell BK323.out 7).trans rfl, (blk_cell BK323.out 8).trans rfl⟩ (fun hHeld => ?_)
       clear hK K
       refine norm_ (a' := ?_) ?_ ?_
       rotate_left
       ·show Act.put _ (some 24) _ = _
        simp only [Act.put, List.setIfInBounds_toArray, List.set_cons_zero, List.set_cons_succ, i64_w, i32_w]
        rfl
       refine one_ (i := 12) (N := some 27) #[true, true, true, true, true, true, true, true, true, true, true, true, true, true, true, false, true, true, false, true, true, false, true, true, false, false, false, false] rfl rfl (one_of HT_.out (by kernel_rfl)) (by decide) (fun K hK => ?_)
       refine goes_ Tryd.func57 (by kernel_rfl) rfl #[.string ((rd_T39 l0 x11_1).f4)] (by rfl) rfl rfl zM ?_
       with_reducible refine (impl_hexText.calls k1 ((rd_T39 l0 x11_1).f4) t326 _ A10.out).mono ?_
       rintro e w22 ⟨rfl, hb⟩
       refine ⟨_, rfl, ?_⟩
       replace BK323 := zK BK323 hb
       replace HB := zT hb
       (try clear hb)
       refine hK.out _ _ ⟨(blk_cell BK323.out 0).trans rfl, (blk_cell BK323.out 1).trans rfl, (blk_cell BK323.out 2).trans rfl, (blk_cell BK323.out 3).trans rfl, (blk_cell BK323.out 4).trans rfl, (blk_cell BK323.out 5).trans rfl, (blk_cell BK323.out 6).trans rfl, (blk_cell BK323.out 7).trans rfl, (blk_cell BK323.out 8).trans rfl⟩ (fun hHeld => ?_)
       clear hK K
       refine norm_ (a' := ?_) ?_ ?_
       rotate_left
       ·show Act.put _ (some 27) _ = _
        simp only [Act.put, List.setIfInBounds_toArray, List.set_cons_zero, List.set_cons_succ, i64_w, i32_w]
        rfl
       refine one_ (i := 15) (N := some 30) #[true, true, true, true, true, true, true, true, true, true, true, true, true, true, true, true, true, true, false, true, true, false, true, true, false, false, false, false] rfl rfl (one_of HT_.out (by kernel_rfl)) (by decide) (fun K hK => ?_)
       refine goes_ Tryd.func59 (by kernel_rfl) rfl #[.int .i64 ((rd_T39 l0 x11_1).f5)] (by rfl) rfl rfl zM ?_
       with_reducible refine (strconv_Itoa.calls ((rd_T39 l0 x11_1).f5) t327 _ A11.out ?side1).mono ?_
       (case side1 => exact GW.below HG.out zB)
       rintro e w23 ⟨rfl, hb⟩
       refine ⟨_, rfl, ?_⟩
       replace BK323 := zK BK323 hb
       replace HB := zT hb
       (try clear hb)
       refine hK.out _ _ ⟨(blk_cell BK323.out 0).trans rfl, (blk_cell BK323.out 1).trans rfl, (blk_cell BK323.out 2).trans rfl, (blk_cell BK323.out 3).trans rfl, (blk_cell BK323.out 4).trans rfl, (blk_cell BK323.out 5).trans rfl, (blk_cell BK323.out 6).trans rfl, (blk_cell BK323.out 7).trans rfl, (blk_cell BK323.out 8).trans rfl⟩ (fun hHeld => ?_)
       clear hK K
       refine norm_ (a' := ?_) ?_ ?_
       rotate_left
       ·show Act.put _ (some 30) _ = _
        simp only [Act.put, List.setIfInBounds_toArray, List.set_cons_zero, List.set_cons_succ, i64_w, i32_w]
        rfl
       refine one_ (i := 18) (N := some 33) #[true, true, true, true, true, true, true, true, true, true, true, true, true, true, true, true, true, true, true, true, true, false, true, true, false, false, false, false] rfl rfl (one_of HT_.out (by kernel_rfl)) (by decide) (fun K hK => ?_)
       refine goes_ Tryd.func58 (by kernel_rfl) rfl #[.bool ((rd_T39 l0 x11_1).f6)] (by rfl) rfl rfl zM ?_
       with_reducible refine (impl_bit.calls ((rd_T39 l0 x11_1).f6) t328 _ A12.out).mono ?_
       rintro e w' ⟨rfl, ⟨nd, rfl⟩⟩
       refine ⟨_, rfl, ?_⟩
       refine hK.out _ _ ⟨(blk_cell BK323.out 0).trans rfl, (blk_cell BK323.out 1).trans rfl, (blk_cell BK323.out 2).trans rfl, (blk_cell BK323.out 3).trans rfl, (blk_cell BK323.out 4).trans rfl, (blk_cell BK323.out 5).trans rfl, (blk_cell BK323.out 6).trans rfl, (blk_cell BK323.out 7).trans rfl, (blk_cell BK323.out 8).trans rfl⟩ (fun hHeld => ?_)
       clear hK K
       refine norm_ (a' := ?_) ?_ ?_
       rotate_left
       ·show Act.put _ (some 33) _ = _
        simp only [Act.put, List.setIfInBounds_toArray, List.set_cons_zero, List.set_cons_succ, i64_w, i32_w]
        rfl
       refine one_ (i := 21) (N := some 36) #[true, true, true, true, true, true, true, true, true, true, true, true, true, true, true, true, true, true, true, true, true, true, true, true, false, false, false, false] rfl rfl (one_of HT_.out (by kernel_rfl)) (by decide) (fun K hK => ?_)
       refine goes_ Tryd.func59 (by kernel_rfl) rfl #[.int .i64 ((rd_T39 l0 x11_1).f7)] (by rfl) rfl rfl zM ?_
       with_reducible refine (strconv_Itoa.calls ((rd_T39 l0 x11_1).f7) t329 _ A13.out ?side1).mono ?_
       (case side1 => exact GW.below HG.out zB)
       rintro e w24 ⟨rfl, hb⟩
       refine ⟨_, rfl, ?_⟩
       replace BK323 := zK BK323 hb
       replace HB := zT hb
       (try clear hb)
       refine hK.out _ _ ⟨(blk_cell BK323.out 0).trans rfl, (blk_cell BK323.out 1).trans rfl, (blk_cell BK323.out 2).trans rfl, (blk_cell BK323.out 3).trans rfl, (blk_cell BK323.out 4).trans rfl, (blk_cell BK323.out 5).trans rfl, (blk_cell BK323.out 6).trans rfl, (blk_cell BK323.out 7).trans rfl, (blk_cell BK323.out 8).trans rfl⟩ (fun hHeld => ?_)
       clear hK K
       refine norm_ (a' := ?_) ?_ ?_
       rotate_left
       ·show Act.put _ (some 36) _ = _
        simp only [Act.put, List.setIfInBounds_toArray, List.set_cons_zero, List.set_cons_succ, i64_w, i32_w]
        rfl
       refine one_ (i := 24) (N := some 39) #[true, true, true, true, true, true, true, true, true, true, true, true, true, true, true, true, true, true, true, true, true, true, true, true, true, false, false, false] rfl rfl (one_of HT_.out (by kernel_rfl)) (by decide) (fun K hK => ?_)
       refine goes_ Tryd.func59 (by kernel_rfl) rfl #[.int .i64 ((rd_T39 l0 x11_1).f8)] (by rfl) rfl rfl zM ?_
       with_reducible refine (strconv_Itoa.calls ((rd_T39 l0 x11_1).f8) t330 _ A14.out ?side1).mono ?_
       (case side1 => exact GW.below HG.out zB)
       rintro e w25 ⟨rfl, hb⟩
       refine ⟨_, rfl, ?_⟩
       replace BK323 := zK BK323 hb
       replace HB := zT hb
       (try clear hb)
       refine hK.out _ _ ⟨(blk_cell BK323.out 0).trans rfl, (blk_cell BK323.out 1).trans rfl, (blk_cell BK323.out 2).trans rfl, (blk_cell BK323.out 3).trans rfl, (blk_cell BK323.out 4).trans rfl, (blk_cell BK323.out 5).trans rfl, (blk_cell BK323.out 6).trans rfl, (blk_cell BK323.out 7).trans rfl, (blk_cell BK323.out 8).trans rfl⟩ (fun hHeld => ?_)
       clear hK K
       refine norm_ (a' := ?_) ?_ ?_
       rotate_left
       ·show Act.put _ (some 39) _ = _
        simp only [Act.put, List.setIfInBounds_toArray, List.set_cons_zero, List.set_cons_succ, i64_w, i32_w]
        rfl
       refine one_ (i := 25) (N := some 40) #[true, true, true, true, true, true, true, true, true, true, true, true, true, true, true, true, true, true, true, true, true, true, true, true, true, true, false, false] rfl rfl (one_of HT_.out (by kernel_rfl)) (by decide) (fun K hK => ?_)
       refine Kd.R_lit_step Kd.string _ 9 ?hg (N := 40) ?hd (xs := ([(rd_T39 l0 x11_1).f0, t324, (rd_T39 l0 x11_1).f2, t325, t326, t327, t328, t329, t330] : List ByteArray)) (inner := [.string ((rd_T39 l0 x11_1).f0), .string t324, .string ((rd_T39 l0 x11_1).f2), .string t325, .string t326, .string t327, .string t328, .string t329, .string t330]) (ok := fun _ => True) (okp := fun _ => True) ?hr ?hp (fun _ hk => hk) trivial (Below.refl _ _) (Nat.le_refl _) (by simp) ?_; (case hd => rfl); (case hg => rfl); (case hr => first | (go_simp; done) | (go_simp; rfl)); (case hp => exact (Reps.one (show Kd.M Kd.string _ _ _ ((rd_T39 l0 x11_1).f0) [.string ((rd_T39 l0 x11_1).f0)] from rfl) (Reps.one (show Kd.M Kd.string _ _ _ t324 [.string t324] from rfl) (Reps.one (show Kd.M Kd.string _ _ _ ((rd_T39 l0 x11_1).f2) [.string ((rd_T39 l0 x11_1).f2)] from rfl) (Reps.one (show Kd.M Kd.string _ _ _ t325 [.string t325] from rfl) (Reps.one (show Kd.M Kd.string _ _ _ t326 [.string t326] from rfl) (Reps.one (show Kd.M Kd.string _ _ _ t327 [.string t327] from rfl) (Reps.one (show Kd.M Kd.string _ _ _ t328 [.string t328] from rfl) (Reps.one (show Kd.M Kd.string _ _ _ t329 [.string t329] from rfl) (Reps.one (show Kd.M Kd.string _ _ _ t330 [.string t330] from rfl) (Reps.none _ _)))))))))))
       intro v332 w26 ho27 hb hg_ hnew_
       clear hg_ hnew_
       (first | rw [← Ny331.out] at ho27 | (simp only [Int.reduceToNat] at ho27; rw [← Ny331.out] at ho27))
       have HO333 := zL ho27
       replace BK323 := zK BK323 hb
       replace HB := zT hb
       clear hb ho27
       obtain ⟨Ao28, co28, eo28⟩ := Kd.R_slice HO333.out
       (first | subst eo28 | (injection eo28 with f1_ f2_ f3_; have f4_ := f1_.symm; have f5_ := f3_.symm; clear f1_ f2_ f3_; subst f4_; subst f5_))
       refine hK.out _ _ ⟨(blk_cell BK323.out 0).trans rfl, (blk_cell BK323.out 1).trans rfl, (blk_cell BK323.out 2).trans rfl, (blk_cell BK323.out 3).trans rfl, (blk_cell BK323.out 4).trans rfl, (blk_cell BK323.out 5).trans rfl, (blk_cell BK323.out 6).trans rfl, (blk_cell BK323.out 7).trans rfl, (blk_cell BK323.out 8).trans rfl⟩ (fun hHeld => ?_)
       clear hK K
       refine norm_ (a' := ?_) ?_ ?_
       rotate_left
       ·show Act.put _ (some 40) _ = _
        simp only [Act.put, List.setIfInBounds_toArray, List.set_cons_zero, List.set_cons_succ, i64_w, i32_w]
        rfl
       refine one_ (i := 26) (N := some 41) #[true, true, true, true, true, true, true, true, true, true, true, true, true, true, true, true, true, true, true, true, true, true, true, true, true, true, true, false] rfl rfl (one_of HT_.out (by kernel_rfl)) (by decide) (fun K hK => ?_)
       refine goes_ Tryd.func56 (by kernel_rfl) rfl #[.slice Ao28 y331.length co28] (by rfl) rfl rfl zM ?_
       with_reducible refine (impl_row.calls _ _ y331 t334 _ ?side1 ?side2 A15.out).mono ?_
       (case side1 => repeat (first | exact (Kd.R_reads' HO333.out).2.2 | (with_reducible refine Kd.C_alloc ?_ _) | (with_reducible refine Kd.C_drewN ?_ _) | (with_reducible refine Kd.C_drew ?_)))
       (case side2 => exact (Kd.R_reads' HO333.out).2.1)
       rintro e w29 ⟨rfl, hb⟩
       refine ⟨_, rfl, ?_⟩
       replace HO333 := Aside0.mk (Kd.R_below (zR HO333) hb)
       replace BK323 := zK BK323 hb
       replace HB := zT hb
       (try clear hb)
       refine hK.out _ _ ⟨(blk_cell BK323.out 0).trans rfl, (blk_cell BK323.out 1).trans rfl, (blk_cell BK323.out 2).trans rfl, (blk_cell BK323.out 3).trans rfl, (blk_cell BK323.out 4).trans rfl, (blk_cell BK323.out 5).trans rfl, (blk_cell BK323.out 6).trans rfl, (blk_cell BK323.out 7).trans rfl, (blk_cell BK323.out 8).trans rfl⟩ (fun hHeld => ?_)
       clear hK K
       refine norm_ (a' := ?_) ?_ ?_
       rotate_left
       ·show Act.put _ (some 41) _ = _
        simp only [Act.put, List.setIfInBounds_toArray, List.set_cons_zero, List.set_cons_succ, i64_w, i32_w]
        rfl
       refine one_ (i := 27) (N := some 42) #[true, true, true, true, true, true, true, true, true, true, true, true, true, true, true, true, true, true, true, true, true, true, true, true, true, true, true, true] rfl rfl (one_of HT_.out (by kernel_rfl)) (by decide) (fun K hK => ?_)
       refine goes_ Tryd.func55 (by kernel_rfl) rfl #[.pointer (some ⟨gbu, 0, none⟩), .string t334] (by rfl) rfl rfl zM ?_
       with_reducible refine (strings_Builder_WriteString.calls _ _ x3_1 t334 t335 _ (IsBu.below BU.out zB) (below_step HB0.out zB).size A16.out).mono ?_
       rintro e w30 ⟨rfl, hbu, hb, hok⟩
       refine ⟨_, rfl, ?_⟩
       clear HO333
       replace BK323 := zKb BK323 hok (fun e_ => by have h1_ := GW323.out; have h2_ := BU.out.lt; omega) (by decide)
       have HBn := Aside0.mk (Below.trans (below_step HB0.out zB) hb)
       clear BU
       have BU := Aside0.mk hbu
       clear HB0 HB
       have HB0 := HBn
       clear HBn hbu hb hok
       obtain ⟨w, ew_⟩ := anch_ HB0.out
       subst ew_
       replace HR0 := Aside0.mk (Kd.C_below HR0z.out HB0.out)
       replace HG := Aside0.mk (GW.below HGz.out HB0.out)
       have HB := Aside0.mk (Below.refl w.heap.size w)
       refine hK.out _ _ ⟨(blk_cell BK323.out 0).trans rfl, (blk_cell BK323.out 1).trans rfl, (blk_cell BK323.out 2).trans rfl, (blk_cell BK323.out 3).trans rfl, (blk_cell BK323.out 4).trans rfl, (blk_cell BK323.out 5).trans rfl, (blk_cell BK323.out 6).trans rfl, (blk_cell BK323.out 7).trans rfl, (blk_cell BK323.out 8).trans rfl⟩ (fun hHeld => ?_)
       clear hK K
       refine norm_ (a' := ?_) ?_ ?_
       rotate_left
       ·show Act.put _ (some 42) _ = _
        simp only [Act.put, List.setIfInBounds_toArray, List.set_cons_zero, List.set_cons_succ, i64_w, i32_w]
        rfl
       refine done_ (done_of HT_.out (by kernel_rfl)) ?_
       try go_wp2
       go_roundg k1
       case measure => have := HK1.out; omega
       case rel => exact ⟨(t335), (wrap64 (x11_1 + 1)), zS, H', ⟨by have := HK1.out; omega⟩, ⟨below_step HB0.out zB⟩, ⟨IsBu.below BU.out zB⟩⟩
      ·rw [if_neg c7] at H
       exact absurd H (by simp)
     ·rw [if_neg c6] at H
      exact absurd H (by simp)
    ·rw [if_neg c5] at H
     have c5b0 := decide_eq_false c5
     clear c5
     obtain ⟨t321, A31, H⟩ := zO H
     obtain rfl := Option.some.inj H
     go_wp2_with (first | ((with_reducible refine gate_callee (f := 60) rfl ?_); refine goesL_ (some 44) rfl rfl Tryd.func60 (by kernel_rfl) rfl #[.pointer (some ⟨gbu, 0, none⟩)] rfl zM ?_; (with_reducible refine (strings_Builder_String.calls _ _ x3_1 t321 _ (IsBu.below BU.out zB) (below_step HB0.out zB).size A31.out).mono ?_); rintro e w32 ⟨rfl, hbu, hb, hok⟩; refine ⟨_, rfl, ?_⟩; have HBn := Aside0.mk (Below.trans (below_step HB0.out zB) hb); clear BU; have BU := Aside0.mk hbu; clear HB0 HB; have HB0 := HBn; clear HBn hbu hb hok; obtain ⟨w, ew_⟩ := anch_ HB0.out; subst ew_; replace HR0 := Aside0.mk (Kd.C_below HR0z.out HB0.out); replace HG := Aside0.mk (GW.below HGz.out HB0.out); have HB := Aside0.mk (Below.refl w.heap.size w)))
     go_ret
     exact ⟨zE, below_step HB0.out zB⟩
 ·replace c3 := Bool.eq_false_iff.mpr c3
  subst c3
  replace H := zJ H zF
  obtain rfl := Option.some.inj H
  go_enter Tryd.func30, Tryd.ntmps30
  go_wp2_with (first | ((with_reducible refine gate_callee (f := 25) rfl ?_); refine goesL_ (some 7) rfl rfl Tryd.func25 (by kernel_rfl) rfl #[.slice A0 l0.length c0] rfl zM ?_; (with_reducible refine (impl_JarOk.calls k _ _ l0 false _ ?side1 ?side2 A2.out ?side3).mono ?_); (case side1 => repeat (first | exact HR0.out | (with_reducible refine Kd.C_alloc ?_ _) | (with_reducible refine Kd.C_drewN ?_ _) | (with_reducible refine Kd.C_drew ?_))); (case side2 => exact HC0.out); (case side3 => exact GW.below HG.out zB); rintro e w33 ⟨rfl, hb⟩; refine ⟨_, rfl, ?_⟩; replace HB := zT hb; (try clear hb)))
  go_ret
  exact ⟨zE, below_step HB0.out zB⟩

/-! ### laws_FnExactJarSave: function 8 -/
def laws_FnExactJarSave.f (k : Nat) (l0 : List (S36)) : Option (Bool) := (laws_szCookieS.f k l0 1048576).bind fun t336 => (if t336 < 0 then (some true) else ((laws_toCookieS.f k l0).bind fun t337 => ((spec_JarSave.f k t337).bind fun t340 => ((laws_toCookieS.f k l0).bind fun t341 => ((impl_JarSave.f k t341).bind fun t344 => (if t344.toList = t340.toList then ((laws_toCookieS.f k l0).bind fun t345 => ((laws_eqCookieS.f k t341 t345).bind fun t348 => (if t348 = true then (some true) else (some false)))) else (some false)))))))
theorem laws_FnExactJarSave.mono : ∀ a0 k, LeO (laws_FnExactJarSave.f k a0) (laws_FnExactJarSave.f (k + 1) a0) := by
 intro a0 k
 unfold laws_FnExactJarSave.f
 repeat' (first | (with_reducible first | apply impl_JarSave.mono | apply laws_eqCookieS.mono | apply laws_szCookieS.mono | apply laws_toCookieS.mono | apply spec_JarSave.mono | exact LeO.refl _ | exact LeO.none _ | refine LeO.ite ?_ ?_ | refine LeO.bind ?_ fun _ => ?_) | apply impl_JarSave.mono | apply laws_eqCookieS.mono | apply laws_szCookieS.mono | apply laws_toCookieS.mono | apply spec_JarSave.mono | exact LeO.none _ | refine LeO.ite ?_ ?_ | refine LeO.bind ?_ fun _ => ?_)
set_option maxHeartbeats 8000000 in
set_option maxRecDepth 100000 in
theorem laws_FnExactJarSave.calls (k : Nat) (A0 : Option Addr) (c0 : Nat) (l0 : List (S36)) (r : Bool) (w : World) (hr0 : Kd.C k36 w A0 l0.length l0) (hc0 : l0.length ≤ c0) (h : laws_FnExactJarSave.f k l0 = some r) (hG : GW w) :
  Calls Tryd.prog 8 #[.slice A0 l0.length c0] w fun e w' => e = .returned (.bool r) ∧ Below w.heap.size w w' := by
 have HG := Aside0.mk hG
 clear hG
 have HR0 := Aside0.mk hr0
 have HC0 := Aside0.mk hc0
 clear hr0 hc0
 have HB := Aside0.mk (Below.refl w.heap.size w)
 have H : ((laws_szCookieS.f k l0 1048576).bind fun t336 => (if t336 < 0 then (some true) else ((laws_toCookieS.f k l0).bind fun t337 => ((spec_JarSave.f k t337).bind fun t340 => ((laws_toCookieS.f k l0).bind fun t341 => ((impl_JarSave.f k t341).bind fun t344 => (if t344.toList = t340.toList then ((laws_toCookieS.f k l0).bind fun t345 => ((laws_eqCookieS.f k t341 t345).bind fun t348 => (if t348 = true then (some true) else (some false)))) else (some false)))))))) = some r := h
 clear h
 obtain ⟨t336, A2, H⟩ := zO H
 by_cases c3 : t336 < 0
 ·rw [if_pos c3] at H
  have c3b0 := decide_eq_true c3
  clear c3
  obtain rfl := Option.some.inj H
  go_enter Tryd.func8, Tryd.ntmps8
  go_wp2_with (first | ((with_reducible refine gate_callee (f := 22) rfl ?_); refine goesL_ (some 9) rfl rfl Tryd.func22 (by kernel_rfl) rfl #[.slice A0 l0.length c0, .int .i64 1048576] rfl zM ?_; (with_reducible refine (laws_szCookieS.calls k _ _ l0 1048576 t336 _ ?side1 ?side2 A2.out).mono ?_); (case side1 => repeat (first | exact HR0.out | (with_reducible refine Kd.C_alloc ?_ _) | (with_reducible refine Kd.C_drewN ?_ _) | (with_reducible refine Kd.C_drew ?_))); (case side2 => exact HC0.out); rintro e w4 ⟨rfl, hb⟩; refine ⟨_, rfl, ?_⟩; replace HB := zT hb; (try clear hb)))
  go_ret
  exact ⟨zE, zB⟩
 ·rw [if_neg c3] at H
  have c3b0 := decide_eq_false c3
  clear c3
  obtain ⟨t337, A5, H⟩ := zO H
  obtain ⟨t340, A6, H⟩ := zO H
  obtain ⟨t341, A7, H⟩ := zO H
  obtain ⟨t344, A8, H⟩ := zO H
  by_cases c9 : t344.toList = t340.toList
  ·rw [if_pos c9] at H
   have c9b0 := beq_iff_eq.mpr c9
   have c9b1 := bne_eq_false_iff_eq.mpr c9
   clear c9
   obtain ⟨t345, A10, H⟩ := zO H
   obtain ⟨t348, A11, H⟩ := zO H
   by_cases c12 : t348 = true
   ·subst c12
    replace H := zI H rfl
    obtain rfl := Option.some.inj H
    go_enter Tryd.func8, Tryd.ntmps8
    go_wp2_with (first | ((with_reducible refine gate_callee (f := 22) rfl ?_); refine goesL_ (some 9) rfl rfl Tryd.func22 (by kernel_rfl) rfl #[.slice A0 l0.length c0, .int .i64 1048576] rfl zM ?_; (with_reducible refine (laws_szCookieS.calls k _ _ l0 1048576 t336 _ ?side1 ?side2 A2.out).mono ?_); (case side1 => repeat (first | exact HR0.out | (with_reducible refine Kd.C_alloc ?_ _) | (with_reducible refine Kd.C_drewN ?_ _) | (with_reducible refine Kd.C_drew ?_))); (case side2 => exact HC0.out); rintro e w13 ⟨rfl, hb⟩; refine ⟨_, rfl, ?_⟩; replace HB := zT hb; (try clear hb)) | ((with_reducible refine gate_callee (f := 24) rfl ?_); refine goesL_ (some 13) rfl rfl Tryd.func24 (by kernel_rfl) rfl #[.slice A0 l0.length c0] rfl zM ?_; (with_reducible refine (laws_toCookieS.calls k _ _ l0 t337 _ ?side1 ?side2 A5.out).mono ?_); (case side1 => repeat (first | exact (Kd.C_below HR0.out HB.out) | (with_reducible refine Kd.C_alloc ?_ _) | (with_reducible refine Kd.C_drewN ?_ _) | (with_reducible refine Kd.C_drew ?_))); (case side2 => exact HC0.out); rintro e w14 ⟨v338, rfl, ho0, hb⟩; refine ⟨_, rfl, ?_⟩; have HO339 := zL ho0; replace HB := zT hb; (try clear hb ho0); obtain ⟨Ao15, co15, eo15⟩ := Kd.R_slice HO339.out; subst eo15) | ((with_reducible refine gate_callee (f := 29) rfl ?_); refine goesL_ (some 14) rfl rfl Tryd.func29 (by kernel_rfl) rfl #[.slice Ao15 t337.length co15] rfl zM ?_; (with_reducible refine (spec_JarSave.calls k _ _ t337 t340 _ ?side1 ?side2 A6.out).mono ?_); (case side1 => repeat (first | exact (Kd.R_reads' HO339.out).2.2 | (with_reducible refine Kd.C_alloc ?_ _) | (with_reducible refine Kd.C_drewN ?_ _) | (with_reducible refine Kd.C_drew ?_))); (case side2 => exact (Kd.R_reads' HO339.out).2.1); rintro e w16 ⟨rfl, hb⟩; refine ⟨_, rfl, ?_⟩; replace HO339 := Aside0.mk (Kd.R_below (zR HO339) hb); replace HB := zT hb; (try clear hb)) | ((with_reducible refine gate_callee (f := 24) rfl ?_); refine goesL_ (some 16) rfl rfl Tryd.func24 (by kernel_rfl) rfl #[.slice A0 l0.length c0] rfl zM ?_; (with_reducible refine (laws_toCookieS.calls k _ _ l0 t341 _ ?side1 ?side2 A7.out).mono ?_); (case side1 => repeat (first | exact (Kd.C_below HR0.out HB.out) | (with_reducible refine Kd.C_alloc ?_ _) | (with_reducible refine Kd.C_drewN ?_ _) | (with_reducible refine Kd.C_drew ?_))); (case side2 => exact HC0.out); rintro e w17 ⟨v342, rfl, ho0, hb⟩; refine ⟨_, rfl, ?_⟩; have HO343 := Aside0.mk (Kd.R_lower (Kd.R_new' ho0 (Kd.R_lt (zR HO339))) (below_size zB)); replace HO339 := Aside0.mk (Kd.R_elder' (zR HO339) (Kd.R_base ho0) hb); replace HB := zT hb; (try clear hb ho0); obtain ⟨Ao18, co18, eo18⟩ := Kd.R_slice HO343.out; subst eo18) | ((with_reducible refine gate_callee (f := 30) rfl ?_); refine goesL_ (some 18) rfl rfl Tryd.func30 (by kernel_rfl) rfl #[.slice Ao18 t341.length co18] rfl zM ?_; (with_reducible refine (impl_JarSave.calls k _ _ t341 t344 _ ?side1 ?side2 A8.out ?side3).mono ?_); (case side1 => repeat (first | exact (Kd.R_reads' HO343.out).2.2 | (with_reducible refine Kd.C_alloc ?_ _) | (with_reducible refine Kd.C_drewN ?_ _) | (with_reducible refine Kd.C_drew ?_))); (case side2 => exact (Kd.R_reads' HO343.out).2.1); (case side3 => exact GW.below HG.out zB); rintro e w19 ⟨rfl, hb⟩; refine ⟨_, rfl, ?_⟩; replace HO339 := Aside0.mk (Kd.R_below (zR HO339) hb); replace HO343 := Aside0.mk (Kd.R_below (zR HO343) hb); replace HB := zT hb; (try clear hb)) | ((with_reducible refine gate_callee (f := 24) rfl ?_); refine goesL_ (some 24) rfl rfl Tryd.func24 (by kernel_rfl) rfl #[.slice A0 l0.length c0] rfl zM ?_; (with_reducible refine (laws_toCookieS.calls k _ _ l0 t345 _ ?side1 ?side2 A10.out).mono ?_); (case side1 => repeat (first | exact (Kd.C_below HR0.out HB.out) | (with_reducible refine Kd.C_alloc ?_ _) | (with_reducible refine Kd.C_drewN ?_ _) | (with_reducible refine Kd.C_drew ?_))); (case side2 => exact HC0.out); rintro e w20 ⟨v346, rfl, ho0, hb⟩; refine ⟨_, rfl, ?_⟩; have HO347 := Aside0.mk (Kd.R_lower (Kd.R_new' (Kd.R_new' ho0 (Kd.R_lt (zR HO339))) (Kd.R_lt (zR HO343))) (below_size zB)); replace HO339 := Aside0.mk (Kd.R_elder' (zR HO339) (Kd.R_base ho0) hb); replace HO343 := Aside0.mk (Kd.R_elder' (zR HO343) (Kd.R_base ho0) hb); replace HB := zT hb; (try clear hb ho0); obtain ⟨Ao21, co21, eo21⟩ := Kd.R_slice HO347.out; subst eo21) | ((with_reducible refine gate_callee (f := 26) rfl ?_); refine goesL_ (some 25) rfl rfl Tryd.func26 (by kernel_rfl) rfl #[.slice Ao18 t341.length co18, .slice Ao21 t345.length co21] rfl zM ?_; (with_reducible refine (laws_eqCookieS.calls k _ _ t341 _ _ t345 true _ ?side1 ?side2 ?side3 ?side4 A11.out).mono ?_); (case side1 => repeat (first | exact (Kd.R_reads' HO343.out).2.2 | (with_reducible refine Kd.C_alloc ?_ _) | (with_reducible refine Kd.C_drewN ?_ _) | (with_reducible refine Kd.C_drew ?_))); (case side2 => exact (Kd.R_reads' HO343.out).2.1); (case side3 => repeat (first | exact (Kd.R_reads' HO347.out).2.2 | (with_reducible refine Kd.C_alloc ?_ _) | (with_reducible refine Kd.C_drewN ?_ _) | (with_reducible refine Kd.C_drew ?_))); (case side4 => exact (Kd.R_reads' HO347.out).2.1); rintro e w22 ⟨rfl, hb⟩; refine ⟨_, rfl, ?_⟩; replace HO339 := Aside0.mk (Kd.R_below (zR HO339) hb); replace HO343 := Aside0.mk (Kd.R_below (zR HO343) hb); replace HO347 := Aside0.mk (Kd.R_below (zR HO347) hb); replace HB := zT hb; (try clear hb)))
    go_ret
    exact ⟨zE, zB⟩
   ·replace c12 := Bool.eq_false_iff.mpr c12
    subst c12
    replace H := zJ H zF
    obtain rfl := Option.some.inj H
    go_enter Tryd.func8, Tryd.ntmps8
    go_wp2_with (first | ((with_reducible refine gate_callee (f := 22) rfl ?_); refine goesL_ (some 9) rfl rfl Tryd.func22 (by kernel_rfl) rfl #[.slice A0 l0.length c0, .int .i64 1048576] rfl zM ?_; (with_reducible refine (laws_szCookieS.calls k _ _ l0 1048576 t336 _ ?side1 ?side2 A2.out).mono ?_); (case side1 => repeat (first | exact HR0.out | (with_reducible refine Kd.C_alloc ?_ _) | (with_reducible refine Kd.C_drewN ?_ _) | (with_reducible refine Kd.C_drew ?_))); (case side2 => exact HC0.out); rintro e w23 ⟨rfl, hb⟩; refine ⟨_, rfl, ?_⟩; replace HB := zT hb; (try clear hb)) | ((with_reducible refine gate_callee (f := 24) rfl ?_); refine goesL_ (some 13) rfl rfl Tryd.func24 (by kernel_rfl) rfl #[.slice A0 l0.length c0] rfl zM ?_; (with_reducible refine (laws_toCookieS.calls k _ _ l0 t337 _ ?side1 ?side2 A5.out).mono ?_); (case side1 => repeat (first | exact (Kd.C_below HR0.out HB.out) | (with_reducible refine Kd.C_alloc ?_ _) | (with_reducible refine Kd.C_drewN ?_ _) | (with_reducible refine Kd.C_drew ?_))); (case side2 => exact HC0.out); rintro e w24 ⟨v338, rfl, ho0, hb⟩; refine ⟨_, rfl, ?_⟩; have HO339 := zL ho0; replace HB := zT hb; (try clear hb ho0); obtain ⟨Ao25, co25, eo25⟩ := Kd.R_slice HO339.out; subst eo25) | ((with_reducible refine gate_callee (f := 29) rfl ?_); refine goesL_ (some 14) rfl rfl Tryd.func29 (by kernel_rfl) rfl #[.slice Ao25 t337.length co25] rfl zM ?_; (with_reducible refine (spec_JarSave.calls k _ _ t337 t340 _ ?side1 ?side2 A6.out).mono ?_); (case side1 => repeat (first | exact (Kd.R_reads' HO339.out).2.2 | (with_reducible refine Kd.C_alloc ?_ _) | (with_reducible refine Kd.C_drewN ?_ _) | (with_reducible refine Kd.C_drew ?_))); (case side2 => exact (Kd.R_reads' HO339.out).2.1); rintro e w26 ⟨rfl, hb⟩; refine ⟨_, rfl, ?_⟩; replace HO339 := Aside0.mk (Kd.R_below (zR HO339) hb); replace HB := zT hb; (try clear hb)) | ((with_reducible refine gate_callee (f := 24) rfl ?_); refine goesL_ (some 16) rfl rfl Tryd.func24 (by kernel_rfl) rfl #[.slice A0 l0.length c0] rfl zM ?_; (with_reducible refine (laws_toCookieS.calls k _ _ l0 t341 _ ?side1 ?side2 A7.out).mono ?_); (case side1 => repeat (first | exact (Kd.C_below HR0.out HB.out) | (with_reducible refine Kd.C_alloc ?_ _) | (with_reducible refine Kd.C_drewN ?_ _) | (with_reducible refine Kd.C_drew ?_))); (case side2 => exact HC0.out); rintro e w27 ⟨v342, rfl, ho0, hb⟩; refine ⟨_, rfl, ?_⟩; have HO343 := Aside0.mk (Kd.R_lower (Kd.R_new' ho0 (Kd.R_lt (zR HO339))) (below_size zB)); replace HO339 := Aside0.mk (Kd.R_elder' (zR HO339) (Kd.R_base ho0) hb); replace HB := zT hb; (try clear hb ho0); obtain ⟨Ao28, co28, eo28⟩ := Kd.R_slice HO343.out; subst eo28) | ((with_reducible refine gate_callee (f := 30) rfl ?_); refine goesL_ (some 18) rfl rfl Tryd.func30 (by kernel_rfl) rfl #[.slice Ao28 t341.length co28] rfl zM ?_; (with_reducible refine (impl_JarSave.calls k _ _ t341 t344 _ ?side1 ?side2 A8.out ?side3).mono ?_); (case side1 => repeat (first | exact (Kd.R_reads' HO343.out).2.2 | (with_reducible refine Kd.C_alloc ?_ _) | (with_reducible refine Kd.C_drewN ?_ _) | (with_reducible refine Kd.C_drew ?_))); (case side2 => exact (Kd.R_reads' HO343.out).2.1); (case side3 => exact GW.below HG.out zB); rintro e w29 ⟨rfl, hb⟩; refine ⟨_, rfl, ?_⟩; replace HO339 := Aside0.mk (Kd.R_below (zR HO339) hb); replace HO343 := Aside0.mk (Kd.R_below (zR HO343) hb); replace HB := zT hb; (try clear hb)) | ((with_reducible refine gate_callee (f := 24) rfl ?_); refine goesL_ (some 24) rfl rfl Tryd.func24 (by kernel_rfl) rfl #[.slice A0 l0.length c0] rfl zM ?_; (with_reducible refine (laws_toCookieS.calls k _ _ l0 t345 _ ?side1 ?side2 A10.out).mono ?_); (case side1 => repeat (first | exact (Kd.C_below HR0.out HB.out) | (with_reducible refine Kd.C_alloc ?_ _) | (with_reducible refine Kd.C_drewN ?_ _) | (with_reducible refine Kd.C_drew ?_))); (case side2 => exact HC0.out); rintro e w30 ⟨v346, rfl, ho0, hb⟩; refine ⟨_, rfl, ?_⟩; have HO347 := Aside0.mk (Kd.R_lower (Kd.R_new' (Kd.R_new' ho0 (Kd.R_lt (zR HO339))) (Kd.R_lt (zR HO343))) (below_size zB)); replace HO339 := Aside0.mk (Kd.R_elder' (zR HO339) (Kd.R_base ho0) hb); replace HO343 := Aside0.mk (Kd.R_elder' (zR HO343) (Kd.R_base ho0) hb); replace HB := zT hb; (try clear hb ho0); obtain ⟨Ao31, co31, eo31⟩ := Kd.R_slice HO347.out; subst eo31) | ((with_reducible refine gate_callee (f := 26) rfl ?_); refine goesL_ (some 25) rfl rfl Tryd.func26 (by kernel_rfl) rfl #[.slice Ao28 t341.length co28, .slice Ao31 t345.length co31] rfl zM ?_; (with_reducible refine (laws_eqCookieS.calls k _ _ t341 _ _ t345 false _ ?side1 ?side2 ?side3 ?side4 A11.out).mono ?_); (case side1 => repeat (first | exact (Kd.R_reads' HO343.out).2.2 | (with_reducible refine Kd.C_alloc ?_ _) | (with_reducible refine Kd.C_drewN ?_ _) | (with_reducible refine Kd.C_drew ?_))); (case side2 => exact (Kd.R_reads' HO343.out).2.1); (case side3 => repeat (first | exact (Kd.R_reads' HO347.out).2.2 | (with_reducible refine Kd.C_alloc ?_ _) | (with_reducible refine Kd.C_drewN ?_ _) | (with_reducible refine Kd.C_drew ?_))); (case side4 => exact (Kd.R_reads' HO347.out).2.1); rintro e w32 ⟨rfl, hb⟩; refine ⟨_, rfl, ?_⟩; replace HO339 := Aside0.mk (Kd.R_below (zR HO339) hb); replace HO343 := Aside0.mk (Kd.R_below (zR HO343) hb); replace HO347 := Aside0.mk (Kd.R_below (zR HO347) hb); replace HB := zT hb; (try clear hb)))
    go_ret
    exact ⟨zE, zB⟩
  ·rw [if_neg c9] at H
   have c9b0 := beq_eq_false_iff_ne.mpr c9
   have c9b1 := bne_iff_ne.mpr c9
   obtain rfl := Option.some.inj H
   go_enter Tryd.func8, Tryd.ntmps8
   go_wp2_with (first | ((with_reducible refine gate_callee (f := 22) rfl ?_); refine goesL_ (some 9) rfl rfl Tryd.func22 (by kernel_rfl) rfl #[.slice A0 l0.length c0, .int .i64 1048576] rfl zM ?_; (with_reducible refine (laws_szCookieS.calls k _ _ l0 1048576 t336 _ ?side1 ?side2 A2.out).mono ?_); (case side1 => repeat (first | exact HR0.out | (with_reducible refine Kd.C_alloc ?_ _) | (with_reducible refine Kd.C_drewN ?_ _) | (with_reducible refine Kd.C_drew ?_))); (case side2 => exact HC0.out); rintro e w33 ⟨rfl, hb⟩; refine ⟨_, rfl, ?_⟩; replace HB := zT hb; (try clear hb)) | ((with_reducible refine gate_callee (f := 24) rfl ?_); refine goesL_ (some 13) rfl rfl Tryd.func24 (by kernel_rfl) rfl #[.slice A0 l0.length c0] rfl zM ?_; (with_reducible refine (laws_toCookieS.calls k _ _ l0 t337 _ ?side1 ?side2 A5.out).mono ?_); (case side1 => repeat (first | exact (Kd.C_below HR0.out HB.out) | (with_reducible refine Kd.C_alloc ?_ _) | (with_reducible refine Kd.C_drewN ?_ _) | (with_reducible refine Kd.C_drew ?_))); (case side2 => exact HC0.out); rintro e w34 ⟨v338, rfl, ho0, hb⟩; refine ⟨_, rfl, ?_⟩; have HO339 := zL ho0; replace HB := zT hb; (try clear hb ho0); obtain ⟨Ao35, co35, eo35⟩ := Kd.R_slice HO339.out; subst eo35) | ((with_reducible refine gate_callee (f := 29) rfl ?_); refine goesL_ (some 14) rfl rfl Tryd.func29 (by kernel_rfl) rfl #[.slice Ao35 t337.length co35] rfl zM ?_; (with_reducible refine (spec_JarSave.calls k _ _ t337 t340 _ ?side1 ?side2 A6.out).mono ?_); (case side1 => repeat (first | exact (Kd.R_reads' HO339.out).2.2 | (with_reducible refine Kd.C_alloc ?_ _) | (with_reducible refine Kd.C_drewN ?_ _) | (with_reducible refine Kd.C_drew ?_))); (case side2 => exact (Kd.R_reads' HO339.out).2.1); rintro e w36 ⟨rfl, hb⟩; refine ⟨_, rfl, ?_⟩; replace HO339 := Aside0.mk (Kd.R_below (zR HO339) hb); replace HB := zT hb; (try clear hb)) | ((with_reducible refine gate_callee (f := 24) rfl ?_); refine goesL_ (some 16) rfl rfl Tryd.func24 (by kernel_rfl) rfl #[.slice A0 l0.length c0] rfl zM ?_; (with_reducible refine (laws_toCookieS.calls k _ _ l0 t341 _ ?side1 ?side2 A7.out).mono ?_); (case side1 => repeat (first | exact (Kd.C_below HR0.out HB.out) | (with_reducible refine Kd.C_alloc ?_ _) | (with_reducible refine Kd.C_drewN ?_ _) | (with_reducible refine Kd.C_drew ?_))); (case side2 => exact HC0.out); rintro e w37 ⟨v342, rfl, ho0, hb⟩; refine ⟨_, rfl, ?_⟩; have HO343 := Aside0.mk (Kd.R_lower (Kd.R_new' ho0 (Kd.R_lt (zR HO339))) (below_size zB)); replace HO339 := Aside0.mk (Kd.R_elder' (zR HO339) (Kd.R_base ho0) hb); replace HB := zT hb; (try clear hb ho0); obtain ⟨Ao38, co38, eo38⟩ := Kd.R_slice HO343.out; subst eo38) | ((with_reducible refine gate_callee (f := 30) rfl ?_); refine goesL_ (some 18) rfl rfl Tryd.func30 (by kernel_rfl) rfl #[.slice Ao38 t341.length co38] rfl zM ?_; (with_reducible refine (impl_JarSave.calls k _ _ t341 t344 _ ?side1 ?side2 A8.out ?side3).mono ?_); (case side1 => repeat (first | exact (Kd.R_reads' HO343.out).2.2 | (with_reducible refine Kd.C_alloc ?_ _) | (with_reducible refine Kd.C_drewN ?_ _) | (with_reducible refine Kd.C_drew ?_))); (case side2 => exact (Kd.R_reads' HO343.out).2.1); (case side3 => exact GW.below HG.out zB); rintro e w39 ⟨rfl, hb⟩; refine ⟨_, rfl, ?_⟩; replace HO339 := Aside0.mk (Kd.R_below (zR HO339) hb); replace HO343 := Aside0.mk (Kd.R_below (zR HO343) hb); replace HB := zT hb; (try clear hb)))
   go_ret
   exact ⟨zE, zB⟩

end Go.Proofs.YtakobibclhdakaaDoor.PFnExactJarSave
