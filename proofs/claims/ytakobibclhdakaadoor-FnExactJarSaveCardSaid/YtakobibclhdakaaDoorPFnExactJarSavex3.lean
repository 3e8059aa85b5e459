-- printed by a program of this session's (wip/myprint.py) out of the translation; Lean checks it
import Derived.Test.YtakobibclhdakaaDoorPFnExactJarSavex0
namespace Go.Proofs.YtakobibclhdakaaDoor.PFnExactJarSave
open Go.RowKit Go.Proofs.YtakobibclhdakaaDoorG Go.Proofs.YtakobibclhdakaaDoorZ Go.Proofs.YtakobibclhdakaaDoorW.PrintWords Go.Proofs.YtakobibclhdakaaDoorW.PrintLast Go.Proofs.YtakobibclhdakaaDoorW.PrintMore
attribute [local go_sem] str_leq str_gtr str_geq max2_int min2_int max_two min_two max_three min_three max_four min_four   -- for this text's walks alone
set_option linter.unusedVariables false
set_option linter.unusedSimpArgs false

/-! ### spec_l1In: function 44 -/
def spec_l1In.f (a0 : Int) (a1 : Int) (a2 : Int) : Option (Bool) := if a0 ≥ a1 then (some (decide (a0 ≤ a2))) else (some false)
set_option maxHeartbeats 8000000 in
set_option maxRecDepth 100000 in
theorem spec_l1In.calls (a0 : Int) (a1 : Int) (a2 : Int) (r : Bool) (w : World) (h : spec_l1In.f a0 a1 a2 = some r) :
  Calls Tryd.prog 44 #[.int .i64 a0, .int .i64 a1, .int .i64 a2] w fun e w' => e = .returned (.bool r) ∧ Drawn0 w w' := by
 have H : (if a0 ≥ a1 then (some (decide (a0 ≤ a2))) else (some false)) = some r := h
 clear h
 by_cases c4 : a0 ≥ a1
 ·rw [if_pos c4] at H
  have c4b0 := decide_eq_true c4
  clear c4
  obtain rfl := Option.some.inj H
  go_enter Tryd.func44, Tryd.ntmps44
  go_wp2
  go_ret
  exact ⟨zS, zW⟩
 ·rw [if_neg c4] at H
  have c4b0 := decide_eq_false c4
  clear c4
  obtain rfl := Option.some.inj H
  go_enter Tryd.func44, Tryd.ntmps44
  go_wp2
  go_ret
  exact ⟨zS, zW⟩

/-! ### spec_l1Cut: function 102 -/
def spec_l1Cut.l0 : Nat → ByteArray → Int → List ByteArray → Int → Int → Option (List ByteArray)
 | 0, _, _, _, _, _ => none
 | k + 1, x0, x1, x5, x6, x7 => if x7 < (x0.size : Int) then (if 0 ≤ x7 then (if (bt x0 x7) = x1 then (if 0 ≤ x6 then (if x6 ≤ x7 then (if x7 ≤ (x0.size : Int) then (if x5.length < 8796093022208 then (spec_l1Cut.l0 k x0 x1 (x5 ++ [x0.extract (x6 : Int).toNat (x7 : Int).toNat]) (wrap64 (x7 + 1)) (wrap64 (x7 + 1))) else (none)) else (none)) else (none)) else (none)) else (spec_l1Cut.l0 k x0 x1 x5 x6 (wrap64 (x7 + 1)))) else (none)) else (if 0 ≤ x6 then (if x6 ≤ (x0.size : Int) then (if x5.length < 8796093022208 then (some (x5 ++ [x0.extract (x6 : Int).toNat x0.size])) else (none)) else (none)) else (none))
def spec_l1Cut.f (k : Nat) (a0 : ByteArray) (a1 : Int) : Option (List ByteArray) := spec_l1Cut.l0 k a0 a1 (([] : List ByteArray)) 0 0
theorem spec_l1Cut.mono_l : ∀ k, (∀ y0 y1 y2 y3 y4, LeO (spec_l1Cut.l0 k y0 y1 y2 y3 y4) (spec_l1Cut.l0 (k + 1) y0 y1 y2 y3 y4))
 | 0 => fun _ _ _ _ _ r h => by simp [spec_l1Cut.l0] at h
 | k + 1 => by
  have ih0 := spec_l1Cut.mono_l k
  all_goals intros
  all_goals first | unfold spec_l1Cut.l0
  all_goals repeat' (first | (with_reducible first | apply ih0 | exact LeO.refl _ | exact LeO.none _ | refine LeO.ite ?_ ?_ | refine LeO.bind ?_ fun _ => ?_) | apply ih0 | exact LeO.none _ | refine LeO.ite ?_ ?_ | refine LeO.bind ?_ fun _ => ?_)
theorem spec_l1Cut.mono : ∀ a0 a1 k, LeO (spec_l1Cut.f k a0 a1) (spec_l1Cut.f (k + 1) a0 a1) := by
 intro a0 a1 k
 have ih0 := spec_l1Cut.mono_l k
 unfold spec_l1Cut.f
 repeat' (first | (with_reducible first | apply ih0 | exact LeO.refl _ | exact LeO.none _ | refine LeO.ite ?_ ?_ | refine LeO.bind ?_ fun _ => ?_) | apply ih0 | exact LeO.none _ | refine LeO.ite ?_ ?_ | refine LeO.bind ?_ fun _ => ?_)
set_option maxHeartbeats 8000000 in
set_option maxRecDepth 100000 in
theorem spec_l1Cut.calls (k : Nat) (a0 : ByteArray) (a1 : Int) (r : List ByteArray) (w : World) (h : spec_l1Cut.f k a0 a1 = some r) :
  Calls Tryd.prog 102 #[.string a0, .int .u8 a1] w fun e w' => ∃ v0_ : Value, e = .returned (v0_) ∧ Kd.R Kd.string 9 w' w.heap.size (fun _ => True) v0_ r ∧ Below w.heap.size w w' := by
 have HB := Aside0.mk (Below.refl w.heap.size w)
 have H : (spec_l1Cut.l0 k a0 a1 (([] : List ByteArray)) 0 0) = some r := h
 clear h
 obtain ⟨y126, hy126⟩ : ∃ y_ : List ByteArray, y_ = (([] : List ByteArray)) := ⟨_, rfl⟩
 replace H : (spec_l1Cut.l0 k a0 a1 y126 0 0) = some r := by first | (rw [hy126]; with_reducible exact H) | (have H2_ := (Option.bind_some _ _).symm.trans H; rw [hy126]; with_reducible exact H2_) | (have H2_ := (Option.bind_some _ _).symm.trans H; with_reducible exact H2_) | with_reducible exact H | (rw [hy126]; exact H) | exact H
 have Ny126 := Aside0.mk hy126
 clear hy126
 have H' := Aside0.mk H
 clear H
 go_enter Tryd.func102, Tryd.ntmps102
 go_wp2_with (first | ((with_reducible refine gate_dst (N := 8) rfl ?_); refine Kd.R_lit Kd.string _ 9 ?hg (N := 8) ?hd (xs := ([] : List ByteArray)) (inner := []) (ok := fun _ => True) (okp := fun _ => True) ?hr ?hp (fun _ hk => hk) trivial (Below.refl _ _) (Nat.le_refl _) (by simp) ?_; (case hd => rfl); (case hg => rfl); (case hr => first | (go_simp; done) | (go_simp; rfl)); (case hp => exact (Reps.none _ _)); intro v127 w3 ho4 hb hg_ hnew_; clear hg_ hnew_; (first | rw [← Ny126.out] at ho4 | (simp only [Int.reduceToNat] at ho4; rw [← Ny126.out] at ho4)); have HO128 := zL ho4; replace HB := zT hb; clear hb ho4))
 go_loopg [5, 6, 7] k (fun kq v5 v6 v7 w' => ∃ (x5_1 : List ByteArray) (x6_1 : Int) (x7_1 : Int), v6 = .int .i64 x6_1 ∧ v7 = .int .i64 x7_1 ∧ Aside0 (spec_l1Cut.l0 kq a0 a1 x5_1 x6_1 x7_1 = some r) ∧ Aside0 (kq ≤ k) ∧ Aside0 (Kd.R Kd.string 9 w' w.heap.size (fun _ => True) v5 x5_1) ∧ Aside0 (Below w.heap.size w w'))
 case atStart => exact ⟨(y126), (0), (0), zS, zS, H', ⟨Nat.le_refl _⟩, ⟨zR HO128⟩, ⟨zB⟩⟩
 case round =>
  clear H'
  obtain ⟨x5_1, x6_1, x7_1, rfl, rfl, HA, HK1, HO_5, HB⟩ := hrel
  cases gk with
  | zero => exact absurd HA.out (by simp [spec_l1Cut.l0])
  | succ k1 =>
   have H := HA.out
   clear HA
   simp only [spec_l1Cut.l0] at H
   by_cases c5 : x7_1 < (a0.size : Int)
   ·rw [if_pos c5] at H
    have c5b0 := decide_eq_true c5
    clear c5
    by_cases c6 : 0 ≤ x7_1
    ·rw [if_pos c6] at H
     have c6b0 := decide_eq_true c6
     clear c6
     by_cases c8 : (bt a0 x7_1) = a1
     ·rw [if_pos c8] at H
      have c8b0 := beq_iff_eq.mpr c8
      have c8b1 := bne_eq_false_iff_eq.mpr c8
      clear c8
      by_cases c9 : 0 ≤ x6_1
      ·rw [if_pos c9] at H
       have c9b0 := eq_true c9
       have c9b1 := decide_eq_true c9
       clear c9
       by_cases c10 : x6_1 ≤ x7_1
       ·rw [if_pos c10] at H
        have c10b0 := eq_true c10
        have c10b1 := decide_eq_true c10
        clear c10
        by_cases c11 : x7_1 ≤ (a0.size : Int)
        ·rw [if_pos c11] at H
         have c11b0 := eq_true c11
         have c11b1 := decide_eq_true c11
         clear c11
         by_cases c12 : x5_1.length < 8796093022208
         ·rw [if_pos c12] at H
          have LMc12 := Aside0.mk c12
          clear c12
          obtain ⟨y129, hy129⟩ : ∃ y_ : List ByteArray, y_ = (x5_1 ++ [a0.extract (x6_1 : Int).toNat (x7_1 : Int).toNat]) := ⟨_, rfl⟩
          replace H : (spec_l1Cut.l0 k1 a0 a1 y129 (wrap64 (x7_1 + 1)) (wrap64 (x7_1 + 1))) = some r := by first | (rw [hy129]; with_reducible exact H) | (have H2_ := (Option.bind_some _ _).symm.trans H; rw [hy129]; with_reducible exact H2_) | (have H2_ := (Option.bind_some _ _).symm.trans H; with_reducible exact H2_) | with_reducible exact H | (rw [hy129]; exact H) | exact H
          have Ny129 := Aside0.mk hy129
          clear hy129
          have H' := Aside0.mk H
          clear H
          obtain ⟨p7, q7⟩ := zN x7_1 (a0.size : Int)
          have hx7 := bt_at a0 x7_1
          go_wp2_with (first | ((with_reducible refine gate_builtin (b := .append) (xs := #[.tmp 20, .tmp 25]) rfl ?_); at_builtin; refine Kd.R_append Kd.string (w0 := w) w.heap.size rfl (.tmp 20) (.tmp 25) 22 9 (.string ⟨#[]⟩) 16 rfl Tryd.underlying22 info9 rfl (by decide) (by omega) u5 x5_1 (a0.extract (x6_1 : Int).toNat (x7_1 : Int).toNat) [.string (a0.extract (x6_1 : Int).toNat (x7_1 : Int).toNat)] (fun _ => True) (fun _ => False) rfl rfl ?aP (fun _ hk => hk.elim) ?aF ?aO ?aB ?aS ?aL ?_; (case aP => exact rfl); (case aB => exact zB); (case aF => exact (fun _ _ => trivial)); (case aO => exact (zR HO_5)); (case aS => exact (below_size zB)); (case aL => have := LMc12.out; omega); intro v130 w13 ho hb hg hat; rw [← Ny129.out] at ho; have n0_ := Aside0.mk (hb); have n1_ := Aside0.mk (ho); clear HB; clear HO_5; have HB := n0_; have HO131 := n1_; clear n0_ n1_; clear ho hb hg hat))
          go_roundg k1
          case measure => have := HK1.out; omega
          case rel => exact ⟨(y129), (wrap64 (x7_1 + 1)), (wrap64 (x7_1 + 1)), zS, zS, H', ⟨by have := HK1.out; omega⟩, ⟨zR HO131⟩, ⟨zB⟩⟩
         ·rw [if_neg c12] at H
          exact absurd H (by simp)
        ·rw [if_neg c11] at H
         exact absurd H (by simp)
       ·rw [if_neg c10] at H
        exact absurd H (by simp)
      ·rw [if_neg c9] at H
       exact absurd H (by simp)
     ·rw [if_neg c8] at H
      have c8b0 := beq_eq_false_iff_ne.mpr c8
      have c8b1 := bne_iff_ne.mpr c8
      have H' := Aside0.mk H
      clear H
      obtain ⟨p7, q7⟩ := zN x7_1 (a0.size : Int)
      have hx7 := bt_at a0 x7_1
      go_wp2
      go_roundg k1
      case measure => have := HK1.out; omega
      case rel => exact ⟨(x5_1), (x6_1), (wrap64 (x7_1 + 1)), zS, zS, H', ⟨by have := HK1.out; omega⟩, ⟨zR HO_5⟩, ⟨zB⟩⟩
    ·rw [if_neg c6] at H
     exact absurd H (by simp)
   ·rw [if_neg c5] at H
    have c5b0 := decide_eq_false c5
    clear c5
    by_cases c14 : 0 ≤ x6_1
    ·rw [if_pos c14] at H
     have c14b0 := eq_true c14
     have c14b1 := decide_eq_true c14
     clear c14
     by_cases c15 : x6_1 ≤ (a0.size : Int)
     ·rw [if_pos c15] at H
      have c15b0 := eq_true c15
      have c15b1 := decide_eq_true c15
      clear c15
      by_cases c16 : x5_1.length < 8796093022208
      ·rw [if_pos c16] at H
       have LMc16 := Aside0.mk c16
       clear c16
       obtain ⟨y132, hy132⟩ : ∃ y_ : List ByteArray, y_ = (x5_1 ++ [a0.extract (x6_1 : Int).toNat a0.size]) := ⟨_, rfl⟩
       replace H : (some y132) = some r := by first | (rw [hy132]; with_reducible exact H) | (have H2_ := (Option.bind_some _ _).symm.trans H; rw [hy132]; with_reducible exact H2_) | (have H2_ := (Option.bind_some _ _).symm.trans H; with_reducible exact H2_) | with_reducible exact H | (rw [hy132]; exact H) | exact H
       have Ny132 := Aside0.mk hy132
       clear hy132
       obtain rfl := Option.some.inj H
       go_wp2_with (first | ((with_reducible refine gate_builtin (b := .append) (xs := #[.tmp 29, .tmp 33]) rfl ?_); at_builtin; refine Kd.R_append Kd.string (w0 := w) w.heap.size rfl (.tmp 29) (.tmp 33) 22 9 (.string ⟨#[]⟩) 16 rfl Tryd.underlying22 info9 rfl (by decide) (by omega) u5 x5_1 (a0.extract (x6_1 : Int).toNat a0.size) [.string (a0.extract (x6_1 : Int).toNat a0.size)] (fun _ => True) (fun _ => False) rfl rfl ?aP (fun _ hk => hk.elim) ?aF ?aO ?aB ?aS ?aL ?_; (case aP => exact rfl); (case aB => exact zB); (case aF => exact (fun _ _ => trivial)); (case aO => exact (zR HO_5)); (case aS => exact (below_size zB)); (case aL => have := LMc16.out; omega); intro v133 w17 ho hb hg hat; rw [← Ny132.out] at ho; have n0_ := Aside0.mk (hb); have n1_ := Aside0.mk (ho); clear HB; clear HO_5; have HB := n0_; have HO134 := n1_; clear n0_ n1_; clear ho hb hg hat))
       go_ret
       exact ⟨_, zE, zR HO134, zB⟩
      ·rw [if_neg c16] at H
       exact absurd H (by simp)
     ·rw [if_neg c15] at H
      exact absurd H (by simp)
    ·rw [if_neg c14] at H
     exact absurd H (by simp)

/-! ### spec_l2Name: function 82 -/
mutual
def spec_l2Name.l0 : Nat → ByteArray → List ByteArray → Int → Option (Bool)
 | 0, _, _, _ => none
 | k + 1, x0, x3, x4 => if x4 < (x3.length : Int) then (if 0 ≤ x4 then (if (rdOf ByteArray.empty x3 x4).toList = ([] : List UInt8) then (if x4 < (wrap64 ((x3.length : Int) - 1)) then (spec_l2Name.j1 k x0 x3 x4 true) else (spec_l2Name.j1 k x0 x3 x4 (x4 == 0))) else (spec_l2Name.j1 k x0 x3 x4 false)) else (none)) else ((spec_l1In.f (x0.size : Int) 1 60).bind fun t138 => (some t138))
def spec_l2Name.j1 : Nat → ByteArray → List ByteArray → Int → Bool → Option (Bool)
 | 0, _, _, _, _ => none
 | k + 1, x0, x3, x4, x30 => if x30 = true then (some false) else (spec_l2Name.l1 k x0 x3 x4 0)
def spec_l2Name.l1 : Nat → ByteArray → List ByteArray → Int → Int → Option (Bool)
 | 0, _, _, _, _ => none
 | k + 1, x0, x3, x4, x5 => if 0 ≤ x4 then (if x4 < (x3.length : Int) then (if x5 < ((rdOf ByteArray.empty x3 x4).size : Int) then (if 0 ≤ x5 then (if (bt (rdOf ByteArray.empty x3 x4) x5) < 97 then (if (bt (rdOf ByteArray.empty x3 x4) x5) < 48 then (if (bt (rdOf ByteArray.empty x3 x4) x5) = 45 then (spec_l2Name.l1 k x0 x3 x4 (wrap64 (x5 + 1))) else (if (bt (rdOf ByteArray.empty x3 x4) x5) = 95 then (spec_l2Name.l1 k x0 x3 x4 (wrap64 (x5 + 1))) else (some false))) else (if (bt (rdOf ByteArray.empty x3 x4) x5) > 57 then (if (bt (rdOf ByteArray.empty x3 x4) x5) = 45 then (spec_l2Name.l1 k x0 x3 x4 (wrap64 (x5 + 1))) else (if (bt (rdOf ByteArray.empty x3 x4) x5) = 95 then (spec_l2Name.l1 k x0 x3 x4 (wrap64 (x5 + 1))) else (some false))) else (spec_l2Name.l1 k x0 x3 x4 (wrap64 (x5 + 1))))) else (if (bt (rdOf ByteArray.empty x3 x4) x5) > 122 then (if (bt (rdOf ByteArray.empty x3 x4) x5) < 48 then (if (bt (rdOf ByteArray.empty x3 x4) x5) = 45 then (spec_l2Name.l1 k x0 x3 x4 (wrap64 (x5 + 1))) else (if (bt (rdOf ByteArray.empty x3 x4) x5) = 95 then (spec_l2Name.l1 k x0 x3 x4 (wrap64 (x5 + 1))) else (some false))) else (if (bt (rdOf ByteArray.empty x3 x4) x5) > 57 then (if (bt (rdOf ByteArray.empty x3 x4) x5) = 45 then (spec_l2Name.l1 k x0 x3 x4 (wrap64 (x5 + 1))) else (if (bt (rdOf ByteArray.empty x3 x4) x5) = 95 then (spec_l2Name.l1 k x0 x3 x4 (wrap64 (x5 + 1))) else (some false))) else (spec_l2Name.l1 k x0 x3 x4 (wrap64 (x5 + 1))))) else (spec_l2Name.l1 k x0 x3 x4 (wrap64 (x5 + 1))))) else (none)) else (spec_l2Name.l0 k x0 x3 (wrap64 (x4 + 1)))) else (none)) else (none)
end
def spec_l2Name.f (k : Nat) (a0 : ByteArray) : Option (Bool) := (spec_l1Cut.f k a0 46).bind fun t135 => (spec_l2Name.l0 k a0 t135 0)
theorem spec_l2Name.mono_l : ∀ k, (∀ y0 y1 y2, LeO (spec_l2Name.l0 k y0 y1 y2) (spec_l2Name.l0 (k + 1) y0 y1 y2)) ∧ (∀ y0 y1 y2 y3, LeO (spec_l2Name.j1 k y0 y1 y2 y3) (spec_l2Name.j1 (k + 1) y0 y1 y2 y3)) ∧ (∀ y0 y1 y2 y3, LeO (spec_l2Name.l1 k y0 y1 y2 y3) (spec_l2Name.l1 (k + 1) y0 y1 y2 y3))
 | 0 => ⟨fun _ _ _ r h => by simp [spec_l2Name.l0] at h, fun _ _ _ _ r h => by simp [spec_l2Name.j1] at h, fun _ _ _ _ r h => by simp [spec_l2Name.l1] at h⟩
 | k + 1 => by
  obtain ⟨ih0, ih1, ih2⟩ := spec_l2Name.mono_l k
  refine ⟨?_, ?_, ?_⟩
  all_goals intros
  all_goals first | unfold spec_l2Name.l0 | unfold spec_l2Name.j1 | unfold spec_l2Name.l1
  all_goals repeat' (first | (with_reducible first | apply ih0 | apply ih1 | apply ih2 | apply spec_l1Cut.mono | exact LeO.refl _ | exact LeO.none _ | refine LeO.ite ?_ ?_ | refine LeO.bind ?_ fun _ => ?_) | apply ih0 | apply ih1 | apply ih2 | apply spec_l1Cut.mono | exact LeO.none _ | refine LeO.ite ?_ ?_ | refine LeO.bind ?_ fun _ => ?_)
theorem spec_l2Name.mono : ∀ a0 k, LeO (spec_l2Name.f k a0) (spec_l2Name.f (k + 1) a0) := by
 intro a0 k
 obtain ⟨ih0, ih1, ih2⟩ := spec_l2Name.mono_l k
 unfold spec_l2Name.f
 repeat' (first | (with_reducible first | apply ih0 | apply ih1 | apply ih2 | apply spec_l1Cut.mono | exact LeO.refl _ | exact LeO.none _ | refine LeO.ite ?_ ?_ | refine LeO.bind ?_ fun _ => ?_) | apply ih0 | apply ih1 | apply ih2 | apply spec_l1Cut.mono | exact LeO.none _ | refine LeO.ite ?_ ?_ | refine LeO.bind ?_ fun _ => ?_)
set_option maxHeartbeats 8000000 in
set_option maxRecDepth 100000 in
theorem spec_l2Name.calls (k : Nat) (a0 : ByteArray) (r : Bool) (w : World) (h : spec_l2Name.f k a0 = some r) :
  Calls Tryd.prog 82 #[.string a0] w fun e w' => e = .returned (.bool r) ∧ Below w.heap.size w w' := by
 have HB := Aside0.mk (Below.refl w.heap.size w)
 have H : ((spec_l1Cut.f k a0 46).bind fun t135 => (spec_l2Name.l0 k a0 t135 0)) = some r := h
 clear h
 obtain ⟨t135, A2, H⟩ := zO H
 have H' := Aside0.mk H
 clear H
 go_enter Tryd.func82, Tryd.ntmps82
 try dsimp only [List.append]
 go_wp2_with (first | ((with_reducible refine gate_callee (f := 102) rfl ?_); refine goesL_ (some 8) rfl rfl Tryd.func102 (by kernel_rfl) rfl #[.string a0, .int .u8 46] rfl zM ?_; (with_reducible refine (spec_l1Cut.calls k a0 46 t135 _ A2.out).mono ?_); rintro e w3 ⟨v136, rfl, ho0, hb⟩; refine ⟨_, rfl, ?_⟩; have HO137 := zL ho0; replace HB := zT hb; (try clear hb ho0)))
 go_loopg [4] k (fun kq v4 w' => ∃ (x4_1 : Int), v4 = .int .i64 x4_1 ∧ Aside0 (spec_l2Name.l0 kq a0 t135 x4_1 = some r) ∧ Aside0 (kq ≤ k) ∧ Aside0 (Kd.R Kd.string 9 w' w.heap.size (fun _ => True) v136 t135) ∧ Aside0 (Below w.heap.size w w'))
 case atStart => exact ⟨(0), zS, H', ⟨Nat.le_refl _⟩, ⟨zR HO137⟩, ⟨zB⟩⟩
 case round =>
  clear H'
  obtain ⟨x4_1, rfl, HA, HK1, HO_3, HB⟩ := hrel
  cases gk with
  | zero => exact absurd HA.out (by simp [spec_l2Name.l0])
  | succ k1 =>
   have H := HA.out
   clear HA
   simp only [spec_l2Name.l0] at H
   by_cases c4 : x4_1 < (t135.length : Int)
   ·rw [if_pos c4] at H
    have c4b0 := decide_eq_true c4
    clear c4
    have HC5 := Aside0.mk H
    clear H
    obtain ⟨Ao6, co6, eo6⟩ := Kd.R_slice HO_3.out
    subst eo6
    go_upto_region 5 with (fail)
    go_cut [30] (fun v30 wc => ∃ (kq : Nat) (x30_4 : Bool), v30 = .bool x30_4 ∧ Aside0 (spec_l2Name.j1 kq a0 t135 x4_1 x30_4 = some r) ∧ Aside0 (kq ≤ k1) ∧ Aside0 (Kd.R Kd.string 9 wc w.heap.size (fun _ => True) (.slice Ao6 t135.length co6) t135) ∧ Aside0 (Below w.heap.size w wc))
    case first =>
     have H := HC5.out
     clear HC5
     by_cases c7 : 0 ≤ x4_1
     ·rw [if_pos c7] at H
      have c7b0 := decide_eq_true c7
      clear c7
      (first | rw [c7b0] | (simp only [i64_w, i32_w]; rw [c7b0]) | skip)
      by_cases c8 : (rdOf ByteArray.empty t135 x4_1).toList = ([] : List UInt8)
      ·rw [if_pos c8] at H
       have c8b0 := beq_iff_eq.mpr c8
       have c8b1 := bne_eq_false_iff_eq.mpr c8
       clear c8
       by_cases c9 : x4_1 < (wrap64 ((t135.length : Int) - 1))
       ·rw [if_pos c9] at H
        have c9b0 := decide_eq_true c9
        clear c9
        have H' := Aside0.mk H
        clear H
        obtain ⟨ad139, e139, hx139_0, p139, q139⟩ := zA (Kd.R_reads' HO_3.out).2.2 x4_1
        cases e139
        go_wp2
        go_meet
        case rel => exact ⟨_, (true), zS, H', ⟨by have := HK1.out; first | omega | exact Nat.le_refl _⟩, ⟨zR HO_3⟩, ⟨zB⟩⟩
       ·rw [if_neg c9] at H
        have c9b0 := decide_eq_false c9
        clear c9
        have H' := Aside0.mk H
        clear H
        obtain ⟨ad139, e139, hx139_0, p139, q139⟩ := zA (Kd.R_reads' HO_3.out).2.2 x4_1
        cases e139
        go_wp2
        go_meet
        case rel => exact ⟨_, ((x4_1 == 0)), zS, H', ⟨by have := HK1.out; first | omega | exact Nat.le_refl _⟩, ⟨zR HO_3⟩, ⟨zB⟩⟩
      ·rw [if_neg c8] at H
       have c8b0 := beq_eq_false_iff_ne.mpr c8
       have c8b1 := bne_iff_ne.mpr c8
       have H' := Aside0.mk H
       clear H
       obtain ⟨ad139, e139, hx139_0, p139, q139⟩ := zA (Kd.R_reads' HO_3.out).2.2 x4_1
       cases e139
       go_wp2
       go_meet
       case rel => exact ⟨_, (false), zS, H', ⟨by have := HK1.out; first | omega | exact Nat.le_refl _⟩, ⟨zR HO_3⟩, ⟨zB⟩⟩
     ·rw [if_neg c7] at H
      exact absurd H (by simp)
    case rest =>
     clear HC5
     try clear c4
     try clear c4b0
     obtain ⟨kq, x30_4, rfl, HA, HJ4, HO_3, HB⟩ := hcut
     cases kq with
     | zero => exact absurd HA.out (by simp [spec_l2Name.j1])
     | succ kj4 =>
      have H := HA.out
      clear HA
      simp only [spec_l2Name.j1] at H
      by_cases c10 : x30_4 = true
      ·subst c10
       replace H := zI H rfl
       obtain rfl := Option.some.inj H
       go_wp2
       go_ret
       exact ⟨zE, zB⟩
      ·replace c10 := Bool.eq_false_iff.mpr c10
       subst c10
       replace H := zJ H zF
       have H' := Aside0.mk H
       clear H
       go_wp2
       go_loopg [5] kj4 (fun kq v5 w' => ∃ (x5_3 : Int), v5 = .int .i64 x5_3 ∧ Aside0 (spec_l2Name.l1 kq a0 t135 x4_1 x5_3 = some r) ∧ Aside0 (kq ≤ kj4) ∧ Aside0 (Kd.R Kd.string 9 w' w.heap.size (fun _ => True) (.slice Ao6 t135.length co6) t135) ∧ Aside0 (Below w.heap.size w w'))
       case atStart => exact ⟨(0), zS, H', ⟨Nat.le_refl _⟩, ⟨zR HO_3⟩, ⟨zB⟩⟩
       case round =>
        clear H'
        try clear c4
        try clear c4b0
        try clear c10
        obtain ⟨x5_3, rfl, HA, HK3, HO_3, HB⟩ := hrel
        cases gk with
        | zero => exact absurd HA.out (by simp [spec_l2Name.l1])
        | succ k3 =>
         have H := HA.out
         clear HA
         simp only [spec_l2Name.l1] at H
         by_cases c11 : 0 ≤ x4_1
         ·rw [if_pos c11] at H
          have c11b0 := decide_eq_true c11
          clear c11
          by_cases c12 : x4_1 < (t135.length : Int)
          ·rw [if_pos c12] at H
           have c12b0 := decide_eq_true c12
           clear c12
           by_cases c13 : x5_3 < ((rdOf ByteArray.empty t135 x4_1).size : Int)
           ·rw [if_pos c13] at H
            have c13b0 := decide_eq_true c13
            clear c13
            by_cases c14 : 0 ≤ x5_3
            ·rw [if_pos c14] at H
             have c14b0 := decide_eq_true c14
             clear c14
             by_cases c16 : (bt (rdOf ByteArray.empty t135 x4_1) x5_3) < 97
             ·rw [if_pos c16] at H
              have c16b0 := decide_eq_true c16
              clear c16
              by_cases c17 : (bt (rdOf ByteArray.empty t135 x4_1) x5_3) < 48
              ·rw [if_pos c17] at H
               have c17b0 := decide_eq_true c17
               clear c17
               by_cases c18 : (bt (rdOf ByteArray.empty t135 x4_1) x5_3) = 45
               ·rw [if_pos c18] at H
                have c18b0 := beq_iff_eq.mpr c18
                have c18b1 := bne_eq_false_iff_eq.mpr c18
                clear c18
                have H' := Aside0.mk H
                clear H
                obtain ⟨ad140, e140, hx140_0, p140, q140⟩ := zA (Kd.R_reads' HO_3.out).2.2 x4_1
                cases e140
                obtain ⟨ad141, e141, hx141_0, p141, q141⟩ := zA (Kd.R_reads' HO_3.out).2.2 x4_1
                obtain rfl : ad140 = ad141 := (by injection e141)
                obtain ⟨p15, q15⟩ := zN x5_3 ((rdOf ByteArray.empty t135 x4_1).size : Int)
                have hx15 := bt_at (rdOf ByteArray.empty t135 x4_1) x5_3
                go_wp2
                go_roundg k3
                case measure => have := HK1.out; have := HJ4.out; have := HK3.out; omega
                case rel => exact ⟨(wrap64 (x5_3 + 1)), zS, H', ⟨by have := HK1.out; have := HJ4.out; have := HK3.out; omega⟩, ⟨zR HO_3⟩, ⟨zB⟩⟩
               ·rw [if_neg c18] at H
                have c18b0 := beq_eq_false_iff_ne.mpr c18
                have c18b1 := bne_iff_ne.mpr c18
                by_cases c19 : (bt (rdOf ByteArray.empty t135 x4_1) x5_3) = 95
                ·rw [if_pos c19] at H
                 have c19b0 := beq_iff_eq.mpr c19
                 have c19b1 := bne_eq_false_iff_eq.mpr c19
                 clear c19
                 have H' := Aside0.mk H
                 clear H
                 obtain ⟨ad140, e140, hx140_0, p140, q140⟩ := zA (Kd.R_reads' HO_3.out).2.2 x4_1
                 cases e140
                 obtain ⟨ad141, e141, hx141_0, p141, q141⟩ := zA (Kd.R_reads' HO_3.out).2.2 x4_1
                 obtain rfl : ad140 = ad141 := (by injection e141)
                 obtain ⟨p15, q15⟩ := zN x5_3 ((rdOf ByteArray.empty t135 x4_1).size : Int)
                 have hx15 := bt_at (rdOf ByteArray.empty t135 x4_1) x5_3
                 go_wp2
                 go_roundg k3
                 case measure => have := HK1.out; have := HJ4.out; have := HK3.out; omega
                 case rel => exact ⟨(wrap64 (x5_3 + 1)), zS, H', ⟨by have := HK1.out; have := HJ4.out; have := HK3.out; omega⟩, ⟨zR HO_3⟩, ⟨zB⟩⟩
                ·rw [if_neg c19] at H
                 have c19b0 := beq_eq_false_iff_ne.mpr c19
                 have c19b1 := bne_iff_ne.mpr c19
                 obtain rfl := Option.some.inj H
                 obtain ⟨ad140, e140, hx140_0, p140, q140⟩ := zA (Kd.R_reads' HO_3.out).2.2 x4_1
                 cases e140
                 obtain ⟨ad141, e141, hx141_0, p141, q141⟩ := zA (Kd.R_reads' HO_3.out).2.2 x4_1
                 obtain rfl : ad140 = ad141 := (by injection e141)
                 obtain ⟨p15, q15⟩ := zN x5_3 ((rdOf ByteArray.empty t135 x4_1).size : Int)
                 have hx15 := bt_at (rdOf ByteArray.empty t135 x4_1) x5_3
                 go_wp2
                 go_ret
                 exact ⟨zE, zB⟩
              ·rw [if_neg c17] at H
               have c17b0 := decide_eq_false c17
               clear c17
               by_cases c20 : (bt (rdOf ByteArray.empty t135 x4_1) x5_3) > 57
               ·rw [if_pos c20] at H
                have c20b0 := decide_eq_true c20
                clear c20
                by_cases c21 : (bt (rdOf ByteArray.empty t135 x4_1) x5_3) = 45
                ·rw [if_pos c21] at H
                 have c21b0 := beq_iff_eq.mpr c21
                 have c21b1 := bne_eq_false_iff_eq.mpr c21
                 clear c21
                 have H' := Aside0.mk H
                 clear H
                 obtain ⟨ad140, e140, hx140_0, p140, q140⟩ := zA (Kd.R_reads' HO_3.out).2.2 x4_1
                 cases e140
                 obtain ⟨ad141, e141, hx141_0, p141, q141⟩ := zA (Kd.R_reads' HO_3.out).2.2 x4_1
                 obtain rfl : ad140 = ad141 := (by injection e141)
                 obtain ⟨p15, q15⟩ := zN x5_3 ((rdOf ByteArray.empty t135 x4_1).size : Int)
                 have hx15 := bt_at (rdOf ByteArray.empty t135 x4_1) x5_3
                 go_wp2
                 go_roundg k3
                 case measure => have := HK1.out; have := HJ4.out; have := HK3.out; omega
                 case rel => exact ⟨(wrap64 (x5_3 + 1)), zS, H', ⟨by have := HK1.out; have := HJ4.out; have := HK3.out; omega⟩, ⟨zR HO_3⟩, ⟨zB⟩⟩
                ·rw [if_neg c21] at H
                 have c21b0 := beq_eq_false_iff_ne.mpr c21
                 have c21b1 := bne_iff_ne.mpr c21
                 by_cases c22 : (bt (rdOf ByteArray.empty t135 x4_1) x5_3) = 95
                 ·rw [if_pos c22] at H
                  have c22b0 := beq_iff_eq.mpr c22
                  have c22b1 := bne_eq_false_iff_eq.mpr c22
                  clear c22
                  have H' := Aside0.mk H
                  clear H
                  obtain ⟨ad140, e140, hx140_0, p140, q140⟩ := zA (Kd.R_reads' HO_3.out).2.2 x4_1
                  cases e140
                  obtain ⟨ad141, e141, hx141_0, p141, q141⟩ := zA (Kd.R_reads' HO_3.out).2.2 x4_1
                  obtain rfl : ad140 = ad141 := (by injection e141)
                  obtain ⟨p15, q15⟩ := zN x5_3 ((rdOf ByteArray.empty t135 x4_1).size : Int)
                  have hx15 := bt_at (rdOf ByteArray.empty t135 x4_1) x5_3
                  go_wp2
                  go_roundg k3
                  case measure => have := HK1.out; have := HJ4.out; have := HK3.out; omega
                  case rel => exact ⟨(wrap64 (x5_3 + 1)), zS, H', ⟨by have := HK1.out; have := HJ4.out; have := HK3.out; omega⟩, ⟨zR HO_3⟩, ⟨zB⟩⟩
                 ·rw [if_neg c22] at H
                  have c22b0 := beq_eq_false_iff_ne.mpr c22
                  have c22b1 := bne_iff_ne.mpr c22
                  obtain rfl := Option.some.inj H
                  obtain ⟨ad140, e140, hx140_0, p140, q140⟩ := zA (Kd.R_reads' HO_3.out).2.2 x4_1
                  cases e140
                  obtain ⟨ad141, e141, hx141_0, p141, q141⟩ := zA (Kd.R_reads' HO_3.out).2.2 x4_1
                  obtain rfl : ad140 = ad141 := (by injection e141)
                  obtain ⟨p15, q15⟩ := zN x5_3 ((rdOf ByteArray.empty t135 x4_1).size : Int)
                  have hx15 := bt_at (rdOf ByteArray.empty t135 x4_1) x5_3
                  go_wp2
                  go_ret
                  exact ⟨zE, zB⟩
               ·rw [if_neg c20] at H
                have c20b0 := decide_eq_false c20
                clear c20
                have H' := Aside0.mk H
                clear H
                obtain ⟨ad140, e140, hx140_0, p140, q140⟩ := zA (Kd.R_reads' HO_3.out).2.2 x4_1
                cases e140
                obtain ⟨ad141, e141, hx141_0, p141, q141⟩ := zA (Kd.R_reads' HO_3.out).2.2 x4_1
                obtain rfl : ad140 = ad141 := (by injection e141)
                obtain ⟨p15, q15⟩ := zN x5_3 ((rdOf ByteArray.empty t135 x4_1).size : Int)
                have hx15 := bt_at (rdOf ByteArray.empty t135 x4_1) x5_3
                go_wp2
                go_roundg k3
                case measure => have := HK1.out; have := HJ4.out; have := HK3.out; omega
                case rel => exact ⟨(wrap64 (x5_3 + 1)), zS, H', ⟨by have := HK1.out; have := HJ4.out; have := HK3.out; omega⟩, ⟨zR HO_3⟩, ⟨zB⟩⟩
             ·rw [if_neg c16] at H
              have c16b0 := decide_eq_false c16
              clear c16
              by_cases c23 : (bt (rdOf ByteArray.empty t135 x4_1) x5_3) > 122
              ·rw [if_pos c23] at H
               have c23b0 := decide_eq_true c23
               clear c23
               by_cases c24 : (bt (rdOf ByteArray.empty t135 x4_1) x5_3) < 48
               ·rw [if_pos c24] at H
                have c24b0 := decide_eq_true c24
                clear c24
                by_cases c25 : (bt (rdOf ByteArray.empty t135 x4_1) x5_3) = 45
                ·rw [if_pos c25] at H
                 have c25b0 := beq_iff_eq.mpr c25
                 have c25b1 := bne_eq_false_iff_eq.mpr c25
                 clear c25
                 have H' := Aside0.mk H
                 clear H
                 obtain ⟨ad140, e140, hx140_0, p140, q140⟩ := zA (Kd.R_reads' HO_3.out).2.2 x4_1
                 cases e140
                 obtain ⟨ad141, e141, hx141_0, p141, q141⟩ := zA (Kd.R_reads' HO_3.out).2.2 x4_1
                 obtain rfl : ad140 = ad141 := (by injection e141)
                 obtain ⟨p15, q15⟩ := zN x5_3 ((rdOf ByteArray.empty t135 x4_1).size : Int)
                 have hx15 := bt_at (rdOf ByteArray.empty t135 x4_1) x5_3
                 go_wp2
                 go_roundg k3
                 case measure => have := HK1.out; have := HJ4.out; have := HK3.out; omega
                 case rel => exact ⟨(wrap64 (x5_3 + 1)), zS, H', ⟨by have := HK1.out; have := HJ4.out; have := HK3.out; omega⟩, ⟨zR HO_3⟩, ⟨zB⟩⟩
                ·rw [if_neg c25] at H
                 have c25b0 := beq_eq_false_iff_ne.mpr c25
                 have c25b1 := bne_iff_ne.mpr c25
                 by_cases c26 : (bt (rdOf ByteArray.empty t135 x4_1) x5_3) = 95
                 ·rw [if_pos c26] at H
                  have c26b0 := beq_iff_eq.mpr c26
                  have c26b1 := bne_eq_false_iff_eq.mpr c26
                  clear c26
                  have H' := Aside0.mk H
                  clear H
                  obtain ⟨ad140, e140, hx140_0, p140, q140⟩ := zA (Kd.R_reads' HO_3.out).2.2 x4_1
                  cases e140
                  obtain ⟨ad141, e141, hx141_0, p141, q141⟩ := zA (Kd.R_reads' HO_3.out).2.2 x4_1
                  obtain rfl : ad140 = ad141 := (by injection e141)
                  obtain ⟨p15, q15⟩ := zN x5_3 ((rdOf ByteArray.empty t135 x4_1).size : Int)
                  have hx15 := bt_at (rdOf ByteArray.empty t135 x4_1) x5_3
                  go_wp2
                  go_roundg k3
                  case measure => have := HK1.out; have := HJ4.out; have := HK3.out; omega
                  case rel => exact ⟨(wrap64 (x5_3 + 1)), zS, H', ⟨by have := HK1.out; have := HJ4.out; have := HK3.out; omega⟩, ⟨zR HO_3⟩, ⟨zB⟩⟩
                 ·rw [if_neg c26] at H
                  have c26b0 := beq_eq_false_iff_ne.mpr c26
                  have c26b1 := bne_iff_ne.mpr c26
                  obtain rfl := Option.some.inj H
                  obtain ⟨ad140, e140, hx140_0, p140, q140⟩ := zA (Kd.R_reads' HO_3.out).2.2 x4_1
                  cases e140
                  obtain ⟨ad141, e141, hx141_0, p141, q141⟩ := zA (Kd.R_reads' HO_3.out).2.2 x4_1
                  obtain rfl : ad140 = ad141 := (by injection e141)
                  obtain ⟨p15, q15⟩ := zN x5_3 ((rdOf ByteArray.empty t135 x4_1).size : Int)
                  have hx15 := bt_at (rdOf ByteArray.empty t135 x4_1) x5_3
                  go_wp2
                  go_ret
                  exact ⟨zE, zB⟩
               ·rw [if_neg c24] at H
                have c24b0 := decide_eq_false c24
                clear c24
                by_cases c27 : (bt (rdOf ByteArray.empty t135 x4_1) x5_3) > 57
                ·rw [if_pos c27] at H
                 have c27b0 := decide_eq_true c27
                 clear c27
                 by_cases c28 : (bt (rdOf ByteArray.empty t135 x4_1) x5_3) = 45
                 ·rw [if_pos c28] at H
                  have c28b0 := beq_iff_eq.mpr c28
                  have c28b1 := bne_eq_false_iff_eq.mpr c28
                  clear c28
                  have H' := Aside0.mk H
                  clear H
                  obtain ⟨ad140, e140, hx140_0, p140, q140⟩ := zA (Kd.R_reads' HO_3.out).2.2 x4_1
                  cases e140
                  obtain ⟨ad141, e141, hx141_0, p141, q141⟩ := zA (Kd.R_reads' HO_3.out).2.2 x4_1
                  obtain rfl : ad140 = ad141 := (by injection e141)
                  obtain ⟨p15, q15⟩ := zN x5_3 ((rdOf ByteArray.empty t135 x4_1).size : Int)
                  have hx15 := bt_at (rdOf ByteArray.empty t135 x4_1) x5_3
                  go_wp2
                  go_roundg k3
                  case measure => have := HK1.out; have := HJ4.out; have := HK3.out; omega
                  case rel => exact ⟨(wrap64 (x5_3 + 1)), zS, H', ⟨by have := HK1.out; have := HJ4.out; have := HK3.out; omega⟩, ⟨zR HO_3⟩, ⟨zB⟩⟩
                 ·rw [if_neg c28] at H
                  have c28b0 := beq_eq_false_iff_ne.mpr c28
                  have c28b1 := bne_iff_ne.mpr c28
                  by_cases c29 : (bt (rdOf ByteArray.empty t135 x4_1) x5_3) = 95
                  ·rw [if_pos c29] at H
                   have c29b0 := beq_iff_eq.mpr c29
                   have c29b1 := bne_eq_false_iff_eq.mpr c29
                   clear c29
                   have H' := Aside0.mk H
                   clear H
                   obtain ⟨ad140, e140, hx140_0, p140, q140⟩ := zA (Kd.R_reads' HO_3.out).2.2 x4_1
                   cases e140
                   obtain ⟨ad141, e141, hx141_0, p141, q141⟩ := zA (Kd.R_reads' HO_3.out).2.2 x4_1
                   obtain rfl : ad140 = ad141 := (by injection e141)
                   obtain ⟨p15, q15⟩ := zN x5_3 ((rdOf ByteArray.empty t135 x4_1).size : Int)
                   have hx15 := bt_at (rdOf ByteArray.empty t135 x4_1) x5_3
                   go_wp2
                   go_roundg k3
                   case measure => have := HK1.out; have := HJ4.out; have := HK3.out; omega
                   case rel => exact ⟨(wrap64 (x5_3 + 1)), zS, H', ⟨by have := HK1.out; have := HJ4.out; have := HK3.out; omega⟩, ⟨zR HO_3⟩, ⟨zB⟩⟩
                  ·rw [if_neg c29] at H
                   have c29b0 := beq_eq_false_iff_ne.mpr c29
                   have c29b1 := bne_iff_ne.mpr c29
                   obtain rfl := Option.some.inj H
                   obtain ⟨ad140, e140, hx140_0, p140, q140⟩ := zA (Kd.R_reads' HO_3.out).2.2 x4_1
                   cases e140
                   obtain ⟨ad141, e141, hx141_0, p141, q141⟩ := zA (Kd.R_reads' HO_3.out).2.2 x4_1
                   obtain rfl : ad140 = ad141 := (by injection e141)
                   obtain ⟨p15, q15⟩ := zN x5_3 ((rdOf ByteArray.empty t135 x4_1).size : Int)
                   have hx15 := bt_at (rdOf ByteArray.empty t135 x4_1) x5_3
                   go_wp2
                   go_ret
                   exact ⟨zE, zB⟩
                ·rw [if_neg c27] at H
                 have c27b0 := decide_eq_false c27
                 clear c27
                 have H' := Aside0.mk H
                 clear H
                 obtain ⟨ad140, e140, hx140_0, p140, q140⟩ := zA (Kd.R_reads' HO_3.out).2.2 x4_1
                 cases e140
                 obtain ⟨ad141, e141, hx141_0, p141, q141⟩ := zA (Kd.R_reads' HO_3.out).2.2 x4_1
                 obtain rfl : ad140 = ad141 := (by injection e141)
                 obtain ⟨p15, q15⟩ := zN x5_3 ((rdOf ByteArray.empty t135 x4_1).size : Int)
                 have hx15 := bt_at (rdOf ByteArray.empty t135 x4_1) x5_3
                 go_wp2
                 go_roundg k3
                 case measure => have := HK1.out; have := HJ4.out; have := HK3.out; omega
                 case rel => exact ⟨(wrap64 (x5_3 + 1)), zS, H', ⟨by have := HK1.out; have := HJ4.out; have := HK3.out; omega⟩, ⟨zR HO_3⟩, ⟨zB⟩⟩
              ·rw [if_neg c23] at H
               have c23b0 := decide_eq_false c23
               clear c23
               have H' := Aside0.mk H
               clear H
               obtain ⟨ad140, e140, hx140_0, p140, q140⟩ := zA (Kd.R_reads' HO_3.out).2.2 x4_1
               cases e140
               obtain ⟨ad141, e141, hx141_0, p141, q141⟩ := zA (Kd.R_reads' HO_3.out).2.2 x4_1
               obtain rfl : ad140 = ad141 := (by injection e141)
               obtain ⟨p15, q15⟩ := zN x5_3 ((rdOf ByteArray.empty t135 x4_1).size : Int)
               have hx15 := bt_at (rdOf ByteArray.empty t135 x4_1) x5_3
               go_wp2
               go_roundg k3
               case measure => have := HK1.out; have := HJ4.out; have := HK3.out; omega
               case rel => exact ⟨(wrap64 (x5_3 + 1)), zS, H', ⟨by have := HK1.out; have := HJ4.out; have := HK3.out; omega⟩, ⟨zR HO_3⟩, ⟨zB⟩⟩
            ·rw [if_neg c14] at H
             exact absurd H (by simp)
           ·rw [if_neg c13] at H
            have c13b0 := decide_eq_false c13
            clear c13
            have H' := Aside0.mk H
            clear H
            obtain ⟨ad140, e140, hx140_0, p140, q140⟩ := zA (Kd.R_reads' HO_3.out).2.2 x4_1
            cases e140
            go_wp2
            go_roundg k3
            case measure => have := HK1.out; have := HJ4.out; have := HK3.out; omega
            case rel => exact ⟨(wrap64 (x4_1 + 1)), zS, H', ⟨by have := HK1.out; have := HJ4.out; have := HK3.out; omega⟩, ⟨zR HO_3⟩, ⟨zB⟩⟩
          ·rw [if_neg c12] at H
           exact absurd H (by simp)
         ·rw [if_neg c11] at H
          exact absurd H (by simp)
   ·rw [if_neg c4] at H
    have c4b0 := decide_eq_false c4
    clear c4
    obtain ⟨t138, A30, H⟩ := zO H
    obtain rfl := Option.some.inj H
    obtain ⟨Ao31, co31, eo31⟩ := Kd.R_slice HO_3.out
    subst eo31
    go_wp2_with (first | ((with_reducible refine gate_callee (f := 44) rfl ?_); refine goesL_ (some 70) rfl rfl Tryd.func44 (by kernel_rfl) rfl #[.int .i64 (a0.size : Int), .int .i64 1, .int .i64 60] rfl zM ?_; (with_reducible refine (spec_l1In.calls (a0.size : Int) 1 60 t138 _ A30.out).mono ?_); rintro e w' ⟨rfl, ⟨nd, rfl⟩⟩; refine ⟨_, rfl, ?_⟩))
    go_ret
    exact ⟨zE, zB⟩

end Go.Proofs.YtakobibclhdakaaDoor.PFnExactJarSave
