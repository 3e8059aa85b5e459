-- printed by a program of this session's (wip/myprint.py) out of the translation; Lean checks it
import Derived.Test.YtakobibclhdakaaDoorPFnExactJarSavex0
import Derived.Test.YtakobibclhdakaaDoorPFnExactJarSavex5
namespace Go.Proofs.YtakobibclhdakaaDoor.PFnExactJarSave
open Go.RowKit Go.Proofs.YtakobibclhdakaaDoorG Go.Proofs.YtakobibclhdakaaDoorZ Go.Proofs.YtakobibclhdakaaDoorW.PrintWords Go.Proofs.YtakobibclhdakaaDoorW.PrintLast Go.Proofs.YtakobibclhdakaaDoorW.PrintMore
attribute [local go_sem] str_leq str_gtr str_geq max2_int min2_int max_two min_two max_three min_three max_four min_four   -- for this text's walks alone
set_option linter.unusedVariables false
set_option linter.unusedSimpArgs false

/-! ### spec_l1Dec: function 99 -/
def spec_l1Dec.f : Nat → Int → Option (ByteArray)
 | 0, _ => none
 | k + 1, a0 => if a0 < (-9223372036854775807) then (some (⟨#[45, 57, 50, 50, 51, 51, 55, 50, 48, 51, 54, 56, 53, 52, 55, 55, 53, 56, 48, 56]⟩ : ByteArray)) else (if a0 < 0 then ((spec_l1Dec.f k (wrap64 (-a0))).bind fun t171 => (if 1 + t171.size ≤ 9223372036854775807 then (some ((⟨#[45]⟩ : ByteArray) ++ t171)) else (none))) else (if a0 < 10 then (some (strOfNums (([(wrap64 (48 + a0)) % 256] : List Int)))) else ((spec_l1Dec.f k (wrap64 (Int.tdiv a0 10))).bind fun t175 => ((some (([(wrap64 (48 + (Int.tmod a0 10))) % 256] : List Int) : List Int)).bind fun y176 => (if t175.size + (strOfNums y176).size ≤ 9223372036854775807 then (some (t175 ++ (strOfNums y176))) else (none))))))
theorem spec_l1Dec.mono_l : ∀ k, (∀ y0, LeO (spec_l1Dec.f k y0) (spec_l1Dec.f (k + 1) y0))
 | 0 => fun _ r h => by simp [spec_l1Dec.f] at h
 | k + 1 => by
  have ih0 := spec_l1Dec.mono_l k
  all_goals intros
  all_goals first | unfold spec_l1Dec.f
  all_goals repeat' (first | (with_reducible first | apply ih0 | exact LeO.refl _ | exact LeO.none _ | refine LeO.ite ?_ ?_ | refine LeO.bind ?_ fun _ => ?_) | apply ih0 | exact LeO.none _ | refine LeO.ite ?_ ?_ | refine LeO.bind ?_ fun _ => ?_)
theorem spec_l1Dec.mono : ∀ a0 k, LeO (spec_l1Dec.f k a0) (spec_l1Dec.f (k + 1) a0) := by
 intro a0 k
 have ih0 := spec_l1Dec.mono_l k
 exact ih0 a0
def spec_l1Dec.T7 : Bool × List (List Nat × List Nat) := (true, [([], []), ([0], [0]), ([1], [1]), ([], []), ([3], [3]), ([4], [4]), ([5], [5]), ([6], [6]), ([7], [7]), ([2, 8], [2, 8]), ([9, 2, 0, 1, 2, 3, 4, 5, 6, 7, 8, 9], [9])])
def spec_l1Dec.B7 : List Nat := [0, 1, 3, 0, 8, 24, 56, 120, 248, 511, 1023]
theorem spec_l1Dec.tab7 : rtab .any (opsOf Tryd.f99 7) = spec_l1Dec.T7 := by kernel_rfl
theorem spec_l1Dec.bits7 : waitsOk spec_l1Dec.T7.2 spec_l1Dec.B7 = true := by kernel_rfl
set_option maxHeartbeats 8000000 in
set_option maxRecDepth 100000 in
theorem spec_l1Dec.calls (k : Nat) : ∀ (a0 : Int) (r : ByteArray) (w : World) (h : spec_l1Dec.f k a0 = some r),
  Calls Tryd.prog 99 #[.int .i64 a0] w fun e w' => e = .returned (.string r) ∧ Below w.heap.size w w' := by
 induction k using Nat.strongRecOn with
 | _ k ih =>
 intro a0 r w h
 cases k with
 | zero => exact absurd h (by simp [spec_l1Dec.f])
 | succ k =>
 simp only [spec_l1Dec.f] at h
 have HB := Aside0.mk (Below.refl w.heap.size w)
 have H : (if a0 < (-9223372036854775807) then (some (⟨#[45, 57, 50, 50, 51, 51, 55, 50, 48, 51, 54, 56, 53, 52, 55, 55, 53, 56, 48, 56]⟩ : ByteArray)) else (if a0 < 0 then ((spec_l1Dec.f k (wrap64 (-a0))).bind fun t171 => (if 1 + t171.size ≤ 9223372036854775807 then (some ((⟨#[45]⟩ : ByteArray) ++ t171)) else (none))) else (if a0 < 10 then (some (strOfNums (([(wrap64 (48 + a0)) % 256] : List Int)))) else ((spec_l1Dec.f k (wrap64 (Int.tdiv a0 10))).bind fun t175 => ((some (([(wrap64 (48 + (Int.tmod a0 10))) % 256] : List Int) : List Int)).bind fun y176 => (if t175.size + (strOfNums y176).size ≤ 9223372036854775807 then (some (t175 ++ (strOfNums y176))) else (none))))))) = some r := h
 clear h
 by_cases c2 : a0 < (-9223372036854775807)
 ·rw [if_pos c2] at H
  have c2b0 := decide_eq_true c2
  clear c2
  obtain rfl := Option.some.inj H
  go_enter Tryd.func99, Tryd.ntmps99
  go_wp2
  go_ret
  exact ⟨zE, zB⟩
 ·rw [if_neg c2] at H
  have c2b0 := decide_eq_false c2
  clear c2
  by_cases c3 : a0 < 0
  ·rw [if_pos c3] at H
   have c3b0 := decide_eq_true c3
   clear c3
   obtain ⟨t171, A4, H⟩ := zO H
   by_cases c5 : 1 + t171.size ≤ 9223372036854775807
   ·rw [if_pos c5] at H
    have c5b0 := eq_true c5
    have c5b1 := decide_eq_true c5
    try have c5b2 : (9223372036854775807 < 1 + t171.size) = False := eq_false (Nat.not_lt.2 c5)
    obtain rfl := Option.some.inj H
    go_enter Tryd.func99, Tryd.ntmps99
    go_wp2_with (first | ((with_reducible refine gate_callee (f := 99) rfl ?_); refine goesL_ (some 9) rfl rfl Tryd.func99 (by kernel_rfl) rfl #[.int .i64 (wrap64 (-a0))] rfl zM ?_; (with_reducible refine (ih k (by omega) (wrap64 (-a0)) t171 _ A4.out).mono ?_); rintro e w6 ⟨rfl, hb⟩; refine ⟨_, rfl, ?_⟩; replace HB := zT hb; (try clear hb)))
    go_ret
    exact ⟨zE, zB⟩
   ·rw [if_neg c5] at H
    exact absurd H (by simp)
  ·rw [if_neg c3] at H
   have c3b0 := decide_eq_false c3
   clear c3
   by_cases c7 : a0 < 10
   ·rw [if_pos c7] at H
    have c7b0 := decide_eq_true c7
    clear c7
    obtain ⟨y172, hy172⟩ : ∃ y_ : List Int, y_ = (([(wrap64 (48 + a0)) % 256] : List Int)) := ⟨_, rfl⟩
    replace H : (some (strOfNums y172)) = some r := by first | (rw [hy172]; with_reducible exact H) | (have H2_ := (Option.bind_some _ _).symm.trans H; rw [hy172]; with_reducible exact H2_) | (have H2_ := (Option.bind_some _ _).symm.trans H; with_reducible exact H2_) | with_reducible exact H | (rw [hy172]; exact H) | exact H
    have Ny172 := Aside0.mk hy172
    clear hy172
    obtain rfl := Option.some.inj H
    go_enter Tryd.func99, Tryd.ntmps99
    go_wp2_with (first | ((with_reducible refine gate_dst (N := 16) rfl ?_); refine Kd.R_lit (Kd.int .u8) _ 5 ?hg (N := 16) ?hd (xs := ([(wrap64 (48 + a0)) % 256] : List Int)) (inner := [.int .u8 ((wrap64 (48 + a0)) % 256)]) (ok := fun _ => True) (okp := fun _ => True) ?hr ?hp (fun _ hk => hk) trivial (Below.refl _ _) (Nat.le_refl _) (by simp) ?_; (case hd => rfl); (case hg => rfl); (case hr => first | (go_simp; done) | (go_simp; rfl)); (case hp => exact (Reps.one (show Kd.M (Kd.int .u8) _ _ _ ((wrap64 (48 + a0)) % 256) [.int .u8 ((wrap64 (48 + a0)) % 256)] from rfl) (Reps.none _ _))); intro v173 w8 ho9 hb hg_ hnew_; clear hg_ hnew_; (first | rw [← Ny172.out] at ho9 | (simp only [Int.reduceToNat] at ho9; rw [← Ny172.out] at ho9)); have HO174 := zL ho9; replace HB := zT hb; clear hb ho9; have hcv10 := own_string (P := Tryd.prog) Tryd.underlying63 Tryd.underlying5 Tryd.underlying9 (Kd.own_of_R HO174.out)))
    go_ret
    exact ⟨zE, zB⟩
   ·rw [if_neg c7] at H
    have c7b0 := decide_eq_false c7
    clear c7
    obtain ⟨t175, A11, H⟩ := zO H
    obtain ⟨y176, hy176⟩ : ∃ y_ : List Int, y_ = (([(wrap64 (48 + (Int.tmod a0 10))) % 256] : List Int)) := ⟨_, rfl⟩
    replace H : (if t175.size + (strOfNums y176).size ≤ 9223372036854775807 then (some (t175 ++ (strOfNums y176))) else (none)) = some r := by first | (rw [hy176]; with_reducible exact H) | (have H2_ := (Option.bind_some _ _).symm.trans H; rw [hy176]; with_reducible exact H2_) | (have H2_ := (Option.bind_some _ _).symm.trans H; with_reducible exact H2_) | with_reducible exact H | (rw [hy176]; exact H) | exact H
    have Ny176 := Aside0.mk hy176
    clear hy176
    by_cases c12 : t175.size + (strOfNums y176).size ≤ 9223372036854775807
    ·rw [if_pos c12] at H
     have c12b0 := eq_true c12
     have c12b1 := decide_eq_true c12
     try have c12b2 : (9223372036854775807 < t175.size + (strOfNums y176).size) = False := eq_false (Nat.not_lt.2 c12)
     obtain rfl := Option.some.inj H
     go_enter Tryd.func99, Tryd.ntmps99
     try go_wp2
     replace HB := Aside0.mk (below_drew1 HB.out)
     refine start_ (n := 11) (S := fun w' => True) (ds := []) #[false, false, false, false, false, false, false, false, false, false, false] (by kernel_rfl) rfl rfl trivial (fun hHeld => ?_); refine with_tabW spec_l1Dec.tab7 spec_l1Dec.bits7 (fun HT_ HW_ => ?_)
     generalize w.drew = w13 at HB hHeld ⊢
     refine pure_ (i := 0) (N := some 18) (v := ?_) (a' := ?_) #[true, false, false, false, false, false, false, false, false, false, false] rfl rfl (any_of HT_.out (by kernel_rfl)) (fun _ _ _ h => h) (Or.inl ⟨by rfl, ?_⟩) ?_ ?_
     rotate_left
     ·intro w'
      go_simp
      with_reducible rfl
     rotate_left
     ·simp only [Act.put, List.setIfInBounds_toArray, List.set_cons_zero, List.set_cons_succ, i64_w, i32_w]
      rfl
     refine pure_ (i := 1) (N := some 19) (v := ?_) (a' := ?_) #[true, true, false, false, false, false, false, false, false, false, false] rfl rfl (any_of HT_.out (by kernel_rfl)) (fun _ _ _ h => h) (Or.inl ⟨by rfl, ?_⟩) ?_ ?_
     rotate_left
     ·intro w'
      go_simp
      with_reducible rfl
     rotate_left
     ·simp only [Act.put, List.setIfInBounds_toArray, List.set_cons_zero, List.set_cons_succ, i64_w, i32_w]
      rfl
     refine pure_ (i := 3) (N := some 21) (v := ?_) (a' := ?_) #[true, true, false, true, false, false, false, false, false, false, false] rfl rfl (any_of HT_.out (by kernel_rfl)) (fun _ _ _ h => h) (Or.inl ⟨by rfl, ?_⟩) ?_ ?_
     rotate_left
     ·intro w'
      go_simp
      with_reducible rfl
     rotate_left
     ·simp only [Act.put, List.setIfInBounds_toArray, List.set_cons_zero, List.set_cons_succ, i64_w, i32_w]
      rfl
     refine pure_ (i := 4) (N := some 22) (v := ?_) (a' := ?_) #[true, true, false, true, true, false, false, false, false, false, false] rfl rfl (any_of HT_.out (by kernel_rfl)) (fun _ _ _ h => h) (Or.inl ⟨by rfl, ?_⟩) ?_ ?_
     rotate_left
     ·intro w'
      go_simp
      with_reducible rfl
     rotate_left
     ·simp only [Act.put, List.setIfInBounds_toArray, List.set_cons_zero, List.set_cons_succ, i64_w, i32_w]
      rfl
     refine pure_ (i := 5) (N := some 23) (v := ?_) (a' := ?_) #[true, true, false, true, true, true, false, false, false, false, false] rfl rfl (any_of HT_.out (by kernel_rfl)) (fun _ _ _ h => h) (Or.inl ⟨by rfl, ?_⟩) ?_ ?_
     rotate_left
     ·intro w'
      go_simp
      with_reducible rfl
     rotate_left
     ·simp only [Act.put, List.setIfInBounds_toArray, List.set_cons_zero, List.set_cons_succ, i64_w, i32_w]
      rfl
     refine pure_ (i := 6) (N := some 24) (v := ?_) (a' := ?_) #[true, true, false, true, true, true, true, false, false, false, false] rfl rfl (any_of HT_.out (by kernel_rfl)) (fun _ _ _ h => h) (Or.inl ⟨by rfl, ?_⟩) ?_ ?_
     rotate_left
     ·intro w'
      go_simp
      with_reducible rfl
     rotate_left
     ·simp only [Act.put, List.setIfInBounds_toArray, List.set_cons_zero, List.set_cons_succ, i64_w, i32_w]
      rfl
     refine join_ (σ := Value) 2 #[true, true, true, true, true, true, true, true, true, false, false] (fun s_ => [(20, .string t175), (25, s_), (26, .string (strOfNums y176))]) (fun s_ w' => (Kd.R (Kd.int .u8) 5 w' w.heap.size (fun _ => True) s_ y176) ∧ (Below w.heap.size w w')) ?_ ?_
     rotate_left
     ·intro hCont
      refine two_ (i := 2) (j := 7) (Ni := some 20) (Nj := some 25) #[true, true, true, true, true, true, true, false, false, false, false] #[true, true, false, true, true, true, true, true, false, false, false] rfl rfl rfl rfl (two_of HT_.out (by kernel_rfl)) (by decide) (by decide) (fun K hK => ?_) (fun K hK => ?_)
      ·skip
       refine goes_ Tryd.func99 (by kernel_rfl) rfl #[.int .i64 (wrap64 (Int.tdiv a0 10))] (by rfl) rfl rfl zM ?_
       with_reducible refine (ih k (by omega) (wrap64 (Int.tdiv a0 10)) t175 _ A11.out).mono ?_
       rintro e w14 ⟨rfl, hb⟩
       refine ⟨_, rfl, ?_⟩
       replace HB := zT hb
       (try clear hb)
       refine hK.out _ _ trivial (fun hHeld => ?_)
       clear hK K
       refine norm_ (a' := ?_) ?_ ?_
       rotate_left
       ·show Act.put _ (some 20) _ = _
        simp only [Act.put, List.setIfInBounds_toArray, List.set_cons_zero, List.set_cons_succ, i64_w, i32_w]
        rfl
       refine one_ (i := 7) (N := some 25) #[true, true, true, true, true, true, true, true, false, false, false] rfl rfl (one_of HT_.out (by kernel_rfl)) (by decide) (fun K hK => ?_)
       refine Kd.R_lit_step (Kd.int .u8) _ 5 ?hg (N := 25) ?hd (xs := ([(wrap64 (48 + (Int.tmod a0 10))) % 256] : List Int)) (inner := [.int .u8 ((wrap64 (48 + (Int.tmod a0 10))) % 256)]) (ok := fun _ => True) (okp := fun _ => True) ?hr ?hp (fun _ hk => hk) trivial (Below.refl _ _) (Nat.le_refl _) (by simp) ?_; (case hd => rfl); (case hg => rfl); (case hr => first | (go_simp; done) | (go_simp; rfl)); (case hp => exact (Reps.one (show Kd.M (Kd.int .u8) _ _ _ ((wrap64 (48 + (Int.tmod a0 10))) % 256) [.int .u8 ((wrap64 (48 + (Int.tmod a0 10))) % 256)] from rfl) (Reps.none _ _)))
       intro v177 w15 ho16 hb hg_ hnew_
       clear hg_ hnew_
       (first | rw [← Ny176.out] at ho16 | (simp only [Int.reduceToNat] at ho16; rw [← Ny176.out] at ho16))
       have HO178 := zL ho16
       replace HB := zT hb
       clear hb ho16
       refine hK.out _ _ trivial (fun hHeld => ?_)
       clear hK K
       refine norm_ (a' := ?_) ?_ ?_
       rotate_left
       ·show Act.put _ (some 25) _ = _
        simp only [Act.put, List.setIfInBounds_toArray, List.set_cons_zero, List.set_cons_succ, i64_w, i32_w]
        rfl
       refine one_ (i := 8) (N := some 26) #[true, true, true, true, true, true, true, true, true, false, false] rfl rfl (one_of HT_.out (by kernel_rfl)) (by decide) (fun K hK => ?_)
       have hcv17 := own_string (P := Tryd.prog) Tryd.underlying63 Tryd.underlying5 Tryd.underlying9 (Kd.own_of_R HO178.out)
       refine value_ (w1 := ?_) (v := ?_) (by rfl) rfl ?_ ?_
       rotate_left 2
       ·go_simp
        constructor
        ·rfl
        ·rfl
       clear hcv17
       refine hK.out _ _ trivial (fun hHeld => ?_)
       clear hK K
       refine norm_ (a' := ?_) ?_ ?_
       rotate_left
       ·show Act.put _ (some 26) _ = _
        simp only [Act.put, List.setIfInBounds_toArray, List.set_cons_zero, List.set_cons_succ, i64_w, i32_w]
        rfl
       exact norm_ (by simp only [putAll, Act.put, List.setIfInBounds_toArray, List.set_cons_zero, List.set_cons_succ]) (hCont (v177) _ ⟨(zR HO178), zB⟩)
      ·skip
       refine Kd.R_lit_step (Kd.int .u8) _ 5 ?hg (N := 25) ?hd (xs := ([(wrap64 (48 + (Int.tmod a0 10))) % 256] : List Int)) (inner := [.int .u8 ((wrap64 (48 + (Int.tmod a0 10))) % 256)]) (ok := fun _ => True) (okp := fun _ => True) ?hr ?hp (fun _ hk => hk) trivial (Below.refl _ _) (Nat.le_refl _) (by simp) ?_; (case hd => rfl); (case hg => rfl); (case hr => first | (go_simp; done) | (go_simp; rfl)); (case hp => exact (Reps.one (show Kd.M (Kd.int .u8) _ _ _ ((wrap64 (48 + (Int.tmod a0 10))) % 256) [.int .u8 ((wrap64 (48 + (Int.tmod a0 10))) % 256)] from rfl) (Reps.none _ _)))
       intro v177 w14 ho15 hb hg_ hnew_
       clear hg_ hnew_
       (first | rw [← Ny176.out] at ho15 | (simp only [Int.reduceToNat] at ho15; rw [← Ny176.out] at ho15))
       have HO178 := zL ho15
       replace HB := zT hb
       clear hb ho15
       refine hK.out _ _ trivial (fun hHeld => ?_)
       clear hK K
       refine norm_ (a' := ?_) ?_ ?_
       rotate_left
       ·show Act.put _ (some 25) _ = _
        simp only [Act.put, List.setIfInBounds_toArray, List.set_cons_zero, List.set_cons_succ, i64_w, i32_w]
        rfl
       refine two_ (i := 2) (j := 8) (Ni := some 20) (Nj := some 26) #[true, true, true, true, true, true, true, true, false, false, false] #[true, true, false, true, true, true, true, true, true, false, false] rfl rfl rfl rfl (two_of HT_.out (by kernel_rfl)) (by decide) (by decide) (fun K hK => ?_) (fun K hK => ?_)
       ·skip
        refine goes_ Tryd.func99 (by kernel_rfl) rfl #[.int .i64 (wrap64 (Int.tdiv a0 10))] (by rfl) rfl rfl zM ?_
        with_reducible refine (ih k (by omega) (wrap64 (Int.tdiv a0 10)) t175 _ A11.out).mono ?_
        rintro e w16 ⟨rfl, hb⟩
        refine ⟨_, rfl, ?_⟩
        replace HO178 := Aside0.mk (Kd.R_below (zR HO178) hb)
        replace HB := zT hb
        (try clear hb)
        refine hK.out _ _ trivial (fun hHeld => ?_)
        clear hK K
        refine norm_ (a' := ?_) ?_ ?_
        rotate_left
        ·show Act.put _ (some 20) _ = _
         simp only [Act.put, List.setIfInBounds_toArray, List.set_cons_zero, List.set_cons_succ, i64_w, i32_w]
         rfl
        refine one_ (i := 8) (N := some 26) #[true, true, true, true, true, true, true, true, true, false, false] rfl rfl (one_of HT_.out (by kernel_rfl)) (by decide) (fun K hK => ?_)
        have hcv17 := own_string (P := Tryd.prog) Tryd.underlying63 Tryd.underlying5 Tryd.underlying9 (Kd.own_of_R HO178.out)
        refine value_ (w1 := ?_) (v := ?_) (by rfl) rfl ?_ ?_
        rotate_left 2
        ·go_simp
         constructor
         ·rfl
         ·rfl
        clear hcv17
        refine hK.out _ _ trivial (fun hHeld => ?_)
        clear hK K
        refine norm_ (a' := ?_) ?_ ?_
        rotate_left
        ·show Act.put _ (some 26) _ = _
         simp only [Act.put, List.setIfInBounds_toArray, List.set_cons_zero, List.set_cons_succ, i64_w, i32_w]
         rfl
        exact norm_ (by simp only [putAll, Act.put, List.setIfInBounds_toArray, List.set_cons_zero, List.set_cons_succ]) (hCont (v177) _ ⟨(zR HO178), zB⟩)
       ·skip
        have hcv16 := own_string (P := Tryd.prog) Tryd.underlying63 Tryd.underlying5 Tryd.underlying9 (Kd.own_of_R HO178.out)
        refine value_ (w1 := ?_) (v := ?_) (by rfl) rfl ?_ ?_
        rotate_left 2
        ·go_simp
         constructor
         ·rfl
         ·rfl
        clear hcv16
        refine hK.out _ _ trivial (fun hHeld => ?_)
        clear hK K
        refine norm_ (a' := ?_) ?_ ?_
        rotate_left
        ·show Act.put _ (some 26) _ = _
         simp only [Act.put, List.setIfInBounds_toArray, List.set_cons_zero, List.set_cons_succ, i64_w, i32_w]
         rfl
        refine one_ (i := 2) (N := some 20) #[true, true, true, true, true, true, true, true, true, false, false] rfl rfl (one_of HT_.out (by kernel_rfl)) (by decide) (fun K hK => ?_)
        refine goes_ Tryd.func99 (by kernel_rfl) rfl #[.int .i64 (wrap64 (Int.tdiv a0 10))] (by rfl) rfl rfl zM ?_
        with_reducible refine (ih k (by omega) (wrap64 (Int.tdiv a0 10)) t175 _ A11.out).mono ?_
        rintro e w17 ⟨rfl, hb⟩
        refine ⟨_, rfl, ?_⟩
        replace HO178 := Aside0.mk (Kd.R_below (zR HO178) hb)
        replace HB := zT hb
        (try clear hb)
        refine hK.out _ _ trivial (fun hHeld => ?_)
        clear hK K
        refine norm_ (a' := ?_) ?_ ?_
        rotate_left
        ·show Act.put _ (some 20) _ = _
         simp only [Act.put, List.setIfInBounds_toArray, List.set_cons_zero, List.set_cons_succ, i64_w, i32_w]
         rfl
        exact norm_ (by simp only [putAll, Act.put, List.setIfInBounds_toArray, List.set_cons_zero, List.set_cons_succ]) (hCont (v177) _ ⟨(zR HO178), zB⟩)
     rintro v177 w18 ⟨h0_, h1_⟩
     have n0_ : Aside0 (Kd.R (Kd.int .u8) 5 w18 w.heap.size (fun _ => True) v177 y176) := ⟨h0_⟩
     have n1_ : Aside0 (Below w.heap.size w w18) := ⟨h1_⟩
     clear HB
     clear h0_ h1_
     have HO178 := n0_
     have HB := n1_
     clear n0_ n1_
     have hHeld := trivial
     refine norm_ (a' := ?_) ?_ ?_
     rotate_left
     ·simp only [putAll, Act.put, List.setIfInBounds_toArray, List.set_cons_zero, List.set_cons_succ]
      rfl
     refine pure_ (i := 9) (N := some 27) (v := ?_) (a' := ?_) #[true, true, true, true, true, true, true, true, true, true, false] rfl rfl (any_of HT_.out (by kernel_rfl)) (fun _ _ _ h => h) (Or.inl ⟨by rfl, ?_⟩) ?_ ?_
     rotate_left
     ·intro w'
      go_simp
      with_reducible rfl
     rotate_left
     ·simp only [Act.put, List.setIfInBounds_toArray, List.set_cons_zero, List.set_cons_succ, i64_w, i32_w]
      rfl
     refine pure_ (i := 10) (N := some 2) (v := ?_) (a' := ?_) #[true, true, true, true, true, true, true, true, true, true, true] rfl rfl (any_of HT_.out (by kernel_rfl)) (fun _ _ _ h => h) (Or.inl ⟨by rfl, ?_⟩) ?_ ?_
     rotate_left
     ·intro w'
      go_simp
      with_reducible rfl
     rotate_left
     ·simp only [Act.put, List.setIfInBounds_toArray, List.set_cons_zero, List.set_cons_succ, i64_w, i32_w]
      rfl
     refine done_ (done_of HT_.out (by kernel_rfl)) ?_
     try go_wp2
     go_ret
     exact ⟨zE, zB⟩
    ·rw [if_neg c12] at H
     exact absurd H (by simp)

/-! ### spec_l2Four: function 92 -/
def spec_l2Four.f (k : Nat) (a0 : Int) : Option (ByteArray) := (spec_l1Dec.f k (wrap64 (Int.tdiv a0 16777216))).bind fun t179 => (if t179.size + 1 ≤ 9223372036854775807 then ((spec_l1Dec.f k (Int.tmod (wrap64 (Int.tdiv a0 65536)) 256)).bind fun t180 => (if (t179 ++ (⟨#[46]⟩ : ByteArray)).size + t180.size ≤ 9223372036854775807 then (if ((t179 ++ (⟨#[46]⟩ : ByteArray)) ++ t180).size + 1 ≤ 9223372036854775807 then ((spec_l1Dec.f k (Int.tmod (wrap64 (Int.tdiv a0 256)) 256)).bind fun t181 => (if (((t179 ++ (⟨#[46]⟩ : ByteArray)) ++ t180) ++ (⟨#[46]⟩ : ByteArray)).size + t181.size ≤ 9223372036854775807 then (if ((((t179 ++ (⟨#[46]⟩ : ByteArray)) ++ t180) ++ (⟨#[46]⟩ : ByteArray)) ++ t181).size + 1 ≤ 9223372036854775807 then ((spec_l1Dec.f k (Int.tmod a0 256)).bind fun t182 => (if (((((t179 ++ (⟨#[46]⟩ : ByteArray)) ++ t180) ++ (⟨#[46]⟩ : ByteArray)) ++ t181) ++ (⟨#[46]⟩ : ByteArray)).size + t182.size ≤ 9223372036854775807 then (some ((((((t179 ++ (⟨#[46]⟩ : ByteArray)) ++ t180) ++ (⟨#[46]⟩ : ByteArray)) ++ t181) ++ (⟨#[46]⟩ : ByteArray)) ++ t182)) else (none))) else (none)) else (none))) else (none)) else (none))) else (none))
theorem spec_l2Four.mono : ∀ a0 k, LeO (spec_l2Four.f k a0) (spec_l2Four.f (k + 1) a0) := by
 intro a0 k
 unfold spec_l2Four.f
 repeat' (first | (with_reducible first | apply spec_l1Dec.mono | exact LeO.refl _ | exact LeO.none _ | refine LeO.ite ?_ ?_ | refine LeO.bind ?_ fun _ => ?_) | apply spec_l1Dec.mono | exact LeO.none _ | refine LeO.ite ?_ ?_ | refine LeO.bind ?_ fun _ => ?_)
set_option maxHeartbeats 8000000 in
set_option maxRecDepth 100000 in
theorem spec_l2Four.calls (k : Nat) (a0 : Int) (r : ByteArray) (w : World) (h : spec_l2Four.f k a0 = some r) :
  Calls Tryd.prog 92 #[.int .i64 a0] w fun e w' => e = .returned (.string r) ∧ Below w.heap.size w w' := by
 have HB := Aside0.mk (Below.refl w.heap.size w)
 have H : ((spec_l1Dec.f k (wrap64 (Int.tdiv a0 16777216))).bind fun t179 => (if t179.size + 1 ≤ 9223372036854775807 then ((spec_l1Dec.f k (Int.tmod (wrap64 (Int.tdiv a0 65536)) 256)).bind fun t180 => (if (t179 ++ (⟨#[46]⟩ : ByteArray)).size + t180.size ≤ 9223372036854775807 then (if ((t179 ++ (⟨#[46]⟩ : ByteArray)) ++ t180).size + 1 ≤ 9223372036854775807 then ((spec_l1Dec.f k (Int.tmod (wrap64 (Int.tdiv a0 256)) 256)).bind fun t181 => (if (((t179 ++ (⟨#[46]⟩ : ByteArray)) ++ t180) ++ (⟨#[46]⟩ : ByteArray)).size + t181.size ≤ 9223372036854775807 then (if ((((t179 ++ (⟨#[46]⟩ : ByteArray)) ++ t180) ++ (⟨#[46]⟩ : ByteArray)) ++ t181).size + 1 ≤ 9223372036854775807 then ((spec_l1Dec.f k (Int.tmod a0 256)).bind fun t182 => (if (((((t179 ++ (⟨#[46]⟩ : ByteArray)) ++ t180) ++ (⟨#[46]⟩ : ByteArray)) ++ t181) ++ (⟨#[46]⟩ : ByteArray)).size + t182.size ≤ 9223372036854775807 then (some ((((((t179 ++ (⟨#[46]⟩ : ByteArray)) ++ t180) ++ (⟨#[46]⟩ : ByteArray)) ++ t181) ++ (⟨#[46]⟩ : ByteArray)) ++ t182)) else (none))) else (none)) else (none))) else (none)) else (none))) else (none))) = some r := h
 clear h
 obtain ⟨t179, A2, H⟩ := zO H
 by_cases c3 : t179.size + 1 ≤ 9223372036854775807
 ·rw [if_pos c3] at H
  have c3b0 := eq_true c3
  have c3b1 := decide_eq_true c3
  try have c3b2 : (9223372036854775807 < t179.size + 1) = False := eq_false (Nat.not_lt.2 c3)
  obtain ⟨t180, A4, H⟩ := zO H
  by_cases c5 : (t179 ++ (⟨#[46]⟩ : ByteArray)).size + t180.size ≤ 9223372036854775807
  ·rw [if_pos c5] at H
   have c5b0 := eq_true c5
   have c5b1 := decide_eq_true c5
   try have c5b2 : (9223372036854775807 < (t179 ++ (⟨#[46]⟩ : ByteArray)).size + t180.size) = False := eq_false (Nat.not_lt.2 c5)
   have c5b3 : (9223372036854775807 < t179.size + 1 + t180.size) = False := eq_false (Nat.not_lt.2 (by have h_ := c5; simp only [ByteArray.size_append] at h_; exact h_))
   by_cases c6 : ((t179 ++ (⟨#[46]⟩ : ByteArray)) ++ t180).size + 1 ≤ 9223372036854775807
   ·rw [if_pos c6] at H
    have c6b0 := eq_true c6
    have c6b1 := decide_eq_true c6
    try have c6b2 : (9223372036854775807 < ((t179 ++ (⟨#[46]⟩ : ByteArray)) ++ t180).size + 1) = False := eq_false (Nat.not_lt.2 c6)
    have c6b3 : (9223372036854775807 < t179.size + 1 + t180.size + 1) = False := eq_false (Nat.not_lt.2 (by have h_ := c6; simp only [ByteArray.size_append] at h_; exact h_))
    obtain ⟨t181, A7, H⟩ := zO H
    by_cases c8 : (((t179 ++ (⟨#[46]⟩ : ByteArray)) ++ t180) ++ (⟨#[46]⟩ : ByteArray)).size + t181.size ≤ 9223372036854775807
    ·rw [if_pos c8] at H
     have c8b0 := eq_true c8
     have c8b1 := decide_eq_true c8
     try have c8b2 : (9223372036854775807 < (((t179 ++ (⟨#[46]⟩ : ByteArray)) ++ t180) ++ (⟨#[46]⟩ : ByteArray)).size + t181.size) = False := eq_false (Nat.not_lt.2 c8)
     have c8b3 : (9223372036854775807 < t179.size + 1 + t180.size + 1 + t181.size) = False := eq_false (Nat.not_lt.2 (by have h_ := c8; simp only [ByteArray.size_append] at h_; exact h_))
     by_cases c9 : ((((t179 ++ (⟨#[46]⟩ : ByteArray)) ++ t180) ++ (⟨#[46]⟩ : ByteArray)) ++ t181).size + 1 ≤ 9223372036854775807
     ·rw [if_pos c9] at H
      have c9b0 := eq_true c9
      have c9b1 := decide_eq_true c9
      try have c9b2 : (9223372036854775807 < ((((t179 ++ (⟨#[46]⟩ : ByteArray)) ++ t180) ++ (⟨#[46]⟩ : ByteArray)) ++ t181).size + 1) = False := eq_false (Nat.not_lt.2 c9)
      have c9b3 : (9223372036854775807 < t179.size + 1 + t180.size + 1 + t181.size + 1) = False := eq_false (Nat.not_lt.2 (by have h_ := c9; simp only [ByteArray.size_append] at h_; exact h_))
      obtain ⟨t182, A10, H⟩ := zO H
      by_cases c11 : (((((t179 ++ (⟨#[46]⟩ : ByteArray)) ++ t180) ++ (⟨#[46]⟩ : ByteArray)) ++ t181) ++ (⟨#[46]⟩ : ByteArray)).size + t182.size ≤ 9223372036854775807
      ·rw [if_pos c11] at H
       have c11b0 := eq_true c11
       have c11b1 := decide_eq_true c11
       try have c11b2 : (9223372036854775807 < (((((t179 ++ (⟨#[46]⟩ : ByteArray)) ++ t180) ++ (⟨#[46]⟩ : ByteArray)) ++ t181) ++ (⟨#[46]⟩ : ByteArray)).size + t182.size) = False := eq_false (Nat.not_lt.2 c11)
       have c11b3 : (9223372036854775807 < t179.size + 1 + t180.size + 1 + t181.size + 1 + t182.size) = False := eq_false (Nat.not_lt.2 (by have h_ := c11; simp only [ByteArray.size_append] at h_; exact h_))
       obtain rfl := Option.some.inj H
       go_enter Tryd.func92, Tryd.ntmps92
       go_wp2_with (first | ((with_reducible refine gate_callee (f := 99) rfl ?_); refine goesL_ (some 5) rfl rfl Tryd.func99 (by kernel_rfl) rfl #[.int .i64 (wrap64 (Int.tdiv a0 16777216))] rfl zM ?_; (with_reducible refine (spec_l1Dec.calls k (wrap64 (Int.tdiv a0 16777216)) t179 _ A2.out).mono ?_); rintro e w12 ⟨rfl, hb⟩; refine ⟨_, rfl, ?_⟩; replace HB := zT hb; (try clear hb)) | ((with_reducible refine gate_callee (f := 99) rfl ?_); refine goesL_ (some 10) rfl rfl Tryd.func99 (by kernel_rfl) rfl #[.int .i64 (Int.tmod (wrap64 (Int.tdiv a0 65536)) 256)] rfl zM ?_; (with_reducible refine (spec_l1Dec.calls k (Int.tmod (wrap64 (Int.tdiv a0 65536)) 256) t180 _ A4.out).mono ?_); rintro e w13 ⟨rfl, hb⟩; refine ⟨_, rfl, ?_⟩; replace HB := zT hb; (try clear hb)) | ((with_reducible refine gate_callee (f := 99) rfl ?_); refine goesL_ (some 16) rfl rfl Tryd.func99 (by kernel_rfl) rfl #[.int .i64 (Int.tmod (wrap64 (Int.tdiv a0 256)) 256)] rfl zM ?_; (with_reducible refine (spec_l1Dec.calls k (Int.tmod (wrap64 (Int.tdiv a0 256)) 256) t181 _ A7.out).mono ?_); rintro e w14 ⟨rfl, hb⟩; refine ⟨_, rfl, ?_⟩; replace HB := zT hb; (try clear hb)) | ((with_reducible refine gate_callee (f := 99) rfl ?_); refine goesL_ (some 21) rfl rfl Tryd.func99 (by kernel_rfl) rfl #[.int .i64 (Int.tmod a0 256)] rfl zM ?_; (with_reducible refine (spec_l1Dec.calls k (Int.tmod a0 256) t182 _ A10.out).mono ?_); rintro e w15 ⟨rfl, hb⟩; refine ⟨_, rfl, ?_⟩; replace HB := zT hb; (try clear hb)))
       go_ret
       exact ⟨zE, zB⟩
      ·rw [if_neg c11] at H
       exact absurd H (by simp)
     ·rw [if_neg c9] at H
      exact absurd H (by simp)
    ·rw [if_neg c8] at H
     exact absurd H (by simp)
   ·rw [if_neg c6] at H
    exact absurd H (by simp)
  ·rw [if_neg c5] at H
   exact absurd H (by simp)
 ·rw [if_neg c3] at H
  exact absurd H (by simp)

/-! ### spec_HostPut: function 72 -/
def spec_HostPut.f (k : Nat) (a0_0 : Int) (a0_1 : ByteArray) (a0_2 : Int) : Option (ByteArray) := (spec_HostOk.f k a0_0 a0_1 a0_2).bind fun t184 => (if t184 = true then (if a0_0 = 2 then ((spec_l2Four.f k a0_2).bind fun t185 => (some t185)) else (some a0_1)) else (some (⟨#[]⟩ : ByteArray)))
theorem spec_HostPut.mono : ∀ a0 a1 a2 k, LeO (spec_HostPut.f k a0 a1 a2) (spec_HostPut.f (k + 1) a0 a1 a2) := by
 intro a0 a1 a2 k
 unfold spec_HostPut.f
 repeat' (first | (with_reducible first | apply spec_HostOk.mono | apply spec_l2Four.mono | exact LeO.refl _ | exact LeO.none _ | refine LeO.ite ?_ ?_ | refine LeO.bind ?_ fun _ => ?_) | apply spec_HostOk.mono | apply spec_l2Four.mono | exact LeO.none _ | refine LeO.ite ?_ ?_ | refine LeO.bind ?_ fun _ => ?_)
set_option maxHeartbeats 8000000 in
set_option maxRecDepth 100000 in
theorem spec_HostPut.calls (k : Nat) (a0_0 : Int) (a0_1 : ByteArray) (a0_2 : Int) (r : ByteArray) (w : World) (h : spec_HostPut.f k a0_0 a0_1 a0_2 = some r) :
  Calls Tryd.prog 72 #[.agg #[.int .i64 a0_0, .string a0_1, .int .i64 a0_2]] w fun e w' => e = .returned (.string r) ∧ Below w.heap.size w w' := by
 have hu77 := Tryd.underlying77
 have HB := Aside0.mk (Below.refl w.heap.size w)
 have H : ((spec_HostOk.f k a0_0 a0_1 a0_2).bind fun t184 => (if t184 = true then (if a0_0 = 2 then ((spec_l2Four.f k a0_2).bind fun t185 => (some t185)) else (some a0_1)) else (some (⟨#[]⟩ : ByteArray)))) = some r := h
 clear h
 obtain ⟨t184, A2, H⟩ := zO H
 by_cases c3 : t184 = true
 ·subst c3
  replace H := zI H rfl
  by_cases c4 : a0_0 = 2
  ·rw [if_pos c4] at H
   have c4b0 := beq_iff_eq.mpr c4
   have c4b1 := bne_eq_false_iff_eq.mpr c4
   clear c4
   obtain ⟨t185, A5, H⟩ := zO H
   obtain rfl := Option.some.inj H
   go_enter Tryd.func72, Tryd.ntmps72
   go_wp2_with (first | ((with_reducible refine gate_dst (N := 1) rfl ?_); refine zX (N := 1) (cs := #[.int .i64 a0_0, .string a0_1, .int .i64 a0_2]) (t := 77) rfl rfl ?hr zB ?_; (case hr => first | (go_simp; done) | (go_simp; rfl)); clear HB; intro gb183 w6 HB BK183 GW183; have GE183 := GW183; obtain ⟨hcz7_0, hcz7_1, hcz7_2, hfz7_0, hfz7_1, hfz7_2⟩ := zc3 BK183) | ((with_reducible refine gate_callee (f := 61) rfl ?_); refine goesL_ (some 4) rfl rfl Tryd.func61 (by kernel_rfl) rfl #[.agg #[.int .i64 a0_0, .string a0_1, .int .i64 a0_2]] rfl zM ?_; (with_reducible refine (spec_HostOk.calls k a0_0 a0_1 a0_2 true _ A2.out).mono ?_); rintro e w8 ⟨rfl, hb⟩; refine ⟨_, rfl, ?_⟩; replace BK183 := zK BK183 hb; replace HB := zT hb; (try clear hb); obtain ⟨hcz9_0, hcz9_1, hcz9_2, hfz9_0, hfz9_1, hfz9_2⟩ := zc3 BK183) | ((with_reducible refine gate_callee (f := 92) rfl ?_); refine goesL_ (some 11) rfl rfl Tryd.func92 (by kernel_rfl) rfl #[.int .i64 a0_2] rfl zM ?_; (with_reducible refine (spec_l2Four.calls k a0_2 t185 _ A5.out).mono ?_); rintro e w10 ⟨rfl, hb⟩; refine ⟨_, rfl, ?_⟩; replace BK183 := zK BK183 hb; replace HB := zT hb; (try clear hb)))
   go_ret
   exact ⟨zE, zB⟩
  ·rw [if_neg c4] at H
   have c4b0 := beq_eq_false_iff_ne.mpr c4
   have c4b1 := bne_iff_ne.mpr c4
   obtain rfl := Option.some.inj H
   go_enter Tryd.func72, Tryd.ntmps72
   go_wp2_with (first | ((with_reducible refine gate_dst (N := 1) rfl ?_); refine zX (N := 1) (cs := #[.int .i64 a0_0, .string a0_1, .int .i64 a0_2]) (t := 77) rfl rfl ?hr zB ?_; (case hr => first | (go_simp; done) | (go_simp; rfl)); clear HB; intro gb183 w11 HB BK183 GW183; have GE183 := GW183; obtain ⟨hcz12_0, hcz12_1, hcz12_2, hfz12_0, hfz12_1, hfz12_2⟩ := zc3 BK183) | ((with_reducible refine gate_callee (f := 61) rfl ?_); refine goesL_ (some 4) rfl rfl Tryd.func61 (by kernel_rfl) rfl #[.agg #[.int .i64 a0_0, .string a0_1, .int .i64 a0_2]] rfl zM ?_; (with_reducible refine (spec_HostOk.calls k a0_0 a0_1 a0_2 true _ A2.out).mono ?_); rintro e w13 ⟨rfl, hb⟩; refine ⟨_, rfl, ?_⟩; replace BK183 := zK BK183 hb; replace HB := zT hb; (try clear hb); obtain ⟨hcz14_0, hcz14_1, hcz14_2, hfz14_0, hfz14_1, hfz14_2⟩ := zc3 BK183))
   go_ret
   exact ⟨zE, zB⟩
 ·replace c3 := Bool.eq_false_iff.mpr c3
  subst c3
  replace H := zJ H zF
  obtain rfl := Option.some.inj H
  go_enter Tryd.func72, Tryd.ntmps72
  go_wp2_with (first | ((with_reducible refine gate_dst (N := 1) rfl ?_); refine zX (N := 1) (cs := #[.int .i64 a0_0, .string a0_1, .int .i64 a0_2]) (t := 77) rfl rfl ?hr zB ?_; (case hr => first | (go_simp; done) | (go_simp; rfl)); clear HB; intro gb183 w15 HB BK183 GW183; have GE183 := GW183; obtain ⟨hcz16_0, hcz16_1, hcz16_2, hfz16_0, hfz16_1, hfz16_2⟩ := zc3 BK183) | ((with_reducible refine gate_callee (f := 61) rfl ?_); refine goesL_ (some 4) rfl rfl Tryd.func61 (by kernel_rfl) rfl #[.agg #[.int .i64 a0_0, .string a0_1, .int .i64 a0_2]] rfl zM ?_; (with_reducible refine (spec_HostOk.calls k a0_0 a0_1 a0_2 false _ A2.out).mono ?_); rintro e w17 ⟨rfl, hb⟩; refine ⟨_, rfl, ?_⟩; replace BK183 := zK BK183 hb; replace HB := zT hb; (try clear hb)))
  go_ret
  exact ⟨zE, zB⟩

/-! ### spec_l7Four: function 41 -/
def spec_l7Four.f (k : Nat) (a0 : ByteArray) : Option (Bool) := (spec_FourGet.f k a0).bind fun bt186 => (if bt186.2 = true then ((spec_HostPut.f k 2 (⟨#[]⟩ : ByteArray) bt186.1).bind fun t188 => (some (t188.toList == a0.toList))) else (some false))
theorem spec_l7Four.mono : ∀ a0 k, LeO (spec_l7Four.f k a0) (spec_l7Four.f (k + 1) a0) := by
 intro a0 k
 unfold spec_l7Four.f
 repeat' (first | (with_reducible first | apply spec_FourGet.mono | apply spec_HostPut.mono | exact LeO.refl _ | exact LeO.none _ | refine LeO.ite ?_ ?_ | refine LeO.bind ?_ fun _ => ?_) | apply spec_FourGet.mono | apply spec_HostPut.mono | exact LeO.none _ | refine LeO.ite ?_ ?_ | refine LeO.bind ?_ fun _ => ?_)
set_option maxHeartbeats 8000000 in
set_option maxRecDepth 100000 in
theorem spec_l7Four.calls (k : Nat) (a0 : ByteArray) (r : Bool) (w : World) (h : spec_l7Four.f k a0 = some r) :
  Calls Tryd.prog 41 #[.string a0] w fun e w' => e = .returned (.bool r) ∧ Below w.heap.size w w' := by
 have hu77 := Tryd.underlying77
 have HB := Aside0.mk (Below.refl w.heap.size w)
 have H : ((spec_FourGet.f k a0).bind fun bt186 => (if bt186.2 = true then ((spec_HostPut.f k 2 (⟨#[]⟩ : ByteArray) bt186.1).bind fun t188 => (some (t188.toList == a0.toList))) else (some false))) = some r := h
 clear h
 replace H := Option.bind_eq_some_iff.mp H
 obtain ⟨⟨t186, t187⟩, A20, H⟩ := H
 replace H : (if t187 = true then ((spec_HostPut.f k 2 (⟨#[]⟩ : ByteArray) t186).bind fun t188 => (some (t188.toList == a0.toList))) else (some false)) = some r := H
 have A2 := Aside0.mk A20
 clear A20
 by_cases c3 : t187 = true
 ·subst c3
  replace H := zI H rfl
  obtain ⟨t188, A4, H⟩ := zO H
  obtain rfl := Option.some.inj H
  go_enter Tryd.func41, Tryd.ntmps41
  go_wp2_with (first | ((with_reducible refine gate_callee (f := 71) rfl ?_); refine goesL_ (some 7) rfl rfl Tryd.func71 (by kernel_rfl) rfl #[.string a0] rfl zM ?_; (with_reducible refine (spec_FourGet.calls k a0 t186 true _ A2.out).mono ?_); rintro e w5 ⟨rfl, hb⟩; refine ⟨_, rfl, ?_⟩; replace HB := zT hb; (try clear hb)) | (go_at_call 72; (with_reducible refine (spec_HostPut.calls k 2 (⟨#[]⟩ : ByteArray) t186 t188 _ A4.out).mono ?_); rintro e w6 ⟨rfl, hb⟩; replace HB := zT hb; (try clear hb)))
  go_ret
  exact ⟨zE, zB⟩
 ·replace c3 := Bool.eq_false_iff.mpr c3
  subst c3
  replace H := zJ H zF
  obtain rfl := Option.some.inj H
  go_enter Tryd.func41, Tryd.ntmps41
  go_wp2_with (first | ((with_reducible refine gate_callee (f := 71) rfl ?_); refine goesL_ (some 7) rfl rfl Tryd.func71 (by kernel_rfl) rfl #[.string a0] rfl zM ?_; (with_reducible refine (spec_FourGet.calls k a0 t186 false _ A2.out).mono ?_); rintro e w7 ⟨rfl, hb⟩; refine ⟨_, rfl, ?_⟩; replace HB := zT hb; (try clear hb)))
  go_ret
  exact ⟨zE, zB⟩

/-! ### spec_l7Crumb: function 42 -/
def spec_l7Crumb.l0 : Nat → ByteArray → Int → Option (Bool)
 | 0, _, _ => none
 | k + 1, x0, x3 => if x3 < (x0.size : Int) then (if 0 ≤ x3 then (if (bt x0 x3) ≤ 32 then (some false) else (if (bt x0 x3) > 126 then (some false) else (if (bt x0 x3) = 59 then (some false) else (if (bt x0 x3) = 44 then (some false) else (if (bt x0 x3) = 61 then (some false) else (if (bt x0 x3) = 34 then (some false) else (spec_l7Crumb.l0 k x0 (wrap64 (x3 + 1))))))))) else (none)) else (some (decide ((x0.size : Int) ≤ 20)))
def spec_l7Crumb.f (k : Nat) (a0 : ByteArray) : Option (Bool) := spec_l7Crumb.l0 k a0 0
theorem spec_l7Crumb.mono_l : ∀ k, (∀ y0 y1, LeO (spec_l7Crumb.l0 k y0 y1) (spec_l7Crumb.l0 (k + 1) y0 y1))
 | 0 => fun _ _ r h => by simp [spec_l7Crumb.l0] at h
 | k + 1 => by
  have ih0 := spec_l7Crumb.mono_l k
  all_goals intros
  all_goals first | unfold spec_l7Crumb.l0
  all_goals repeat' (first | (with_reducible first | apply ih0 | exact LeO.refl _ | exact LeO.none _ | refine LeO.ite ?_ ?_ | refine LeO.bind ?_ fun _ => ?_) | apply ih0 | exact LeO.none _ | refine LeO.ite ?_ ?_ | refine LeO.bind ?_ fun _ => ?_)
theorem spec_l7Crumb.mono : ∀ a0 k, LeO (spec_l7Crumb.f k a0) (spec_l7Crumb.f (k + 1) a0) := by
 intro a0 k
 have ih0 := spec_l7Crumb.mono_l k
 unfold spec_l7Crumb.f
 repeat' (first | (with_reducible first | apply ih0 | exact LeO.refl _ | exact LeO.none _ | refine LeO.ite ?_ ?_ | refine LeO.bind ?_ fun _ => ?_) | apply ih0 | exact LeO.none _ | refine LeO.ite ?_ ?_ | refine LeO.bind ?_ fun _ => ?_)
set_option maxHeartbeats 8000000 in
set_option maxRecDepth 100000 in
theorem spec_l7Crumb.calls (k : Nat) (a0 : ByteArray) (r : Bool) (w : World) (h : spec_l7Crumb.f k a0 = some r) :
  Calls Tryd.prog 42 #[.string a0] w fun e w' => e = .returned (.bool r) ∧ Drawn0 w w' := by
 have H : (spec_l7Crumb.l0 k a0 0) = some r := h
 clear h
 have H' := Aside0.mk H
 clear H
 go_enter Tryd.func42, Tryd.ntmps42
 go_wp2
 go_loopg [3] k (fun kq v3 w' => ∃ (x3_1 : Int), v3 = .int .i64 x3_1 ∧ Aside0 (spec_l7Crumb.l0 kq a0 x3_1 = some r) ∧ Aside0 (kq ≤ k) ∧ Drawn0 w w')
 case atStart => exact ⟨(0), zS, H', ⟨Nat.le_refl _⟩, zW⟩
 case round =>
  clear H'
  obtain ⟨x3_1, rfl, HA, HK1, ⟨m1, rfl⟩⟩ := hrel
  cases gk with
  | zero => exact absurd HA.out (by simp [spec_l7Crumb.l0])
  | succ k1 =>
   have H := HA.out
   clear HA
   simp only [spec_l7Crumb.l0] at H
   by_cases c2 : x3_1 < (a0.size : Int)
   ·rw [if_pos c2] at H
    have c2b0 := decide_eq_true c2
    clear c2
    by_cases c3 : 0 ≤ x3_1
    ·rw [if_pos c3] at H
     have c3b0 := decide_eq_true c3
     clear c3
     by_cases c5 : (bt a0 x3_1) ≤ 32
     ·rw [if_pos c5] at H
      have c5b0 := decide_eq_true c5
      clear c5
      obtain rfl := Option.some.inj H
      obtain ⟨p4, q4⟩ := zN x3_1 (a0.size : Int)
      have hx4 := bt_at a0 x3_1
      go_wp2
      go_ret
      exact ⟨zS, zW⟩
     ·rw [if_neg c5] at H
      have c5b0 := decide_eq_false c5
      clear c5
      by_cases c7 : (bt a0 x3_1) > 126
      ·rw [if_pos c7] at H
       have c7b0 := decide_eq_true c7
       clear c7
       obtain rfl := Option.some.inj H
       obtain ⟨p4, q4⟩ := zN x3_1 (a0.size : Int)
       have hx4 := bt_at a0 x3_1
       obtain ⟨p6, q6⟩ := zN x3_1 (a0.size : Int)
       have hx6 := bt_at a0 x3_1
       go_wp2
       go_ret
       exact ⟨zS, zW⟩
      ·rw [if_neg c7] at H
       have c7b0 := decide_eq_false c7
       clear c7
       by_cases c9 : (bt a0 x3_1) = 59
       ·rw [if_pos c9] at H
        have c9b0 := beq_iff_eq.mpr c9
        have c9b1 := bne_eq_false_iff_eq.mpr c9
        clear c9
        obtain rfl := Option.some.inj H
        obtain ⟨p4, q4⟩ := zN x3_1 (a0.size : Int)
        have hx4 := bt_at a0 x3_1
        obtain ⟨p6, q6⟩ := zN x3_1 (a0.size : Int)
        have hx6 := bt_at a0 x3_1
        obtain ⟨p8, q8⟩ := zN x3_1 (a0.size : Int)
        have hx8 := bt_at a0 x3_1
        go_wp2
        go_ret
        exact ⟨zS, zW⟩
       ·rw [if_neg c9] at H
        have c9b0 := beq_eq_false_iff_ne.mpr c9
        have c9b1 := bne_iff_ne.mpr c9
        by_cases c11 : (bt a0 x3_1) = 44
        ·rw [if_pos c11] at H
         have c11b0 := beq_iff_eq.mpr c11
         have c11b1 := bne_eq_false_iff_eq.mpr c11
         clear c11
         obtain rfl := Option.some.inj H
         obtain ⟨p4, q4⟩ := zN x3_1 (a0.size : Int)
         have hx4 := bt_at a0 x3_1
         obtain ⟨p6, q6⟩ := zN x3_1 (a0.size : Int)
         have hx6 := bt_at a0 x3_1
         obtain ⟨p8, q8⟩ := zN x3_1 (a0.size : Int)
         have hx8 := bt_at a0 x3_1
         obtain ⟨p10, q10⟩ := zN x3_1 (a0.size : Int)
         have hx10 := bt_at a0 x3_1
         go_wp2
         go_ret
         exact ⟨zS, zW⟩
        ·rw [if_neg c11] at H
         have c11b0 := beq_eq_false_iff_ne.mpr c11
         have c11b1 := bne_iff_ne.mpr c11
         by_cases c13 : (bt a0 x3_1) = 61
         ·rw [if_pos c13] at H
          have c13b0 := beq_iff_eq.mpr c13
          have c13b1 := bne_eq_false_iff_eq.mpr c13
          clear c13
          obtain rfl := Option.some.inj H
          obtain ⟨p4, q4⟩ := zN x3_1 (a0.size : Int)
          have hx4 := bt_at a0 x3_1
          obtain ⟨p6, q6⟩ := zN x3_1 (a0.size : Int)
          have hx6 := bt_at a0 x3_1
          obtain ⟨p8, q8⟩ := zN x3_1 (a0.size : Int)
          have hx8 := bt_at a0 x3_1
          obtain ⟨p10, q10⟩ := zN x3_1 (a0.size : Int)
          have hx10 := bt_at a0 x3_1
          obtain ⟨p12, q12⟩ := zN x3_1 (a0.size : Int)
          have hx12 := bt_at a0 x3_1
          go_wp2
          go_ret
          exact ⟨zS, zW⟩
         ·rw [if_neg c13] at H
          have c13b0 := beq_eq_false_iff_ne.mpr c13
          have c13b1 := bne_iff_ne.mpr c13
          by_cases c15 : (bt a0 x3_1) = 34
          ·rw [if_pos c15] at H
           have c15b0 := beq_iff_eq.mpr c15
           have c15b1 := bne_eq_false_iff_eq.mpr c15
           clear c15
           obtain rfl := Option.some.inj H
           obtain ⟨p4, q4⟩ := zN x3_1 (a0.size : Int)
           have hx4 := bt_at a0 x3_1
           obtain ⟨p6, q6⟩ := zN x3_1 (a0.size : Int)
           have hx6 := bt_at a0 x3_1
           obtain ⟨p8, q8⟩ := zN x3_1 (a0.size : Int)
           have hx8 := bt_at a0 x3_1
           obtain ⟨p10, q10⟩ := zN x3_1 (a0.size : Int)
           have hx10 := bt_at a0 x3_1
           obtain ⟨p12, q12⟩ := zN x3_1 (a0.size : Int)
           have hx12 := bt_at a0 x3_1
           obtain ⟨p14, q14⟩ := zN x3_1 (a0.size : Int)
           have hx14 := bt_at a0 x3_1
           go_wp2
           go_ret
           exact ⟨zS, zW⟩
          ·rw [if_neg c15] at H
           have c15b0 := beq_eq_false_iff_ne.mpr c15
           have c15b1 := bne_iff_ne.mpr c15
           have H' := Aside0.mk H
           clear H
           obtain ⟨p4, q4⟩ := zN x3_1 (a0.size : Int)
           have hx4 := bt_at a0 x3_1
           obtain ⟨p6, q6⟩ := zN x3_1 (a0.size : Int)
           have hx6 := bt_at a0 x3_1
           obtain ⟨p8, q8⟩ := zN x3_1 (a0.size : Int)
           have hx8 := bt_at a0 x3_1
           obtain ⟨p10, q10⟩ := zN x3_1 (a0.size : Int)
           have hx10 := bt_at a0 x3_1
           obtain ⟨p12, q12⟩ := zN x3_1 (a0.size : Int)
           have hx12 := bt_at a0 x3_1
           obtain ⟨p14, q14⟩ := zN x3_1 (a0.size : Int)
           have hx14 := bt_at a0 x3_1
           go_wp2
           go_roundg k1
           case measure => have := HK1.out; omega
           case rel => exact ⟨(wrap64 (x3_1 + 1)), zS, H', ⟨by have := HK1.out; omega⟩, zW⟩
    ·rw [if_neg c3] at H
     exact absurd H (by simp)
   ·rw [if_neg c2] at H
    have c2b0 := decide_eq_false c2
    clear c2
    obtain rfl := Option.some.inj H
    go_wp2
    go_ret
    exact ⟨zS, zW⟩

end Go.Proofs.YtakobibclhdakaaDoor.PFnExactJarSave
