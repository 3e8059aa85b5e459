/- The plain law: what the models compute answers as the statement says. -/
import Derived.Test.YtledackmlmokeaaGreatDoorX7
import Derived.Test.YtledackmlmokeaaGreatDoorX4
set_option linter.unusedVariables false
set_option linter.unusedSimpArgs false
namespace Go.VM.T
open Go Go.VM
def headSl : Bs → Bool
  | c :: _ => isSl c
  | [] => false
theorem c92 (c : UInt8) : ((c.toNat : Int) = 92) = (c = 92) := c_int c 92 (by omega)
theorem c47 (c : UInt8) : ((c.toNat : Int) = 47) = (c = 47) := c_int c 47 (by omega)
theorem c35 (c : UInt8) : ((c.toNat : Int) = 35) = (c = 35) := c_int c 35 (by omega)
theorem l4Slash_ok {n : Nat} (hn : 4194304 + 1 ≤ n) (s : Bs) : c_spec_l4Slash n s = some (headSl s, ()) := by
  obtain ⟨m, rfl⟩ := sn hn
  rw [eq_spec_l4Slash]; unfold m_spec_l4Slash
  cases s with
  | nil => rfl
  | cons c l =>
    have hl : (0 : Int) < ((c :: l).length : Int) := by simp only [List.length_cons]; omega
    simp only [bif_dec, grd_dec, bt_0, c47, c92, hl, if_true, show (0 : Int) ≤ 0 from Int.le_refl 0, headSl, isSl]
    by_cases h : c = 47
    · subst h; rfl
    · rw [if_neg h, show (c == 47) = false by simp [h], Bool.false_or, beq_dec]
theorem tailS_tailM (a b c : Bs) (h : THost) (p : Int) (l : List Bs) (o s : Bs) : tailS (a, b, c, h, p, l, o, false, [], false, [], ()) s = tailM (a, b, c, h, p, l, o, false, [], false, [], ()) s := tailS_fresh a b c h p l o s
theorem at_head {s : Bs} (h : headSl s = true) : ∃ c l, s = c :: l ∧ isSl c = true ∧ atM [63, 35] s = c :: atM [63, 35] l := by
  cases s with
  | nil => cases h
  | cons c l =>
    refine ⟨c, l, rfl, h, ?_⟩
    have : c = 47 ∨ c = 92 := by simpa [headSl, isSl] using h
    rcases this with rfl | rfl <;> rfl
theorem at_nil_head {s : Bs} (h : atM [63, 35] s = []) : s = [] ∨ ∃ c l, s = c :: l ∧ (c = 63 ∨ c = 35) := by
  cases s with
  | nil => exact .inl rfl
  | cons c l =>
    refine .inr ⟨c, l, rfl, ?_⟩
    unfold atM at h
    rw [List.takeWhile_cons] at h
    split at h
    · cases h
    · rename_i hc
      have hc : ¬ c = 63 → c = 35 := by simpa using hc
      by_cases h63 : c = 63
      · exact .inl h63
      · exact .inr (hc h63)
theorem at_head2 {s : Bs} {c : UInt8} {w : Bs} (h : atM [63, 35] s = c :: w) : ∃ l, s = c :: l := by
  cases s with
  | nil => cases h
  | cons d l =>
    unfold atM at h
    rw [List.takeWhile_cons] at h
    split at h
    · cases h; exact ⟨l, rfl⟩
    · cases h
theorem l4Path_ok {n : Nat} (hn : 4194304 + 6 ≤ n) {b : TUrl} (hb : BU b) (hp : b.2.2.2.2.2.1 ≠ []) (hp2 : b.2.2.2.2.2.1.length ≤ 1000000) {s : Bs} (hs : s.length ≤ 200) : c_spec_l4Path n b s = some (pathJ b s, ()) := by
  obtain ⟨m, rfl⟩ := sn hn
  rw [eq_spec_l4Path]; unfold m_spec_l4Path
  have hbp := BU_path hb
  simp only [spec_l3Base_ok (n := m) (u := b) (by omega) (by omega), spec_l1At_ok (n := m) (s := s) (any := [63, 35]) (by omega) (by omega) (by simp), l4Slash_ok (n := m) (by omega), Option.bind_some]
  have hl := at_len [63, 35] s
  obtain ⟨f1, f2⟩ := at_from [63, 35] s
  have fl := from_len [63, 35] s
  have g1 : (0 : Int) ≤ ((atM [63, 35] s).length : Int) := by omega
  have g2 : ((atM [63, 35] s).length : Int) ≤ (s.length : Int) := by omega
  simp only [grd_dec, g1, g2, if_true, List.take_length, toNat_nat, f1, f2, List.drop_zero, bif_dec]
  unfold pathJ
  cases hh : headSl s with
  | true =>
    obtain ⟨c, l, rfl, hc, hw⟩ := at_head hh
    have hwl : (atM [63, 35] (c :: l)).length ≤ 4000000 := by omega
    simp only [cond_true, spec_PathGet_ok (n := m) (by omega) hwl, Option.bind_some, baseU]
    rw [spec_l3Tail_ok (by omega) (by omega)]
    simp only [Option.bind_some, tailS_tailM]
    have h1 : atM [63, 35] (c :: l) ≠ [] := by rw [hw]; simp
    have h2 : isSl ((atM [63, 35] (c :: l)).headD 0) = true := by rw [hw]; exact hc
    rw [if_neg h1, if_pos h2, if_neg (fun k => h1 k.1)]
  | false =>
    simp only [cond_false]
    by_cases hw : atM [63, 35] s = []
    · rw [hw] at g1 ⊢
      have hz : ¬ (0 : Int) < (([] : Bs).length : Int) := by simp
      rw [if_neg hz]
      have hfs : fromM [63, 35] s = s := by rw [← f2, hw]; rfl
      simp only [hfs, if_true, true_and]
      rcases at_nil_head hw with rfl | ⟨c, l, rfl, hc⟩
      · simp only [List.length_nil]
        rw [if_neg (by simp)]
        simp only [beq_self_eq_true, cond_true, baseU]
        rw [spec_l3Tail_ok (by omega) (by simp)]
        rfl
      · have hpos : (([] : Bs).length : Int) < ((c :: l).length : Int) := by simp only [List.length_cons, List.length_nil]; omega
        have hpos0 : (0 : Int) < ((c :: l).length : Int) := by simp only [List.length_cons]; omega
        rw [if_pos hpos, if_pos (show (0 : Int) ≤ 0 from Int.le_refl 0), if_pos hpos0]
        simp only [bt_0, c35]
        rcases hc with rfl | rfl
        · rw [if_neg (by decide)]
          have e : ((63 :: l) == ([] : Bs)) = false := rfl
          simp only [e, cond_false, baseU]
          rw [spec_l3Tail_ok (by omega) (by omega)]
          simp only [Option.bind_some, tailS_tailM]
          have hq : decide ((cut1 35 (63 :: l)).1 ≠ []) = true := by simp [cut1]
          rw [if_neg]
          simp only [tailM, hq]
          simp
        · rw [if_pos rfl]
          simp only [baseU]
          rw [spec_l3Tail_ok (by omega) (by omega)]
          have hq : cut1 35 (35 :: l) = ([], some l) := by simp [cut1]
          simp only [Option.bind_some, tailS, tailM, hq]
          simp [encM]
    · have hpos : (0 : Int) < ((atM [63, 35] s).length : Int) := by have := List.length_pos_iff.2 hw; omega
      have hwl : (atM [63, 35] s).length ≤ 200 := by omega
      obtain ⟨p1, p2⟩ := pieces_ok hwl
      have hb1 : 1 ≤ b.2.2.2.2.2.1.length := List.length_pos_iff.2 hp
      have hsl : ¬ isSl ((atM [63, 35] s).headD 0) = true := by
        obtain ⟨c, w, e⟩ := List.exists_cons_of_ne_nil hw
        obtain ⟨l, rfl⟩ := at_head2 e
        rw [e]
        simpa [headSl] using hh
      rw [if_pos hpos, w64 (by omega) (by omega), if_pos (by omega), if_pos (by omega), show ((b.2.2.2.2.2.1.length : Int) - 1).toNat = b.2.2.2.2.2.1.length - 1 by omega, dropLast_take]
      have hdl : b.2.2.2.2.2.1.dropLast.length ≤ 1000000 := by rw [List.length_dropLast]; omega
      simp only [spec_l3Pieces_ok (n := m) (s := atM [63, 35] s) (by omega) (by omega), Option.bind_some]
      rw [spec_l3Walk_ok (by omega) hdl (by omega) p2]
      simp only [Option.bind_some, baseU]
      rw [spec_l3Tail_ok (by omega) (by omega)]
      simp only [Option.bind_some, tailS_tailM]
      rw [if_neg hw, if_neg hsl, if_neg (fun k => hw k.1)]
theorem slash_loop {m : Nat} (hm : 4194304 + 10 ≤ m) {sch : Bs} {F : ((Bs × Unit) → Option (TUrl × Bool × Unit)) → (Bs × Unit) → Option (TUrl × Bool × Unit)}
    (hF : ∀ f st, F f st = (c_spec_l4Slash m st.1).bind fun y11 => bif y11.1 then (grd (decide (0 ≤ (1 : Int))) (grd (decide ((1 : Int) ≤ (st.1.length : Int))) (f (((st.1.take st.1.length).drop (1 : Int).toNat), ())))) else ((c_spec_l3Hosted m (u0 sch 0) st.1).bind fun y12 => some y12)) {s : Bs} (hs : s.length ≤ 200) :
    loopR F m (s, ()) = some (getR (hostedM sch (s.dropWhile isSl))) := by
  refine loopR_ind (fun (st : Bs × Unit) => st.1.length) (fun (st : Bs × Unit) (r : TUrl × Bool × Unit) => st.1.length ≤ 200 ∧ r = getR (hostedM sch (st.1.dropWhile isSl))) ?_ m (s, ()) _ ⟨hs, rfl⟩ (show s.length < m by omega)
  rintro ⟨t, ⟨⟩⟩ r self ⟨htl, hr⟩ ih
  dsimp only at htl hr ih
  rw [hF]
  simp only [l4Slash_ok (n := m) (by omega), Option.bind_some]
  cases t with
  | nil =>
    simp only [headSl, cond_false]
    rw [spec_l3Hosted_ok (by omega) (by simp), hr]; rfl
  | cons c l =>
    have hl : (c :: l).length = l.length + 1 := by simp
    cases hc : isSl c with
    | true =>
      simp only [headSl, hc, cond_true, grd_dec]
      rw [if_pos (by omega), if_pos (by omega)]
      refine ih _ (by rw [List.take_length]; simp) ⟨?_, ?_⟩
      · rw [List.take_length]; simp; omega
      · rw [List.take_length, hr, List.dropWhile_cons, if_pos hc]; rfl
    | false =>
      simp only [headSl, hc, cond_false]
      rw [spec_l3Hosted_ok (by omega) htl, hr, List.dropWhile_cons, if_neg (by rw [hc]; simp)]; rfl
theorem l4Join_ok {n : Nat} (hn : 4194304 + 12 ≤ n) {b : TUrl} (hb : BU b) (hp : 0 ≤ portS b.1 → b.2.2.2.2.2.1 ≠ []) (hp2 : b.2.2.2.2.2.1.length ≤ 1000000) {s : Bs} (hs : s.length ≤ 200) : c_spec_l4Join n b s = some (getR (joinM b s)) := by
  obtain ⟨m, rfl⟩ := sn hn
  rw [eq_spec_l4Join]; unfold m_spec_l4Join joinM
  have hbp := BU_path hb
  rw [spec_l3Scheme_ok (by omega) (by omega)]
  simp only [Option.bind_some]
  cases hsc : schM s with
  | some p =>
    have hl := (schM_len hsc).2
    simp only [schR_some, cond_true]
    rw [spec_l3Read_ok (by omega) (by omega)]; rfl
  | none =>
    simp only [schR_none, cond_false, spec_l3Own_ok (n := m) (by omega), Option.bind_some, bif_dec]
    by_cases hpo : portS b.1 < 0
    · rw [if_pos hpo, if_pos hpo]
      cases s with
      | nil => simp [getR, urlZ, hostZ, hpo]
      | cons c f =>
        have hl : (0 : Int) < ((c :: f).length : Int) := by simp only [List.length_cons]; omega
        simp only [hl, if_true, grd_dec, bt_0, c35, show (0 : Int) ≤ 0 from Int.le_refl 0, if_pos hpo]
        by_cases hc : c = 35
        · subst hc
          rw [if_pos rfl, if_pos rfl]
          simp only [spec_l3Base_ok (n := m) (u := b) (by omega) (by omega), Option.bind_some]
          rw [spec_l3Tail_ok (by omega) (by omega)]
          have hq : cut1 35 (35 :: f) = ([], some f) := by simp [cut1]
          simp [getR, tailS, hq, baseU, fragJ]
        · rw [if_neg hc, if_neg hc]
          simp [getR, urlZ, hostZ]
    · rw [if_neg hpo, if_neg hpo]
      simp only [if_neg hpo, l4Slash_ok (n := m) (by omega), Option.bind_some]
      have hpath := l4Path_ok (n := m) (by omega) hb (hp (by omega)) hp2 hs
      have hread : readM b.1 s = hostedM b.1 (s.dropWhile isSl) := by unfold readM; rw [if_neg hpo]
      cases s with
      | nil =>
        simp only [headSl, cond_false, hpath, Option.bind_some]
        rfl
      | cons c l =>
        cases hc : isSl c with
        | false =>
          simp only [headSl, hc, cond_false, hpath, Option.bind_some]
          have ht : twoSl (c :: l) = false := by cases l <;> simp [twoSl, hc]
          rw [ht]; rfl
        | true =>
          simp only [headSl, hc, cond_true, grd_dec]
          rw [if_pos (by omega), if_pos (by simp only [List.length_cons]; omega)]
          have ed : ((c :: l).take (c :: l).length).drop (1 : Int).toNat = l := by rw [List.take_length]; rfl
          rw [ed]
          cases l with
          | nil =>
            simp only [headSl, cond_false, hpath, Option.bind_some]
            rfl
          | cons d l =>
            cases hd : isSl d with
            | false =>
              simp only [headSl, hd, cond_false, hpath, Option.bind_some]
              have ht : twoSl (c :: d :: l) = false := by simp [twoSl, hc, hd]
              rw [ht]; rfl
            | true =>
              simp only [headSl, hd, cond_true]
              have ht : twoSl (c :: d :: l) = true := by simp [twoSl, hc, hd]
              rw [ht]
              simp only [if_true]
              rw [hread]
              exact slash_loop (by omega) (fun f st => rfl) hs
end Go.VM.T
namespace Go.VM.T
open Go Go.VM
noncomputable def joinTail (n : Nat) (x0 : TUrl) (x1 : Bs) (y3 : TUrl × Unit) : Option (TUrl × Bool × Unit) := (c_impl_upTo n x1 ([63, 35] : Bs)).bind fun y9 => bif (!(y9.1 == ([] : Bs))) then (grd (decide (0 ≤ (0 : Int))) (grd (decide ((0 : Int) < (y9.1.length : Int))) ((c_impl_isSlash n (bt y9.1 (0 : Int))).bind fun y10 => bif y10.1 then ((c_impl_PathGet n y9.1).bind fun y11 => (c_impl_Url_tail n (y3.1.1, y3.1.2.1, y3.1.2.2.1, y3.1.2.2.2.1, y3.1.2.2.2.2.1, 7, y3.1.2.2.2.2.2.2.1, y3.1.2.2.2.2.2.2.2.1, y3.1.2.2.2.2.2.2.2.2.1, y3.1.2.2.2.2.2.2.2.2.2.1, y3.1.2.2.2.2.2.2.2.2.2.2.1, ()) y9.2.1).bind fun y12 => grd (decide (y12.1.2.2.2.2.2.1 = 7)) (bif (y9.1 == ([] : Bs)) then (bif (!y12.1.2.2.2.2.2.2.2.1) then (some ((y12.1.1, y12.1.2.1, y12.1.2.2.1, y12.1.2.2.2.1, y12.1.2.2.2.2.1, y11.1, y12.1.2.2.2.2.2.2.1, x0.2.2.2.2.2.2.2.1, x0.2.2.2.2.2.2.2.2.1, y12.1.2.2.2.2.2.2.2.2.2.1, y12.1.2.2.2.2.2.2.2.2.2.2.1, ()), true, ())) else (some ((y12.1.1, y12.1.2.1, y12.1.2.2.1, y12.1.2.2.2.1, y12.1.2.2.2.2.1, y11.1, y12.1.2.2.2.2.2.2.1, y12.1.2.2.2.2.2.2.2.1, y12.1.2.2.2.2.2.2.2.2.1, y12.1.2.2.2.2.2.2.2.2.2.1, y12.1.2.2.2.2.2.2.2.2.2.2.1, ()), true, ()))) else (some ((y12.1.1, y12.1.2.1, y12.1.2.2.1, y12.1.2.2.2.1, y12.1.2.2.2.2.1, y11.1, y12.1.2.2.2.2.2.2.1, y12.1.2.2.2.2.2.2.2.1, y12.1.2.2.2.2.2.2.2.2.1, y12.1.2.2.2.2.2.2.2.2.2.1, y12.1.2.2.2.2.2.2.2.2.2.2.1, ()), true, ())))) else (bif (!(y9.1 == ([] : Bs))) then (grd (decide (0 ≤ (max (0 : Int) (IntKind.i64.wrap ((x0.2.2.2.2.2.1.length : Int) - (1 : Int)))))) (grd (decide ((max (0 : Int) (IntKind.i64.wrap ((x0.2.2.2.2.2.1.length : Int) - (1 : Int)))) ≤ (x0.2.2.2.2.2.1.length : Int))) ((c_impl_walk n ((x0.2.2.2.2.2.1.take (max (0 : Int) (IntKind.i64.wrap ((x0.2.2.2.2.2.1.length : Int) - (1 : Int)))).toNat).drop 0) y9.1).bind fun y13 => (c_impl_Url_tail n (y3.1.1, y3.1.2.1, y3.1.2.2.1, y3.1.2.2.2.1, y3.1.2.2.2.2.1, 7, y3.1.2.2.2.2.2.2.1, y3.1.2.2.2.2.2.2.2.1, y3.1.2.2.2.2.2.2.2.2.1, y3.1.2.2.2.2.2.2.2.2.2.1, y3.1.2.2.2.2.2.2.2.2.2.2.1, ()) y9.2.1).bind fun y14 => grd (decide (y14.1.2.2.2.2.2.1 = 7)) (bif (y9.1 == ([] : Bs)) then (bif (!y14.1.2.2.2.2.2.2.2.1) then (some ((y14.1.1, y14.1.2.1, y14.1.2.2.1, y14.1.2.2.2.1, y14.1.2.2.2.2.1, y13.1, y14.1.2.2.2.2.2.2.1, x0.2.2.2.2.2.2.2.1, x0.2.2.2.2.2.2.2.2.1, y14.1.2.2.2.2.2.2.2.2.2.1, y14.1.2.2.2.2.2.2.2.2.2.2.1, ()), true, ())) else (some ((y14.1.1, y14.1.2.1, y14.1.2.2.1, y14.1.2.2.2.1, y14.1.2.2.2.2.1, y13.1, y14.1.2.2.2.2.2.2.1, y14.1.2.2.2.2.2.2.2.1, y14.1.2.2.2.2.2.2.2.2.1, y14.1.2.2.2.2.2.2.2.2.2.1, y14.1.2.2.2.2.2.2.2.2.2.2.1, ()), true, ()))) else (some ((y14.1.1, y14.1.2.1, y14.1.2.2.1, y14.1.2.2.2.1, y14.1.2.2.2.2.1, y13.1, y14.1.2.2.2.2.2.2.1, y14.1.2.2.2.2.2.2.2.1, y14.1.2.2.2.2.2.2.2.2.1, y14.1.2.2.2.2.2.2.2.2.2.1, y14.1.2.2.2.2.2.2.2.2.2.2.1, ()), true, ())))))) else ((c_impl_Url_tail n (y3.1.1, y3.1.2.1, y3.1.2.2.1, y3.1.2.2.2.1, y3.1.2.2.2.2.1, 7, y3.1.2.2.2.2.2.2.1, y3.1.2.2.2.2.2.2.2.1, y3.1.2.2.2.2.2.2.2.2.1, y3.1.2.2.2.2.2.2.2.2.2.1, y3.1.2.2.2.2.2.2.2.2.2.2.1, ()) y9.2.1).bind fun y15 => grd (decide (y15.1.2.2.2.2.2.1 = 7)) (bif (y9.1 == ([] : Bs)) then (bif (!y15.1.2.2.2.2.2.2.2.1) then (some ((y15.1.1, y15.1.2.1, y15.1.2.2.1, y15.1.2.2.2.1, y15.1.2.2.2.2.1, y3.1.2.2.2.2.2.1, y15.1.2.2.2.2.2.2.1, x0.2.2.2.2.2.2.2.1, x0.2.2.2.2.2.2.2.2.1, y15.1.2.2.2.2.2.2.2.2.2.1, y15.1.2.2.2.2.2.2.2.2.2.2.1, ()), true, ())) else (some ((y15.1.1, y15.1.2.1, y15.1.2.2.1, y15.1.2.2.2.1, y15.1.2.2.2.2.1, y3.1.2.2.2.2.2.1, y15.1.2.2.2.2.2.2.1, y15.1.2.2.2.2.2.2.2.1, y15.1.2.2.2.2.2.2.2.2.1, y15.1.2.2.2.2.2.2.2.2.2.1, y15.1.2.2.2.2.2.2.2.2.2.2.1, ()), true, ()))) else (some ((y15.1.1, y15.1.2.1, y15.1.2.2.1, y15.1.2.2.2.1, y15.1.2.2.2.2.1, y3.1.2.2.2.2.2.1, y15.1.2.2.2.2.2.2.1, y15.1.2.2.2.2.2.2.2.1, y15.1.2.2.2.2.2.2.2.2.1, y15.1.2.2.2.2.2.2.2.2.2.1, y15.1.2.2.2.2.2.2.2.2.2.2.1, ()), true, ())))))))) else (bif (!(y9.1 == ([] : Bs))) then (grd (decide (0 ≤ (max (0 : Int) (IntKind.i64.wrap ((x0.2.2.2.2.2.1.length : Int) - (1 : Int)))))) (grd (decide ((max (0 : Int) (IntKind.i64.wrap ((x0.2.2.2.2.2.1.length : Int) - (1 : Int)))) ≤ (x0.2.2.2.2.2.1.length : Int))) ((c_impl_walk n ((x0.2.2.2.2.2.1.take (max (0 : Int) (IntKind.i64.wrap ((x0.2.2.2.2.2.1.length : Int) - (1 : Int)))).toNat).drop 0) y9.1).bind fun y16 => (c_impl_Url_tail n (y3.1.1, y3.1.2.1, y3.1.2.2.1, y3.1.2.2.2.1, y3.1.2.2.2.2.1, 7, y3.1.2.2.2.2.2.2.1, y3.1.2.2.2.2.2.2.2.1, y3.1.2.2.2.2.2.2.2.2.1, y3.1.2.2.2.2.2.2.2.2.2.1, y3.1.2.2.2.2.2.2.2.2.2.2.1, ()) y9.2.1).bind fun y17 => grd (decide (y17.1.2.2.2.2.2.1 = 7)) (bif (y9.1 == ([] : Bs)) then (bif (!y17.1.2.2.2.2.2.2.2.1) then (some ((y17.1.1, y17.1.2.1, y17.1.2.2.1, y17.1.2.2.2.1, y17.1.2.2.2.2.1, y16.1, y17.1.2.2.2.2.2.2.1, x0.2.2.2.2.2.2.2.1, x0.2.2.2.2.2.2.2.2.1, y17.1.2.2.2.2.2.2.2.2.2.1, y17.1.2.2.2.2.2.2.2.2.2.2.1, ()), true, ())) else (some ((y17.1.1, y17.1.2.1, y17.1.2.2.1, y17.1.2.2.2.1, y17.1.2.2.2.2.1, y16.1, y17.1.2.2.2.2.2.2.1, y17.1.2.2.2.2.2.2.2.1, y17.1.2.2.2.2.2.2.2.2.1, y17.1.2.2.2.2.2.2.2.2.2.1, y17.1.2.2.2.2.2.2.2.2.2.2.1, ()), true, ()))) else (some ((y17.1.1, y17.1.2.1, y17.1.2.2.1, y17.1.2.2.2.1, y17.1.2.2.2.2.1, y16.1, y17.1.2.2.2.2.2.2.1, y17.1.2.2.2.2.2.2.2.1, y17.1.2.2.2.2.2.2.2.2.1, y17.1.2.2.2.2.2.2.2.2.2.1, y17.1.2.2.2.2.2.2.2.2.2.2.1, ()), true, ())))))) else ((c_impl_Url_tail n (y3.1.1, y3.1.2.1, y3.1.2.2.1, y3.1.2.2.2.1, y3.1.2.2.2.2.1, 7, y3.1.2.2.2.2.2.2.1, y3.1.2.2.2.2.2.2.2.1, y3.1.2.2.2.2.2.2.2.2.1, y3.1.2.2.2.2.2.2.2.2.2.1, y3.1.2.2.2.2.2.2.2.2.2.2.1, ()) y9.2.1).bind fun y18 => grd (decide (y18.1.2.2.2.2.2.1 = 7)) (bif (y9.1 == ([] : Bs)) then (bif (!y18.1.2.2.2.2.2.2.2.1) then (some ((y18.1.1, y18.1.2.1, y18.1.2.2.1, y18.1.2.2.2.1, y18.1.2.2.2.2.1, y3.1.2.2.2.2.2.1, y18.1.2.2.2.2.2.2.1, x0.2.2.2.2.2.2.2.1, x0.2.2.2.2.2.2.2.2.1, y18.1.2.2.2.2.2.2.2.2.2.1, y18.1.2.2.2.2.2.2.2.2.2.2.1, ()), true, ())) else (some ((y18.1.1, y18.1.2.1, y18.1.2.2.1, y18.1.2.2.2.1, y18.1.2.2.2.2.1, y3.1.2.2.2.2.2.1, y18.1.2.2.2.2.2.2.1, y18.1.2.2.2.2.2.2.2.1, y18.1.2.2.2.2.2.2.2.2.1, y18.1.2.2.2.2.2.2.2.2.2.1, y18.1.2.2.2.2.2.2.2.2.2.2.1, ()), true, ()))) else (some ((y18.1.1, y18.1.2.1, y18.1.2.2.1, y18.1.2.2.2.1, y18.1.2.2.2.2.1, y3.1.2.2.2.2.2.1, y18.1.2.2.2.2.2.2.1, y18.1.2.2.2.2.2.2.2.1, y18.1.2.2.2.2.2.2.2.2.1, y18.1.2.2.2.2.2.2.2.2.2.1, y18.1.2.2.2.2.2.2.2.2.2.2.1, ()), true, ())))))
theorem joinTail_ok {m : Nat} (hm : 4194304 + 6 ≤ m) {b : TUrl} (hb2 : b.2.2.2.2.2.1.length ≤ 1000000) {s : Bs} (hs : s.length ≤ 200) : joinTail m b s (b, ()) = some (pathJ b s, true, ()) := by
  unfold joinTail
  rw [impl_upTo_ok (by omega) (by omega) (by simp) (by simp) (by decide)]
  have hl := at_len [63, 35] s
  have fl := from_len [63, 35] s
  unfold pathJ
  generalize atM [63, 35] s = w at *
  generalize fromM [63, 35] s = f at *
  simp only [Option.bind_some, impl_Url_tail_ok (n := m) (s := f) (by omega) _ (by omega), grd_dec]
  cases w with
  | nil =>
    have e : (([] : Bs) == ([] : Bs)) = true := rfl
    simp only [e, Bool.not_true, cond_false, cond_true, tailT, tailM, if_true, true_and]
    cases hq : decide ((cut1 35 f).1 ≠ []) with
    | true => simp
    | false => simp
  | cons c l =>
    have e : ((c :: l) == ([] : Bs)) = false := rfl
    have h1 : (0 : Int) < ((c :: l).length : Int) := by simp only [List.length_cons]; omega
    simp only [e, Bool.not_false, cond_true, cond_false, show (0 : Int) ≤ 0 from Int.le_refl 0, if_true, h1, bt_0, impl_isSlash_ok (n := m) (by omega), Option.bind_some]
    have hne : ¬ (c :: l) = [] := by simp
    simp only [if_neg hne, List.headD_cons, tailM, hne, false_and, if_false]
    by_cases hc : isSl c = true
    · simp only [hc, cond_true, impl_PathGet_ok (n := m) (s := c :: l) (by omega) (by omega), Option.bind_some, tailT, if_true]
    · have hc' : isSl c = false := by simpa using hc
      have hw : (max (0 : Int) (IntKind.i64.wrap ((b.2.2.2.2.2.1.length : Int) - 1))).toNat = b.2.2.2.2.2.1.length - 1 := by rw [w64 (by omega) (by omega)]; omega
      have hw1 : (0 : Int) ≤ max (0 : Int) (IntKind.i64.wrap ((b.2.2.2.2.2.1.length : Int) - 1)) := by rw [w64 (by omega) (by omega)]; omega
      have hw2 : max (0 : Int) (IntKind.i64.wrap ((b.2.2.2.2.2.1.length : Int) - 1)) ≤ (b.2.2.2.2.2.1.length : Int) := by rw [w64 (by omega) (by omega)]; omega
      simp only [hc', cond_false, Bool.false_eq_true, if_false, if_pos hw1, if_pos hw2, hw, List.drop_zero, dropLast_take]
      rw [impl_walk_ok (by omega) (by rw [List.length_dropLast]; omega) (by omega)]
      simp [tailT]
def fit (o : Option TUrl) : Option TUrl := match o with
  | some u => if okU u = true then some u else none
  | none => none
theorem uj_fit (b : TUrl) (t : Bs) : ujM b t = if okU b = true ∧ t.length ≤ 200 then fit (joinM b (stripM t)) else none := rfl
theorem joinR {x : TUrl} {ok : Bool} {o : Option TUrl} (h : (if ok = true ∧ okU x = true then some x else none) = fit o) :
    (bif !ok then some (urlZ, false, ()) else bif !okU x then some (urlZ, false, ()) else some (x, true, ())) = some (getR (fit o)) := by
  rw [← h]
  cases ok <;> cases okU x <;> rfl
theorem read_fits {sch r : Bs} {u : TUrl} (h : okU u = true) : (putM u).length ≤ 600 ∧ fitsM u = true := by
  have := ok_len h
  exact ⟨by omega, (get_read ((okU_iff u).1 h)).2.1⟩
theorem parse_fit {t sch r : Bs} (hs : schM (stripM t) = some (sch, r)) (ht : t.length ≤ 2000) : ∃ x ok, parseR t = (x, ok, ()) ∧ BU x ∧ (if ok = true ∧ okU x = true then some x else none) = fit (readM sch r) := by
  unfold parseR
  rw [hs]
  have hl := schM_len hs
  have hst := strip_len t
  dsimp only at hl ⊢
  have hB := fun u => read_BU (sch := sch) (rest := r) (u := u) (by omega) (by omega)
  unfold readM at hB ⊢
  by_cases g : portS sch < 0
  · rw [if_pos g]
    rw [if_pos g] at hB ⊢
    refine ⟨_, _, rfl, hB _ rfl, ?_⟩
    show _ = fit (some (opqM sch r))
    unfold fit
    simp only
    cases ho : okU (opqM sch r) with
    | false => simp
    | true => rw [decide_eq_true (read_fits (sch := sch) (r := r) ho).1]; simp
  · rw [if_neg g]
    rw [if_neg g] at hB ⊢
    cases hh : hostedM sch (r.dropWhile isSl) with
    | none => exact ⟨urlZ, false, rfl, zero_sm.sm.bu, by simp [fit]⟩
    | some u =>
      have hb := hB u hh
      simp only
      cases hf : fitsM u with
      | true => exact ⟨u, true, rfl, hb, by simp [fit]⟩
      | false =>
        refine ⟨urlZ, false, rfl, zero_sm.sm.bu, ?_⟩
        unfold fit
        simp only
        cases ho : okU u with
        | false => simp
        | true => rw [(read_fits (sch := sch) (r := r) ho).2] at hf; cases hf
theorem strip_slash {s : Bs} (h : stripM s = s) (h2 : headSl s = true) : endS s = s := by
  have hd : s.dropWhile blankB = s := dropWhile_id _ fun c hc => by
    cases s with
    | nil => cases hc
    | cons d l =>
      have : d = c := by simpa using hc
      subst this
      have : d = 47 ∨ d = 92 := by simpa [headSl, isSl] using h2
      rcases this with rfl | rfl <;> rfl
  have : stripM s = endS (s.dropWhile blankB) := rfl
  rw [hd, h] at this
  exact this.symm
theorem prefix35 (s : Bs) : ([35] : Bs).isPrefixOf s = (match s with | c :: _ => c == 35 | [] => false) := by
  cases s with
  | nil => rfl
  | cons c l =>
    simp only [List.isPrefixOf, Bool.and_true]
    rw [Bool.eq_iff_iff, beq_iff_eq, beq_iff_eq]; exact eq_comm
theorem frag_bu {b : TUrl} (hb : szU b ≤ 2000 ∧ b.2.2.2.2.1 ≤ 70000) {f : Bs} (hf : f.length ≤ 200) : BU (fragJ b f) := by
  have := encM_len setF f
  refine ⟨?_, by simp only [fragJ]; omega⟩
  have := hb.1
  unfold szU fragJ at *
  simp only
  omega
theorem pathM_mem_walk (t : Bs) (ht : t.length ≤ 200) (l : List Bs) : (pathM (walkM l (piecesM t))).length ≤ (pathM l).length + 120801 := by
  obtain ⟨p1, p2⟩ := pieces_ok ht
  have := walkM_sz l (piecesM t) p2
  omega
theorem ite_le (c : Prop) [Decidable c] (x y : TUrl) (hx : szU x ≤ 3000000) (hy : szU y ≤ 3000000) : szU (if c then x else y) ≤ 3000000 := by
  split
  · exact hx
  · exact hy
theorem pathJ_bu {b : TUrl} (hb : szU b ≤ 2000 ∧ b.2.2.2.2.1 ≤ 70000) {s : Bs} (hs : s.length ≤ 200) : BU (pathJ b s) := by
  have hl := at_len [63, 35] s
  have fl := from_len [63, 35] s
  have hp : (pathM (if atM [63, 35] s = [] then b.2.2.2.2.2.1 else if isSl ((atM [63, 35] s).headD 0) = true then pathGetM (atM [63, 35] s) else walkM b.2.2.2.2.2.1.dropLast (piecesM (atM [63, 35] s)))).length ≤ 2000 + 120801 := by
    have h1 := hb.1
    unfold szU at h1
    split
    · omega
    split
    · have := pathGet_sz (atM [63, 35] s); omega
    · have := pathM_mem_walk (atM [63, 35] s) (by omega) b.2.2.2.2.2.1.dropLast
      have := pathM_drop b.2.2.2.2.2.1
      omega
  have hc := cut1_len 35 (fromM [63, 35] s)
  have e1 := encM_len setQ ((cut1 35 (fromM [63, 35] s)).1.drop 1)
  have e2 := encM_len setF ((cut1 35 (fromM [63, 35] s)).2.getD [])
  have e3 : ((cut1 35 (fromM [63, 35] s)).1.drop 1).length ≤ (cut1 35 (fromM [63, 35] s)).1.length := by simp
  have h1 := hb.1
  have h2 := hb.2
  unfold szU at h1
  unfold pathJ
  refine ⟨ite_le _ _ _ ?_ ?_, ?_⟩
  · unfold szU tailM; simp only; omega
  · unfold szU tailM; simp only; omega
  · have := (pathJ_keeps b s).2.2.2.2
    unfold pathJ at this
    rw [this]; omega
end Go.VM.T
namespace Go.VM.T
open Go Go.VM
theorem ok_small {b : TUrl} (ho : okU b = true) : szU b ≤ 700 ∧ -1 ≤ b.2.2.2.2.1 ∧ b.2.2.2.2.1 ≤ 65535 := get_small ((okU_iff b).1 ho)
theorem small_path {b : TUrl} (h : szU b ≤ 2000) : b.2.2.2.2.2.1.length ≤ 2000 := by
  have := pathM_len b.2.2.2.2.2.1
  unfold szU at h
  omega
theorem drop_blank_head {l : Bs} : ∀ c, (l.dropWhile blankB).head? = some c → blankB c = false := by
  intro c hc
  have := List.head?_dropWhile_not (p := blankB) (l := l)
  rw [hc] at this
  simpa using this
theorem strip_idem (t : Bs) : stripM (stripM t) = stripM t := by
  obtain ⟨d, hd⟩ : ∃ d, d = t.dropWhile blankB := ⟨_, rfl⟩
  obtain ⟨l, hl⟩ : ∃ l, l = (d.reverse.dropWhile blankB).reverse := ⟨_, rfl⟩
  have e : stripM t = l.filter seenB := by rw [hl, hd]; rfl
  have h1 : ∀ c, l.reverse.head? = some c → blankB c = false := by rw [hl, List.reverse_reverse]; exact drop_blank_head
  have h2 : ∀ c, l.head? = some c → blankB c = false := by
    intro c hc
    have hp : l <+: d := by
      rw [hl]
      have := List.dropWhile_suffix (p := blankB) (l := d.reverse)
      have := List.reverse_prefix.2 this
      rwa [List.reverse_reverse] at this
    obtain ⟨r, hr⟩ := hp
    have : d.head? = some c := by
      rw [← hr]
      cases l with
      | nil => cases hc
      | cons a l => simpa using hc
    rw [hd] at this
    exact drop_blank_head c this
  have seen : ∀ c, blankB c = false → seenB c = true := fun c hc => by
    have := u8_all (p := fun c => blankB c || seenB c) (by decide +kernel) c
    rw [hc] at this
    simpa using this
  have hf : ∀ {l : Bs}, (∀ c, l.head? = some c → blankB c = false) → ∀ c, (l.filter seenB).head? = some c → blankB c = false := fun {l} h c hc => by
    cases l with
    | nil => cases hc
    | cons a l =>
      have ha := h a rfl
      rw [List.filter_cons_of_pos (seen a ha)] at hc
      have : a = c := by simpa using hc
      subst this; exact ha
  have k1 : (l.filter seenB).dropWhile blankB = l.filter seenB := dropWhile_id _ (hf h2)
  have k2 : (l.filter seenB).reverse.dropWhile blankB = (l.filter seenB).reverse := dropWhile_id _ (by rw [← List.filter_reverse]; exact hf h1)
  rw [e]
  show ((((l.filter seenB).dropWhile blankB).reverse.dropWhile blankB).reverse).filter seenB = _
  rw [k1, k2, List.reverse_reverse, List.filter_filter]
  congr 1
  funext c
  simp
theorem impl_join_ok {n : Nat} (hn : 4194304 + 35 ≤ n) {b : TUrl} (ho : okU b = true) {s : Bs} (hst : stripM s = s) (hs : s.length ≤ 200) :
    ∃ x ok, c_impl_join n b s = some (x, ok, ()) ∧ BU x ∧ (if ok = true ∧ okU x = true then some x else none) = fit (joinM b s) := by
  obtain ⟨m, rfl⟩ := sn hn
  rw [eq_impl_join]; unfold m_impl_join joinM
  obtain ⟨hz, hp1, hp2⟩ := ok_small ho
  have hpl := small_path (b := b) (by omega)
  have hk := okU_kind ho
  rw [impl_schemeOf_ok (by omega) (by omega)]
  simp only [Option.bind_some]
  cases hsc : schM s with
  | some p =>
    obtain ⟨sch, r⟩ := p
    obtain ⟨x, ok, e1, e2, e3⟩ := parse_fit (t := s) (by rw [hst]; exact hsc) (by omega)
    simp only [schR_some, cond_true, impl_UrlGet_ok (n := m) (t := s) (by omega), Option.bind_some]
    rw [if_neg (by omega), e1]
    exact ⟨x, ok, rfl, e2, e3⟩
  | none =>
    simp only [schR_none, cond_false, impl_copyOf_ok (n := m) (u := b) (by omega) (by omega), Option.bind_some]
    rw [bif_dec]
    by_cases hpo : portS b.1 < 0
    · rw [if_pos (hk.2 hpo), if_pos hpo]
      simp only [strings_HasPrefix_ok (n := m) (by omega), Option.bind_some, prefix35]
      cases s with
      | nil => exact ⟨urlZ, false, rfl, zero_sm.sm.bu, by simp [fit]⟩
      | cons c f =>
        simp only
        by_cases hc : c = 35
        · subst hc
          simp only [beq_self_eq_true, Bool.not_true, cond_false, if_true]
          rw [grd_dec, if_pos (by omega), grd_dec, if_pos (by simp only [List.length_cons]; omega)]
          have ed : ((35 :: f : Bs).take (35 :: f : Bs).length).drop (1 : Int).toNat = f := by rw [List.take_length]; rfl
          rw [ed, encode3 (by omega) (by simp only [List.length_cons] at hs; omega)]
          refine ⟨_, true, rfl, frag_bu (b := b) ⟨by omega, by omega⟩ (f := f) (by simp only [List.length_cons] at hs; omega), ?_⟩
          show (if true = true ∧ okU (fragJ b f) = true then some (fragJ b f) else none) = fit (some (fragJ b f))
          simp [fit]
        · rw [show (c == 35) = false by simp [hc], if_neg hc]
          exact ⟨urlZ, false, rfl, zero_sm.sm.bu, by simp [fit]⟩
    · rw [if_neg (fun h => hpo (hk.1 h)), if_neg hpo]
      have htail := joinTail_ok (m := m) (by omega) (b := b) (by omega) hs
      have hres : ∃ x ok, (some (pathJ b s, true, ()) : Option (TUrl × Bool × Unit)) = some (x, ok, ()) ∧ BU x ∧ (if ok = true ∧ okU x = true then some x else none) = fit (some (pathJ b s)) :=
        ⟨_, true, rfl, pathJ_bu ⟨by omega, by omega⟩ hs, by simp [fit]⟩
      cases s with
      | nil =>
        rw [bif_dec, if_neg (by simp)]
        have ht : twoSl [] = false := rfl
        rw [ht]
        simp only [Bool.false_eq_true, if_false]
        rw [← htail] at hres
        exact hres
      | cons c l =>
        cases l with
        | nil =>
          rw [bif_dec, if_neg (by simp)]
          have ht : twoSl [c] = false := rfl
          rw [ht]
          simp only [Bool.false_eq_true, if_false]
          rw [← htail] at hres
          exact hres
        | cons d l =>
          rw [bif_dec, if_pos (by simp only [List.length_cons]; omega), grd_dec, if_pos (by omega), grd_dec, if_pos (by simp only [List.length_cons]; omega), bt_0, impl_isSlash_ok (by omega)]
          simp only [Option.bind_some]
          by_cases hc : isSl c = true
          · simp only [hc, cond_true]
            rw [grd_dec, if_pos (by omega), grd_dec, if_pos (by simp only [List.length_cons]; omega), bt_1, impl_isSlash_ok (by omega)]
            simp only [Option.bind_some]
            by_cases hd : isSl d = true
            · have ht : twoSl (c :: d :: l) = true := by simp [twoSl, hc, hd]
              simp only [hd, cond_true, ht, if_true]
              have hsch : b.1.length ≤ 700 := by unfold szU at hz; omega
              have hlen : ((b.1 ++ [58]) ++ (c :: d :: l)).length ≤ 2000 := by simp only [List.length_append, List.length_cons, List.length_nil] at hs ⊢; omega
              have hv : visS (b.1 ++ [58]) := visS_app (http_vis (by omega)) (visS_cons ⟨by decide, by decide⟩ visS_nil)
              have hst2 : stripM ((b.1 ++ [58]) ++ (c :: d :: l)) = b.1 ++ 58 :: (c :: d :: l) := by
                rw [strip_app hv (by simp), strip_slash hst (by simpa [headSl] using hc)]
                simp
              rw [grd_dec, if_pos (by simp only [List.length_cons, List.length_nil]; omega), grd_dec, if_pos (by simp only [List.length_append, List.length_cons, List.length_nil] at hs ⊢; omega)]
              obtain ⟨x, ok, e1, e2, e3⟩ := parse_fit (t := (b.1 ++ [58]) ++ (c :: d :: l)) (by rw [hst2]; exact schM_http b.1 (by omega) _) hlen
              rw [impl_parse_ok (by omega) hlen, e1]
              exact ⟨x, ok, rfl, e2, e3⟩
            · have hd' : isSl d = false := by simpa using hd
              have ht : twoSl (c :: d :: l) = false := by simp [twoSl, hd']
              simp only [hd', cond_false, ht, Bool.false_eq_true, if_false]
              rw [← htail] at hres
              exact hres
          · have hc' : isSl c = false := by simpa using hc
            have ht : twoSl (c :: d :: l) = false := by simp [twoSl, hc']
            simp only [hc', cond_false, ht, Bool.false_eq_true, if_false]
            rw [← htail] at hres
            exact hres
theorem joinM_bu {b : TUrl} (ho : okU b = true) {s : Bs} (hs : s.length ≤ 200) {u : TUrl} (h : joinM b s = some u) : BU u := by
  obtain ⟨hz, hp1, hp2⟩ := ok_small ho
  have hsch : b.1.length ≤ 700 := by unfold szU at hz; omega
  unfold joinM at h
  split at h
  · rename_i p hp
    have hl := schM_len hp
    exact read_BU (by omega) (by omega) h
  · split at h
    · split at h
      · split at h
        · rename_i f _
          cases h
          exact frag_bu ⟨by omega, by omega⟩ (by simp only [List.length_cons] at hs; omega)
        · cases h
      · cases h
    · split at h
      · exact read_BU (by omega) (by omega) h
      · cases h; exact pathJ_bu ⟨by omega, by omega⟩ hs
theorem ok_path_ne {b : TUrl} (ho : okU b = true) : 0 ≤ portS b.1 → b.2.2.2.2.2.1 ≠ [] := fun h => (ok_segs ho h).1
theorem spec_UrlJoin_ok {n : Nat} (hn : 4194304 + 40 ≤ n) {b : TUrl} (hb : BU b) {t : Bs} (ht : t.length ≤ 4000000) : c_spec_UrlJoin n b t = some (getR (ujM b t)) := by
  obtain ⟨m, rfl⟩ := sn hn
  rw [eq_spec_UrlJoin]; unfold m_spec_UrlJoin
  rw [uj_fit]
  simp only [spec_UrlOk_ok (n := m) (by omega) hb, Option.bind_some, bif_dec]
  cases ho : okU b with
  | false => simp [getR, urlZ, hostZ]
  | true =>
    simp only [Bool.not_true, cond_false, true_and]
    by_cases hl : (200 : Int) < (t.length : Int)
    · rw [if_pos hl, if_neg (by omega)]; rfl
    · rw [if_neg hl, if_pos (by omega)]
      have hst := strip_le t
      have hpl := small_path (b := b) (by have := (ok_small ho).1; omega)
      simp only [spec_l3Trim_ok (n := m) (s := t) (by omega) ht, Option.bind_some]
      rw [l4Join_ok (by omega) hb (ok_path_ne ho) (by omega) (by omega)]
      simp only [Option.bind_some]
      cases hj : joinM b (stripM t) with
      | none => simp [getR, fit, urlZ, hostZ]
      | some u =>
        have hu := joinM_bu ho (by omega) hj
        simp only [getR_some, Bool.not_true, cond_false, spec_UrlOk_ok (n := m) (by omega) hu, Option.bind_some, fit]
        cases okU u <;> rfl
theorem impl_UrlJoin_ok {n : Nat} (hn : 4194304 + 40 ≤ n) {b : TUrl} (hb : BU b) {t : Bs} (ht : t.length ≤ 4000000) : c_impl_UrlJoin n b t = some (getR (ujM b t)) := by
  obtain ⟨m, rfl⟩ := sn hn
  rw [eq_impl_UrlJoin]; unfold m_impl_UrlJoin
  rw [uj_fit]
  simp only [impl_UrlOk_ok (n := m) (by omega) hb, Option.bind_some, bif_dec]
  cases ho : okU b with
  | false => simp [getR, urlZ, hostZ]
  | true =>
    simp only [Bool.not_true, cond_false, true_and]
    by_cases hl : (200 : Int) < (t.length : Int)
    · rw [if_pos hl, if_neg (by omega)]; rfl
    · rw [if_neg hl, if_pos (by omega)]
      have hst := strip_le t
      simp only [impl_strip_ok (n := m) (s := t) (by omega) ht, Option.bind_some]
      obtain ⟨x, ok, e1, e2, e3⟩ := impl_join_ok (n := m) (by omega) ho (strip_idem t) (s := stripM t) (by omega)
      simp only [e1, Option.bind_some, impl_UrlOk_ok (n := m) (by omega) e2]
      exact joinR e3
theorem uj_okb {b : TUrl} {t : Bs} {x : TUrl} (h : ujM b t = some x) : okU x = true ∧ BU x := ⟨(uj_ok h).2.2.2, ok_bu (uj_ok h).2.2.2⟩
theorem getR_bu {b : TUrl} {t : Bs} : BU (getR (ujM b t)).1 := by
  cases h : ujM b t with
  | none => exact zero_sm.sm.bu
  | some x => exact (uj_okb h).2
end Go.VM.T
namespace Go.VM.T
open Go Go.VM
end Go.VM.T
namespace Go.VM.T
open Go Go.VM
theorem portOf_neg {u : TUrl} (ho : okU u = true) : portOfM u < 0 ↔ portS u.1 < 0 := by
  obtain ⟨_, h1, h2⟩ := ok_small ho
  unfold portOfM
  by_cases hs : portS u.1 < 0
  · obtain ⟨sch, user, pass, h, p, path, o, hq, q, hf, f, ⟨⟩⟩ := u
    obtain ⟨rfl, rfl, rfl, rfl, rfl, K⟩ := ok_opq hs ho
    simp [hs]
  · constructor
    · intro h
      split at h
      · exact h
      · omega
    · intro h; exact absurd h hs
theorem baseR_ok {u : TUrl} (ho : okU u = true) : baseR u = baseU u := by unfold baseR; rw [if_pos ho]
end Go.VM.T
namespace Go.VM.T
open Go Go.VM
theorem law_FnJoinRoot {n : Nat} (hn : 4194304 + 50 ≤ n) {code : List Int} (hc : ∀ x ∈ code, 0 ≤ x ∧ x ≤ 255) : c_laws_FnJoinRoot n code = some (true, ()) := by
  obtain ⟨m, rfl⟩ := sn hn
  rw [eq_laws_FnJoinRoot]; unfold m_laws_FnJoinRoot
  rw [bif_dec]
  split
  · rfl
  rename_i hl
  obtain ⟨u, t, e, hu, ht⟩ := DrawUrlJoin_ok (n := m) (code := code) (by omega) ⟨by omega, hc⟩
  have U := hu.bu
  have hR := getR_bu (b := u) (t := [47, 97, 47] ++ t)
  have hl2 : ([47, 97, 47] ++ t : Bs).length ≤ 4000000 := by simp; omega
  have hg : decide (([47, 97, 47] : Bs).length + t.length ≤ 9223372036854775807) = true := decide_eq_true (by simp only [List.length_cons, List.length_nil]; omega)
  simp only [e, Option.bind_some, hg, grd_t, impl_UrlJoin_ok (n := m) (t := [47, 97, 47] ++ t) (by omega) U hl2, spec_UrlJoin_ok (n := m) (t := [47, 97, 47] ++ t) (by omega) U hl2, guUrl_refl (n := m) (by omega) hR, beq_self_eq_true, Bool.not_true, cond_false, cond_true, spec_UrlOk_ok (n := m) (by omega) U]
  cases hou : okU u with
  | false => rfl
  | true =>
    simp only [Bool.not_true, cond_false, impl_PortOf_ok (n := m) (by omega) U, hou, if_true, Option.bind_some]
    by_cases hp : portOfM u < 0
    · rw [decide_eq_true hp]; rfl
    · rw [decide_eq_false hp]
      have hs : 0 ≤ portS u.1 := Int.not_lt.1 fun h => hp ((portOf_neg hou).2 h)
      have hor := ok_root hou hs
      have er : ((baseU u).1, (baseU u).2.1, (baseU u).2.2.1, (baseU u).2.2.2.1, (baseU u).2.2.2.2.1, ([([] : Bs)] : List Bs), (baseU u).2.2.2.2.2.2.1, false, ([] : Bs), (baseU u).2.2.2.2.2.2.2.2.2.1, (baseU u).2.2.2.2.2.2.2.2.2.2.1, ()) = rootU u := rfl
      simp only [cond_false, impl_UrlBase_ok (n := m) (by omega) U, Option.bind_some, baseR_ok hou, er, impl_UrlOk_ok (n := m) (by omega) (ok_bu hor), hor, cond_true, impl_UrlJoin_ok (n := m) (t := [47, 97, 47] ++ t) (by omega) (ok_bu hor) hl2]
      rw [show ujM (rootU u) ([47, 97, 47] ++ t) = ujM u ([47, 97, 47] ++ t) from uj_root hou hs t]
      simp only [beq_self_eq_true, cond_true, guUrl_refl (n := m) (by omega) hR, Option.bind_some]
theorem getD_last (l : List Bs) (i : Nat) (h : i = l.length) : (l ++ [([] : Bs)]).getD i ([] : Bs) = [] := by subst h; simp
theorem law_FnJoinUp {n : Nat} (hn : 4194304 + 50 ≤ n) {code : List Int} (hc : ∀ x ∈ code, 0 ≤ x ∧ x ≤ 255) : c_laws_FnJoinUp n code = some (true, ()) := by
  obtain ⟨m, rfl⟩ := sn hn
  rw [eq_laws_FnJoinUp]; unfold m_laws_FnJoinUp
  rw [bif_dec]
  split
  · rfl
  rename_i hl
  obtain ⟨u, t, e, hu, ht⟩ := DrawUrlJoin_ok (n := m) (code := code) (by omega) ⟨by omega, hc⟩
  have U := hu.bu
  have hR := getR_bu (b := u) (t := t)
  simp only [e, Option.bind_some, impl_UrlJoin_ok (n := m) (t := t) (by omega) U (by omega), spec_UrlJoin_ok (n := m) (t := t) (by omega) U (by omega), guUrl_refl (n := m) (by omega) hR, beq_self_eq_true, Bool.not_true, cond_false, cond_true, spec_UrlOk_ok (n := m) (by omega) U]
  cases hou : okU u with
  | false => rfl
  | true =>
    simp only [Bool.not_true, cond_false, impl_PortOf_ok (n := m) (by omega) U, hou, if_true, Option.bind_some]
    by_cases hp : portOfM u < 0
    · rw [decide_eq_true hp]; rfl
    · rw [decide_eq_false hp]
      have hs : 0 ≤ portS u.1 := Int.not_lt.1 fun h => hp ((portOf_neg hou).2 h)
      obtain ⟨d1, d2⟩ := uj_dots hou hs
      obtain ⟨g1, _, g3⟩ := ok_segs hou hs
      have f1 : ∀ l, (onPath u l).2.2.2.2.2.1 = l := fun _ => rfl
      have f2 : ∀ l, (onPath u l).2.2.2.2.2.2.2.1 = false := fun _ => rfl
      have f3 : ∀ l, (onPath u l).2.2.2.2.2.2.2.2.2.1 = false := fun _ => rfl
      simp only [cond_false, impl_UrlJoin_ok (n := m) (t := [46]) (by omega) U (by simp), impl_UrlJoin_ok (n := m) (t := [46, 46]) (by omega) U (by simp), d1, d2, getR_some, Option.bind_some, f1, f2, f3, cond_true]
      generalize u.2.2.2.2.2.1 = P at g1 g3 ⊢
      have hP : 1 ≤ P.length := List.length_pos_iff.2 g1
      have l1 : P.dropLast.length = P.length - 1 := List.length_dropLast
      have l2 : P.dropLast.dropLast.length = P.length - 1 - 1 := by rw [List.length_dropLast, l1]
      have w1 : IntKind.i64.wrap ((P.length : Int) - 1) = (P.length : Int) - 1 := w64 (by omega) (by omega)
      have w2 : IntKind.i64.wrap ((P.length : Int) - 1 - 1) = (P.length : Int) - 1 - 1 := w64 (by omega) (by omega)
      have w3 : IntKind.i64.wrap ((1 : Int) - 1) = 0 := by decide
      have h1 : ((P.dropLast ++ [[]] : List Bs).length : Int) = (P.length : Int) := by simp only [List.length_append, l1, List.length_cons, List.length_nil]; omega
      rw [w1, w2, w3, h1]
      have k1 : (P.dropLast ++ [[]] : List Bs).getD ((P.length : Int) - 1).toNat [] = [] := getD_last _ _ (by rw [l1]; omega)
      rw [k1]
      rw [bif_dec]
      split
      · have h2 : ((P.dropLast.dropLast ++ [[]] : List Bs).length : Int) = 1 := by simp only [List.length_append, l2, List.length_cons, List.length_nil]; omega
        have k2 : (P.dropLast.dropLast ++ [[]] : List Bs).getD (0 : Int).toNat [] = [] := getD_last _ _ (by rw [l2]; simp; omega)
        rw [h2, k2]
        simp (disch := omega) [grd_dec, if_pos, grd_t]
      · have h2 : ((P.dropLast.dropLast ++ [[]] : List Bs).length : Int) = (P.length : Int) - 1 := by simp only [List.length_append, l2, List.length_cons, List.length_nil]; omega
        have k2 : (P.dropLast.dropLast ++ [[]] : List Bs).getD ((P.length : Int) - 1 - 1).toNat [] = [] := getD_last _ _ (by rw [l2]; omega)
        rw [h2, k2]
        simp (disch := omega) [grd_dec, if_pos, grd_t]
theorem law_FnJoinHost {n : Nat} (hn : 4194304 + 50 ≤ n) {code : List Int} (hc : ∀ x ∈ code, 0 ≤ x ∧ x ≤ 255) : c_laws_FnJoinHost n code = some (true, ()) := by
  obtain ⟨m, rfl⟩ := sn hn
  rw [eq_laws_FnJoinHost]; unfold m_laws_FnJoinHost
  rw [bif_dec]
  split
  · rfl
  rename_i hl
  obtain ⟨u, t, e, hu, ht⟩ := DrawUrlJoin_ok (n := m) (code := code) (by omega) ⟨by omega, hc⟩
  have U := hu.bu
  have hR := getR_bu (b := u) (t := [47, 47, 99, 46, 99, 111, 109, 47] ++ t)
  have hl2 : ([47, 47, 99, 46, 99, 111, 109, 47] ++ t : Bs).length ≤ 4000000 := by simp; omega
  have hg : decide (([47, 47, 99, 46, 99, 111, 109, 47] : Bs).length + t.length ≤ 9223372036854775807) = true := decide_eq_true (by simp only [List.length_cons, List.length_nil]; omega)
  simp only [e, Option.bind_some, hg, grd_t, impl_UrlJoin_ok (n := m) (t := [47, 47, 99, 46, 99, 111, 109, 47] ++ t) (by omega) U hl2, spec_UrlJoin_ok (n := m) (t := [47, 47, 99, 46, 99, 111, 109, 47] ++ t) (by omega) U hl2, guUrl_refl (n := m) (by omega) hR, beq_self_eq_true, Bool.not_true, cond_false, cond_true]
  cases hx : ujM u ([47, 47, 99, 46, 99, 111, 109, 47] ++ t) with
  | none => rfl
  | some x =>
    have hou := (uj_ok hx).1
    obtain ⟨hox, X⟩ := uj_okb hx
    simp only [getR_some, Bool.not_true, cond_false, impl_PortOf_ok (n := m) (by omega) U, hou, if_true, Option.bind_some]
    by_cases hp : portOfM u < 0
    · rw [decide_eq_true hp]; rfl
    · rw [decide_eq_false hp]
      have hs : 0 ≤ portS u.1 := Int.not_lt.1 fun h => hp ((portOf_neg hou).2 h)
      obtain ⟨k1, k2, k3, k4, k5⟩ := uj_host (u := u) (x := x) (t := t) hou hs hx
      have hz := (ok_small hou).1
      have hu1 : u.1.length ≤ 700 := by unfold szU at hz; omega
      have g1 : decide (u.1.length + ([58, 47, 47, 99, 46, 99, 111, 109, 47] : Bs).length ≤ 9223372036854775807) = true := decide_eq_true (by simp only [List.length_cons, List.length_nil]; omega)
      have g2 : decide ((u.1 ++ ([58, 47, 47, 99, 46, 99, 111, 109, 47] : Bs)).length + t.length ≤ 9223372036854775807) = true := decide_eq_true (by simp only [List.length_append, List.length_cons, List.length_nil]; omega)
      have e3 : (x.2.2.2.1.2.1 == ([99, 46, 99, 111, 109] : Bs)) = true := by rw [k3]; rfl
      simp only [cond_false, g1, g2, grd_t, impl_UrlGet_ok (n := m) (by omega), Option.bind_some, k1, k2, k4, e3, beq_self_eq_true, decide_true, cond_true]
      obtain ⟨p1, p2⟩ := parseR_get ((u.1 ++ ([58, 47, 47, 99, 46, 99, 111, 109, 47] : Bs)) ++ t)
      cases hy : getM ((u.1 ++ ([58, 47, 47, 99, 46, 99, 111, 109, 47] : Bs)) ++ t) with
      | none => rw [p2 hy]; rfl
      | some y =>
        have : y = x := k5 y hy
        subst this
        rw [p1 y hy]
        simp only [Bool.not_true, cond_false, guUrl_refl (n := m) (by omega) X, Option.bind_some]
end Go.VM.T
