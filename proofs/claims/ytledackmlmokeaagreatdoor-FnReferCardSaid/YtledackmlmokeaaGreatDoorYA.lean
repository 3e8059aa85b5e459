/- The plain law: what the models compute answers as the statement says. -/
import Derived.Test.YtledackmlmokeaaGreatDoorY7
import Derived.Test.YtledackmlmokeaaGreatDoorY4
set_option linter.unusedVariables false
set_option linter.unusedSimpArgs false
namespace Go.VM.T
open Go Go.VM
def headSl : Bs → Bool
  | c :: _ => isSl c
  | [] => false
end Go.VM.T
namespace Go.VM.T
open Go Go.VM
noncomputable def joinTail (n : Nat) (x0 : TUrl) (x1 : Bs) (y3 : TUrl × Unit) : Option (TUrl × Bool × Unit) := (c_impl_upTo n x1 ([63, 35] : Bs)).bind fun y9 => bif (!(y9.1 == ([] : Bs))) then (grd (decide (0 ≤ (0 : Int))) (grd (decide ((0 : Int) < (y9.1.length : Int))) ((c_impl_isSlash n (bt y9.1 (0 : Int))).bind fun y10 => bif y10.1 then ((c_impl_PathGet n y9.1).bind fun y11 => (c_impl_Url_tail n (y3.1.1, y3.1.2.1, y3.1.2.2.1, y3.1.2.2.2.1, y3.1.2.2.2.2.1, 7, y3.1.2.2.2.2.2.2.1, y3.1.2.2.2.2.2.2.2.1, y3.1.2.2.2.2.2.2.2.2.1, y3.1.2.2.2.2.2.2.2.2.2.1, y3.1.2.2.2.2.2.2.2.2.2.2.1, ()) y9.2.1).bind fun y12 => grd (decide (y12.1.2.2.2.2.2.1 = 7)) (bif (y9.1 == ([] : Bs)) then (bif (!y12.1.2.2.2.2.2.2.2.1) then (some ((y12.1.1, y12.1.2.1, y12.1.2.2.1, y12.1.2.2.2.1, y12.1.2.2.2.2.1, y11.1, y12.1.2.2.2.2.2.2.1, x0.2.2.2.2.2.2.2.1, x0.2.2.2.2.2.2.2.2.1, y12.1.2.2.2.2.2.2.2.2.2.1, y12.1.2.2.2.2.2.2.2.2.2.2.1, ()), true, ())) else (some ((y12.1.1, y12.1.2.1, y12.1.2.2.1, y12.1.2.2.2.1, y12.1.2.2.2.2.1, y11.1, y12.1.2.2.2.2.2.2.1, y12.1.2.2.2.2.2.2.2.1, y12.1.2.2.2.2.2.2.2.2.1, y12.1.2.2.2.2.2.2.2.2.2.1, y12.1.2.2.2.2.2.2.2.2.2.2.1, ()), true, ()))) else (some ((y12.1.1, y12.1.2.1, y12.1.2.2.1, y12.1.2.2.2.1, y12.1.2.2.2.2.1, y11.1, y12.1.2.2.2.2.2.2.1, y12.1.2.2.2.2.2.2.2.1, y12.1.2.2.2.2.2.2.2.2.1, y12.1.2.2.2.2.2.2.2.2.2.1, y12.1.2.2.2.2.2.2.2.2.2.2.1, ()), true, ())))) else (bif (!(y9.1 == ([] : Bs))) then (grd (decide (0 ≤ (max (0 : Int) (IntKind.i64.wrap ((x0.2.2.2.2.2.1.length : Int) - (1 : Int)))))) (grd (decide ((max (0 : Int) (IntKind.i64.wrap ((x0.2.2.2.2.2.1.length : Int) - (1 : Int)))) ≤ (x0.2.2.2.2.2.1.length : Int))) ((c_impl_walk n ((x0.2.2.2.2.2.1.take (max (0 : Int) (IntKind.i64.wrap ((x0.2.2.2.2.2.1.length : Int) - (1 : Int)))).toNat).drop 0) y9.1).bind fun y13 => (c_impl_Url_tail n (y3.1.1, y3.1.2.1, y3.1.2.2.1, y3.1.2.2.2.1, y3.1.2.2.2.2.1, 7, y3.1.2.2.2.2.2.2.1, y3.1.2.2.2.2.2.2.2.1, y3.1.2.2.2.2.2.2.2.2.1, y3.1.2.2.2.2.2.2.2.2.2.1, y3.1.2.2.2.2.2.2.2.2.2.2.1, ()) y9.2.1).bind fun y14 => grd (decide (y14.1.2.2.2.2.2.1 = 7)) (bif (y9.1 == ([] : Bs)) then (bif (!y14.1.2.2.2.2.2.2.2.1) then (some ((y14.1.1, y14.1.2.1, y14.1.2.2.1, y14.1.2.2.2.1, y14.1.2.2.2.2.1, y13.1, y14.1.2.2.2.2.2.2.1, x0.2.2.2.2.2.2.2.1, x0.2.2.2.2.2.2.2.2.1, y14.1.2.2.2.2.2.2.2.2.2.1, y14.1.2.2.2.2.2.2.2.2.2.2.1, ()), true, ())) else (some ((y14.1.1, y14.1.2.1, y14.1.2.2.1, y14.1.2.2.2.1, y14.1.2.2.2.2.1, y13.1, y14.1.2.2.2.2.2.2.1, y14.1.2.2.2.2.2.2.2.1, y14.1.2.2.2.2.2.2.2.2.1, y14.1.2.2.2.2.2.2.2.2.2.1, y14.1.2.2.2.2.2.2.2.2.2.2.1, ()), true, ()))) else (some ((y14.1.1, y14.1.2.1, y14.1.2.2.1, y14.1.2.2.2.1, y14.1.2.2.2.2.1, y13.1, y14.1.2.2.2.2.2.2.1, y14.1.2.2.2.2.2.2.2.1, y14.1.2.2.2.2.2.2.2.2.1, y14.1.2.2.2.2.2.2.2.2.2.1, y14.1.2.2.2.2.2.2.2.2.2.2.1, ()), true, ())))))) else ((c_impl_Url_tail n (y3.1.1, y3.1.2.1, y3.1.2.2.1, y3.1.2.2.2.1, y3.1.2.2.2.2.1, 7, y3.1.2.2.2.2.2.2.1, y3.1.2.2.2.2.2.2.2.1, y3.1.2.2.2.2.2.2.2.2.1, y3.1.2.2.2.2.2.2.2.2.2.1, y3.1.2.2.2.2.2.2.2.2.2.2.1, ()) y9.2.1).bind fun y15 => grd (decide (y15.1.2.2.2.2.2.1 = 7)) (bif (y9.1 == ([] : Bs)) then (bif (!y15.1.2.2.2.2.2.2.2.1) then (some ((y15.1.1, y15.1.2.1, y15.1.2.2.1, y15.1.2.2.2.1, y15.1.2.2.2.2.1, y3.1.2.2.2.2.2.1, y15.1.2.2.2.2.2.2.1, x0.2.2.2.2.2.2.2.1, x0.2.2.2.2.2.2.2.2.1, y15.1.2.2.2.2.2.2.2.2.2.1, y15.1.2.2.2.2.2.2.2.2.2.2.1, ()), true, ())) else (some ((y15.1.1, y15.1.2.1, y15.1.2.2.1, y15.1.2.2.2.1, y15.1.2.2.2.2.1, y3.1.2.2.2.2.2.1, y15.1.2.2.2.2.2.2.1, y15.1.2.2.2.2.2.2.2.1, y15.1.2.2.2.2.2.2.2.2.1, y15.1.2.2.2.2.2.2.2.2.2.1, y15.1.2.2.2.2.2.2.2.2.2.2.1, ()), true, ()))) else (some ((y15.1.1, y15.1.2.1, y15.1.2.2.1, y15.1.2.2.2.1, y15.1.2.2.2.2.1, y3.1.2.2.2.2.2.1, y15.1.2.2.2.2.2.2.1, y15.1.2.2.2.2.2.2.2.1, y15.1.2.2.2.2.2.2.2.2.1, y15.1.2.2.2.2.2.2.2.2.2.1, y15.1.2.2.2.2.2.2.2.2.2.2.1, ()), true, ())))))))) else (bif (!(y9.1 == ([] : Bs))) then (grd (decide (0 ≤ (max (0 : Int) (IntKind.i64.wrap ((x0.2.2.2.2.2.1.length : Int) - (1 : Int)))))) (grd (decide ((max (0 : Int) (IntKind.i64.wrap ((x0.2.2.2.2.2.1.length : Int) - (1 : Int)))) ≤ (x0.2.2.2.2.2.1.length : Int))) ((c_impl_walk n ((x0.2.2.2.2.2.1.take (max (0 : Int) (IntKind.i64.wrap ((x0.2.2.2.2.2.1.length : Int) - (1 : Int)))).toNat).drop 0) y9.1).bind fun y16 => (c_impl_Url_tail n (y3.1.1, y3.1.2.1, y3.1.2.2.1, y3.1.2.2.2.1, y3.1.2.2.2.2.1, 7, y3.1.2.2.2.2.2.2.1, y3.1.2.2.2.2.2.2.2.1, y3.1.2.2.2.2.2.2.2.2.1, y3.1.2.2.2.2.2.2.2.2.2.1, y3.1.2.2.2.2.2.2.2.2.2.2.1, ()) y9.2.1).bind fun y17 => grd (decide (y17.1.2.2.2.2.2.1 = 7)) (bif (y9.1 == ([] : Bs)) then (bif (!y17.1.2.2.2.2.2.2.2.1) then (some ((y17.1.1, y17.1.2.1, y17.1.2.2.1, y17.1.2.2.2.1, y17.1.2.2.2.2.1, y16.1, y17.1.2.2.2.2.2.2.1, x0.2.2.2.2.2.2.2.1, x0.2.2.2.2.2.2.2.2.1, y17.1.2.2.2.2.2.2.2.2.2.1, y17.1.2.2.2.2.2.2.2.2.2.2.1, ()), true, ())) else (some ((y17.1.1, y17.1.2.1, y17.1.2.2.1, y17.1.2.2.2.1, y17.1.2.2.2.2.1, y16.1, y17.1.2.2.2.2.2.2.1, y17.1.2.2.2.2.2.2.2.1, y17.1.2.2.2.2.2.2.2.2.1, y17.1.2.2.2.2.2.2.2.2.2.1, y17.1.2.2.2.2.2.2.2.2.2.2.1, ()), true, ()))) else (some ((y17.1.1, y17.1.2.1, y17.1.2.2.1, y17.1.2.2.2.1, y17.1.2.2.2.2.1, y16.1, y17.1.2.2.2.2.2.2.1, y17.1.2.2.2.2.2.2.2.1, y17.1.2.2.2.2.2.2.2.2.1, y17.1.2.2.2.2.2.2.2.2.2.1, y17.1.2.2.2.2.2.2.2.2.2.2.1, ()), true, ())))))) else ((c_impl_Url_tail n (y3.1.1, y3.1.2.1, y3.1.2.2.1, y3.1.2.2.2.1, y3.1.2.2.2.2.1, 7, y3.1.2.2.2.2.2.2.1, y3.1.2.2.2.2.2.2.2.1, y3.1.2.2.2.2.2.2.2.2.1, y3.1.2.2.2.2.2.2.2.2.2.1, y3.1.2.2.2.2.2.2.2.2.2.2.1, ()) y9.2.1).bind fun y18 => grd (decide (y18.1.2.2.2.2.2.1 = 7)) (bif (y9.1 == ([] : Bs)) then (bif (!y18.1.2.2.2.2.2.2.2.1) then (some ((y18.1.1, y18.1.2.1, y18.1.2.2.1, y18.1.2.2.2.1, y18.1.2.2.2.2.1, y3.1.2.2.2.2.2.1, y18.1.2.2.2.2.2.2.1, x0.2.2.2.2.2.2.2.1, x0.2.2.2.2.2.2.2.2.1, y18.1.2.2.2.2.2.2.2.2.2.1, y18.1.2.2.2.2.2.2.2.2.2.2.1, ()), true, ())) else (some ((y18.1.1, y18.1.2.1, y18.1.2.2.1, y18.1.2.2.2.1, y18.1.2.2.2.2.1, y3.1.2.2.2.2.2.1, y18.1.2.2.2.2.2.2.1, y18.1.2.2.2.2.2.2.2.1, y18.1.2.2.2.2.2.2.2.2.1, y18.1.2.2.2.2.2.2.2.2.2.1, y18.1.2.2.2.2.2.2.2.2.2.2.1, ()), true, ()))) else (some ((y18.1.1, y18.1.2.1, y18.1.2.2.1, y18.1.2.2.2.1, y18.1.2.2.2.2.1, y3.1.2.2.2.2.2.1, y18.1.2.2.2.2.2.2.1, y18.1.2.2.2.2.2.2.2.1, y18.1.2.2.2.2.2.2.2.2.1, y18.1.2.2.2.2.2.2.2.2.2.1, y18.1.2.2.2.2.2.2.2.2.2.2.1, ()), true, ())))))
theorem joinTail_ok {m : Nat} (hm : 4194304 + 6 ≤ m) {b : TUrl} (hb2 : b.2.2.2.2.2.1.length ≤ 1000000) {s : Bs} (hs : s.length ≤ 200) : joinTail m b s (b, ()) = some (pathJ b s, true, ()) := by
  unfold joinTail
  rw [impl_upTo_ok (by omega) (by omega) (by simp) (by simp) (by decide)]
  have hl := at_len [63, 35] s
  have fl := from_len [63, 35] s
  unfold pathJ
  generalize atM [63, 35] s = w at *
  generalize fromM [63, 35] s = f at *
  simp only [Option.bind_some, impl_Url_tail_ok (n := m) (s := f) (by omega) _ (by omega), grd_dec]
  cases w with
  | nil =>
    have e : (([] : Bs) == ([] : Bs)) = true := rfl
    simp only [e, Bool.not_true, cond_false, cond_true, tailT, tailM, if_true, true_and]
    cases hq : decide ((cut1 35 f).1 ≠ []) with
    | true => simp
    | false => simp
  | cons c l =>
    have e : ((c :: l) == ([] : Bs)) = false := rfl
    have h1 : (0 : Int) < ((c :: l).length : Int) := by simp only [List.length_cons]; omega
    simp only [e, Bool.not_false, cond_true, cond_false, show (0 : Int) ≤ 0 from Int.le_refl 0, if_true, h1, bt_0, impl_isSlash_ok (n := m) (by omega), Option.bind_some]
    have hne : ¬ (c :: l) = [] := by simp
    simp only [if_neg hne, List.headD_cons, tailM, hne, false_and, if_false]
    by_cases hc : isSl c = true
    · simp only [hc, cond_true, impl_PathGet_ok (n := m) (s := c :: l) (by omega) (by omega), Option.bind_some, tailT, if_true]
    · have hc' : isSl c = false := by simpa using hc
      have hw : (max (0 : Int) (IntKind.i64.wrap ((b.2.2.2.2.2.1.length : Int) - 1))).toNat = b.2.2.2.2.2.1.length - 1 := by rw [w64 (by omega) (by omega)]; omega
      have hw1 : (0 : Int) ≤ max (0 : Int) (IntKind.i64.wrap ((b.2.2.2.2.2.1.length : Int) - 1)) := by rw [w64 (by omega) (by omega)]; omega
      have hw2 : max (0 : Int) (IntKind.i64.wrap ((b.2.2.2.2.2.1.length : Int) - 1)) ≤ (b.2.2.2.2.2.1.length : Int) := by rw [w64 (by omega) (by omega)]; omega
      simp only [hc', cond_false, Bool.false_eq_true, if_false, if_pos hw1, if_pos hw2, hw, List.drop_zero, dropLast_take]
      rw [impl_walk_ok (by omega) (by rw [List.length_dropLast]; omega) (by omega)]
      simp [tailT]
def fit (o : Option TUrl) : Option TUrl := match o with
  | some u => if okU u = true then some u else none
  | none => none
theorem uj_fit (b : TUrl) (t : Bs) : ujM b t = if okU b = true ∧ t.length ≤ 200 then fit (joinM b (stripM t)) else none := rfl
theorem joinR {x : TUrl} {ok : Bool} {o : Option TUrl} (h : (if ok = true ∧ okU x = true then some x else none) = fit o) :
    (bif !ok then some (urlZ, false, ()) else bif !okU x then some (urlZ, false, ()) else some (x, true, ())) = some (getR (fit o)) := by
  rw [← h]
  cases ok <;> cases okU x <;> rfl
theorem read_fits {sch r : Bs} {u : TUrl} (h : okU u = true) : (putM u).length ≤ 600 ∧ fitsM u = true := by
  have := ok_len h
  exact ⟨by omega, (get_read ((okU_iff u).1 h)).2.1⟩
theorem parse_fit {t sch r : Bs} (hs : schM (stripM t) = some (sch, r)) (ht : t.length ≤ 2000) : ∃ x ok, parseR t = (x, ok, ()) ∧ BU x ∧ (if ok = true ∧ okU x = true then some x else none) = fit (readM sch r) := by
  unfold parseR
  rw [hs]
  have hl := schM_len hs
  have hst := strip_len t
  dsimp only at hl ⊢
  have hB := fun u => read_BU (sch := sch) (rest := r) (u := u) (by omega) (by omega)
  unfold readM at hB ⊢
  by_cases g : portS sch < 0
  · rw [if_pos g]
    rw [if_pos g] at hB ⊢
    refine ⟨_, _, rfl, hB _ rfl, ?_⟩
    show _ = fit (some (opqM sch r))
    unfold fit
    simp only
    cases ho : okU (opqM sch r) with
    | false => simp
    | true => rw [decide_eq_true (read_fits (sch := sch) (r := r) ho).1]; simp
  · rw [if_neg g]
    rw [if_neg g] at hB ⊢
    cases hh : hostedM sch (r.dropWhile isSl) with
    | none => exact ⟨urlZ, false, rfl, zero_sm.sm.bu, by simp [fit]⟩
    | some u =>
      have hb := hB u hh
      simp only
      cases hf : fitsM u with
      | true => exact ⟨u, true, rfl, hb, by simp [fit]⟩
      | false =>
        refine ⟨urlZ, false, rfl, zero_sm.sm.bu, ?_⟩
        unfold fit
        simp only
        cases ho : okU u with
        | false => simp
        | true => rw [(read_fits (sch := sch) (r := r) ho).2] at hf; cases hf
theorem strip_slash {s : Bs} (h : stripM s = s) (h2 : headSl s = true) : endS s = s := by
  have hd : s.dropWhile blankB = s := dropWhile_id _ fun c hc => by
    cases s with
    | nil => cases hc
    | cons d l =>
      have : d = c := by simpa using hc
      subst this
      have : d = 47 ∨ d = 92 := by simpa [headSl, isSl] using h2
      rcases this with rfl | rfl <;> rfl
  have : stripM s = endS (s.dropWhile blankB) := rfl
  rw [hd, h] at this
  exact this.symm
theorem prefix35 (s : Bs) : ([35] : Bs).isPrefixOf s = (match s with | c :: _ => c == 35 | [] => false) := by
  cases s with
  | nil => rfl
  | cons c l =>
    simp only [List.isPrefixOf, Bool.and_true]
    rw [Bool.eq_iff_iff, beq_iff_eq, beq_iff_eq]; exact eq_comm
theorem frag_bu {b : TUrl} (hb : szU b ≤ 2000 ∧ b.2.2.2.2.1 ≤ 70000) {f : Bs} (hf : f.length ≤ 200) : BU (fragJ b f) := by
  have := encM_len setF f
  refine ⟨?_, by simp only [fragJ]; omega⟩
  have := hb.1
  unfold szU fragJ at *
  simp only
  omega
theorem pathM_mem_walk (t : Bs) (ht : t.length ≤ 200) (l : List Bs) : (pathM (walkM l (piecesM t))).length ≤ (pathM l).length + 120801 := by
  obtain ⟨p1, p2⟩ := pieces_ok ht
  have := walkM_sz l (piecesM t) p2
  omega
theorem ite_le (c : Prop) [Decidable c] (x y : TUrl) (hx : szU x ≤ 3000000) (hy : szU y ≤ 3000000) : szU (if c then x else y) ≤ 3000000 := by
  split
  · exact hx
  · exact hy
theorem pathJ_bu {b : TUrl} (hb : szU b ≤ 2000 ∧ b.2.2.2.2.1 ≤ 70000) {s : Bs} (hs : s.length ≤ 200) : BU (pathJ b s) := by
  have hl := at_len [63, 35] s
  have fl := from_len [63, 35] s
  have hp : (pathM (if atM [63, 35] s = [] then b.2.2.2.2.2.1 else if isSl ((atM [63, 35] s).headD 0) = true then pathGetM (atM [63, 35] s) else walkM b.2.2.2.2.2.1.dropLast (piecesM (atM [63, 35] s)))).length ≤ 2000 + 120801 := by
    have h1 := hb.1
    unfold szU at h1
    split
    · omega
    split
    · have := pathGet_sz (atM [63, 35] s); omega
    · have := pathM_mem_walk (atM [63, 35] s) (by omega) b.2.2.2.2.2.1.dropLast
      have := pathM_drop b.2.2.2.2.2.1
      omega
  have hc := cut1_len 35 (fromM [63, 35] s)
  have e1 := encM_len setQ ((cut1 35 (fromM [63, 35] s)).1.drop 1)
  have e2 := encM_len setF ((cut1 35 (fromM [63, 35] s)).2.getD [])
  have e3 : ((cut1 35 (fromM [63, 35] s)).1.drop 1).length ≤ (cut1 35 (fromM [63, 35] s)).1.length := by simp
  have h1 := hb.1
  have h2 := hb.2
  unfold szU at h1
  unfold pathJ
  refine ⟨ite_le _ _ _ ?_ ?_, ?_⟩
  · unfold szU tailM; simp only; omega
  · unfold szU tailM; simp only; omega
  · have := (pathJ_keeps b s).2.2.2.2
    unfold pathJ at this
    rw [this]; omega
end Go.VM.T
namespace Go.VM.T
open Go Go.VM
theorem ok_small {b : TUrl} (ho : okU b = true) : szU b ≤ 700 ∧ -1 ≤ b.2.2.2.2.1 ∧ b.2.2.2.2.1 ≤ 65535 := get_small ((okU_iff b).1 ho)
theorem small_path {b : TUrl} (h : szU b ≤ 2000) : b.2.2.2.2.2.1.length ≤ 2000 := by
  have := pathM_len b.2.2.2.2.2.1
  unfold szU at h
  omega
theorem drop_blank_head {l : Bs} : ∀ c, (l.dropWhile blankB).head? = some c → blankB c = false := by
  intro c hc
  have := List.head?_dropWhile_not (p := blankB) (l := l)
  rw [hc] at this
  simpa using this
theorem strip_idem (t : Bs) : stripM (stripM t) = stripM t := by
  obtain ⟨d, hd⟩ : ∃ d, d = t.dropWhile blankB := ⟨_, rfl⟩
  obtain ⟨l, hl⟩ : ∃ l, l = (d.reverse.dropWhile blankB).reverse := ⟨_, rfl⟩
  have e : stripM t = l.filter seenB := by rw [hl, hd]; rfl
  have h1 : ∀ c, l.reverse.head? = some c → blankB c = false := by rw [hl, List.reverse_reverse]; exact drop_blank_head
  have h2 : ∀ c, l.head? = some c → blankB c = false := by
    intro c hc
    have hp : l <+: d := by
      rw [hl]
      have := List.dropWhile_suffix (p := blankB) (l := d.reverse)
      have := List.reverse_prefix.2 this
      rwa [List.reverse_reverse] at this
    obtain ⟨r, hr⟩ := hp
    have : d.head? = some c := by
      rw [← hr]
      cases l with
      | nil => cases hc
      | cons a l => simpa using hc
    rw [hd] at this
    exact drop_blank_head c this
  have seen : ∀ c, blankB c = false → seenB c = true := fun c hc => by
    have := u8_all (p := fun c => blankB c || seenB c) (by decide +kernel) c
    rw [hc] at this
    simpa using this
  have hf : ∀ {l : Bs}, (∀ c, l.head? = some c → blankB c = false) → ∀ c, (l.filter seenB).head? = some c → blankB c = false := fun {l} h c hc => by
    cases l with
    | nil => cases hc
    | cons a l =>
      have ha := h a rfl
      rw [List.filter_cons_of_pos (seen a ha)] at hc
      have : a = c := by simpa using hc
      subst this; exact ha
  have k1 : (l.filter seenB).dropWhile blankB = l.filter seenB := dropWhile_id _ (hf h2)
  have k2 : (l.filter seenB).reverse.dropWhile blankB = (l.filter seenB).reverse := dropWhile_id _ (by rw [← List.filter_reverse]; exact hf h1)
  rw [e]
  show ((((l.filter seenB).dropWhile blankB).reverse.dropWhile blankB).reverse).filter seenB = _
  rw [k1, k2, List.reverse_reverse, List.filter_filter]
  congr 1
  funext c
  simp
theorem impl_join_ok {n : Nat} (hn : 4194304 + 35 ≤ n) {b : TUrl} (ho : okU b = true) {s : Bs} (hst : stripM s = s) (hs : s.length ≤ 200) :
    ∃ x ok, c_impl_join n b s = some (x, ok, ()) ∧ BU x ∧ (if ok = true ∧ okU x = true then some x else none) = fit (joinM b s) := by
  obtain ⟨m, rfl⟩ := sn hn
  rw [eq_impl_join]; unfold m_impl_join joinM
  obtain ⟨hz, hp1, hp2⟩ := ok_small ho
  have hpl := small_path (b := b) (by omega)
  have hk := okU_kind ho
  rw [impl_schemeOf_ok (by omega) (by omega)]
  simp only [Option.bind_some]
  cases hsc : schM s with
  | some p =>
    obtain ⟨sch, r⟩ := p
    obtain ⟨x, ok, e1, e2, e3⟩ := parse_fit (t := s) (by rw [hst]; exact hsc) (by omega)
    simp only [schR_some, cond_true, impl_UrlGet_ok (n := m) (t := s) (by omega), Option.bind_some]
    rw [if_neg (by omega), e1]
    exact ⟨x, ok, rfl, e2, e3⟩
  | none =>
    simp only [schR_none, cond_false, impl_copyOf_ok (n := m) (u := b) (by omega) (by omega), Option.bind_some]
    rw [bif_dec]
    by_cases hpo : portS b.1 < 0
    · rw [if_pos (hk.2 hpo), if_pos hpo]
      simp only [strings_HasPrefix_ok (n := m) (by omega), Option.bind_some, prefix35]
      cases s with
      | nil => exact ⟨urlZ, false, rfl, zero_sm.sm.bu, by simp [fit]⟩
      | cons c f =>
        simp only
        by_cases hc : c = 35
        · subst hc
          simp only [beq_self_eq_true, Bool.not_true, cond_false, if_true]
          rw [grd_dec, if_pos (by omega), grd_dec, if_pos (by simp only [List.length_cons]; omega)]
          have ed : ((35 :: f : Bs).take (35 :: f : Bs).length).drop (1 : Int).toNat = f := by rw [List.take_length]; rfl
          rw [ed, encode3 (by omega) (by simp only [List.length_cons] at hs; omega)]
          refine ⟨_, true, rfl, frag_bu (b := b) ⟨by omega, by omega⟩ (f := f) (by simp only [List.length_cons] at hs; omega), ?_⟩
          show (if true = true ∧ okU (fragJ b f) = true then some (fragJ b f) else none) = fit (some (fragJ b f))
          simp [fit]
        · rw [show (c == 35) = false by simp [hc], if_neg hc]
          exact ⟨urlZ, false, rfl, zero_sm.sm.bu, by simp [fit]⟩
    · rw [if_neg (fun h => hpo (hk.1 h)), if_neg hpo]
      have htail := joinTail_ok (m := m) (by omega) (b := b) (by omega) hs
      have hres : ∃ x ok, (some (pathJ b s, true, ()) : Option (TUrl × Bool × Unit)) = some (x, ok, ()) ∧ BU x ∧ (if ok = true ∧ okU x = true then some x else none) = fit (some (pathJ b s)) :=
        ⟨_, true, rfl, pathJ_bu ⟨by omega, by omega⟩ hs, by simp [fit]⟩
      cases s with
      | nil =>
        rw [bif_dec, if_neg (by simp)]
        have ht : twoSl [] = false := rfl
        rw [ht]
        simp only [Bool.false_eq_true, if_false]
        rw [← htail] at hres
        exact hres
      | cons c l =>
        cases l with
        | nil =>
          rw [bif_dec, if_neg (by simp)]
          have ht : twoSl [c] = false := rfl
          rw [ht]
          simp only [Bool.false_eq_true, if_false]
          rw [← htail] at hres
          exact hres
        | cons d l =>
          rw [bif_dec, if_pos (by simp only [List.length_cons]; omega), grd_dec, if_pos (by omega), grd_dec, if_pos (by simp only [List.length_cons]; omega), bt_0, impl_isSlash_ok (by omega)]
          simp only [Option.bind_some]
          by_cases hc : isSl c = true
          · simp only [hc, cond_true]
            rw [grd_dec, if_pos (by omega), grd_dec, if_pos (by simp only [List.length_cons]; omega), bt_1, impl_isSlash_ok (by omega)]
            simp only [Option.bind_some]
            by_cases hd : isSl d = true
            · have ht : twoSl (c :: d :: l) = true := by simp [twoSl, hc, hd]
              simp only [hd, cond_true, ht, if_true]
              have hsch : b.1.length ≤ 700 := by unfold szU at hz; omega
              have hlen : ((b.1 ++ [58]) ++ (c :: d :: l)).length ≤ 2000 := by simp only [List.length_append, List.length_cons, List.length_nil] at hs ⊢; omega
              have hv : visS (b.1 ++ [58]) := visS_app (http_vis (by omega)) (visS_cons ⟨by decide, by decide⟩ visS_nil)
              have hst2 : stripM ((b.1 ++ [58]) ++ (c :: d :: l)) = b.1 ++ 58 :: (c :: d :: l) := by
                rw [strip_app hv (by simp), strip_slash hst (by simpa [headSl] using hc)]
                simp
              rw [grd_dec, if_pos (by simp only [List.length_cons, List.length_nil]; omega), grd_dec, if_pos (by simp only [List.length_append, List.length_cons, List.length_nil] at hs ⊢; omega)]
              obtain ⟨x, ok, e1, e2, e3⟩ := parse_fit (t := (b.1 ++ [58]) ++ (c :: d :: l)) (by rw [hst2]; exact schM_http b.1 (by omega) _) hlen
              rw [impl_parse_ok (by omega) hlen, e1]
              exact ⟨x, ok, rfl, e2, e3⟩
            · have hd' : isSl d = false := by simpa using hd
              have ht : twoSl (c :: d :: l) = false := by simp [twoSl, hd']
              simp only [hd', cond_false, ht, Bool.false_eq_true, if_false]
              rw [← htail] at hres
              exact hres
          · have hc' : isSl c = false := by simpa using hc
            have ht : twoSl (c :: d :: l) = false := by simp [twoSl, hc']
            simp only [hc', cond_false, ht, Bool.false_eq_true, if_false]
            rw [← htail] at hres
            exact hres
theorem impl_UrlJoin_ok {n : Nat} (hn : 4194304 + 40 ≤ n) {b : TUrl} (hb : BU b) {t : Bs} (ht : t.length ≤ 4000000) : c_impl_UrlJoin n b t = some (getR (ujM b t)) := by
  obtain ⟨m, rfl⟩ := sn hn
  rw [eq_impl_UrlJoin]; unfold m_impl_UrlJoin
  rw [uj_fit]
  simp only [impl_UrlOk_ok (n := m) (by omega) hb, Option.bind_some, bif_dec]
  cases ho : okU b with
  | false => simp [getR, urlZ, hostZ]
  | true =>
    simp only [Bool.not_true, cond_false, true_and]
    by_cases hl : (200 : Int) < (t.length : Int)
    · rw [if_pos hl, if_neg (by omega)]; rfl
    · rw [if_neg hl, if_pos (by omega)]
      have hst := strip_le t
      simp only [impl_strip_ok (n := m) (s := t) (by omega) ht, Option.bind_some]
      obtain ⟨x, ok, e1, e2, e3⟩ := impl_join_ok (n := m) (by omega) ho (strip_idem t) (s := stripM t) (by omega)
      simp only [e1, Option.bind_some, impl_UrlOk_ok (n := m) (by omega) e2]
      exact joinR e3
end Go.VM.T
namespace Go.VM.T
open Go Go.VM
end Go.VM.T
namespace Go.VM.T
open Go Go.VM
theorem portOf_neg {u : TUrl} (ho : okU u = true) : portOfM u < 0 ↔ portS u.1 < 0 := by
  obtain ⟨_, h1, h2⟩ := ok_small ho
  unfold portOfM
  by_cases hs : portS u.1 < 0
  · obtain ⟨sch, user, pass, h, p, path, o, hq, q, hf, f, ⟨⟩⟩ := u
    obtain ⟨rfl, rfl, rfl, rfl, rfl, K⟩ := ok_opq hs ho
    simp [hs]
  · constructor
    · intro h
      split at h
      · exact h
      · omega
    · intro h; exact absurd h hs
end Go.VM.T
namespace Go.VM.T
open Go Go.VM
theorem uj_less {b u : TUrl} (hb : okU b = true) (hu : okU u = true) : ujM b (lessM b u) = some u ∧ (lessM b u).length ≤ (putM u).length := by
  have hfull : ujM b (putM u) = some u ∧ (putM u).length ≤ (putM u).length := ⟨uj_full hb hu, Nat.le_refl _⟩
  have h2 : ujM b (less2 b u) = some u ∧ (less2 b u).length ≤ (putM u).length := by
    unfold less2
    by_cases hs : portS u.1 < 0
    · rw [if_pos hs]; exact hfull
    rw [if_neg hs]
    by_cases e1 : b.1 = u.1
    · rw [if_pos e1]
      by_cases e2 : b.2.1 = u.2.1
      · rw [if_pos e2]
        by_cases e3 : b.2.2.1 = u.2.2.1
        · rw [if_pos e3]
          by_cases e4 : b.2.2.2.1.1 = u.2.2.2.1.1 ∧ b.2.2.2.1.2.1 = u.2.2.2.1.2.1 ∧ b.2.2.2.1.2.2.1 = u.2.2.2.1.2.2.1
          · rw [if_pos e4]
            by_cases e5 : b.2.2.2.2.1 = u.2.2.2.2.1
            · rw [if_pos e5]
              have sh := uj_short hb hu (by omega) e1 e2 e3 (Prod.ext e4.1 (Prod.ext e4.2.1 (Prod.ext e4.2.2 rfl))) e5
              by_cases q1 : 1 < u.2.2.2.2.2.1.length
              · rw [if_pos q1]
                by_cases q2 : u.2.2.2.2.2.1.getD 0 [] = []
                · rw [if_pos q2]; exact hfull
                · rw [if_neg q2]; exact sh (.inr q2)
              · rw [if_neg q1]; exact sh (.inl (by omega))
            · rw [if_neg e5]; exact hfull
          · rw [if_neg e4]; exact hfull
        · rw [if_neg e3]; exact hfull
      · rw [if_neg e2]; exact hfull
    · rw [if_neg e1]; exact hfull
  unfold lessM
  rw [if_pos hb, if_pos hu]
  by_cases hf : u.2.2.2.2.2.2.2.2.2.1 = true
  · rw [if_pos hf]
    by_cases hq : eqU (baseU b) (baseU u) = true
    · rw [if_pos hq]; exact uj_lessF hb hu hf ((eqU_iff _ _).1 hq)
    · rw [if_neg hq]; exact h2
  · rw [if_neg hf]; exact h2
theorem law_FnUrlLess {n : Nat} (hn : 4194304 + 50 ≤ n) {code : List Int} (hc : ∀ x ∈ code, 0 ≤ x ∧ x ≤ 255) : c_laws_FnUrlLess n code = some (true, ()) := by
  obtain ⟨m, rfl⟩ := sn hn
  rw [eq_laws_FnUrlLess]; unfold m_laws_FnUrlLess
  rw [bif_dec]
  split
  · rfl
  rename_i hl
  obtain ⟨u, v, e, hu, hv⟩ := DrawUrlLess_ok (n := m) (code := code) (by omega) ⟨by omega, hc⟩
  have U := hu.bu
  have V := hv.bu
  simp only [e, Option.bind_some, impl_UrlLess_ok (n := m) (by omega) U V, spec_UrlLess_ok (n := m) (by omega) U V, beq_self_eq_true, Bool.not_true, cond_false, spec_UrlOk_ok (n := m) (by omega) U, spec_UrlOk_ok (n := m) (by omega) V]
  cases hou : okU u with
  | false => rfl
  | true =>
    cases hov : okU v with
    | false => rfl
    | true =>
      obtain ⟨k1, k2⟩ := uj_less hou hov
      have hlen := ok_len hov
      simp only [Bool.not_true, cond_false, impl_UrlJoin_ok (n := m) (t := lessM u v) (by omega) U (by omega), k1, getR_some, Option.bind_some, cond_true, guUrl_refl (n := m) (by omega) V, impl_UrlPut_ok (n := m) (by omega) V, hov, if_true]
      rw [decide_eq_true (by omega)]
theorem lastIx_get (c : UInt8) : ∀ l : Bs, 0 ≤ lastIx c l → l[(lastIx c l).toNat]? = some c
  | [], h => by simp [lastIx] at h
  | x :: l, h => by
    by_cases q : 0 ≤ lastIx c l
    · have e : lastIx c (x :: l) = lastIx c l + 1 := by simp only [lastIx]; rw [if_pos q]
      rw [e, show (lastIx c l + 1).toNat = (lastIx c l).toNat + 1 by omega, List.getElem?_cons_succ]
      exact lastIx_get c l q
    · have e : lastIx c (x :: l) = if x = c then 0 else -1 := by simp only [lastIx]; rw [if_neg q]
      rw [e] at h ⊢
      split at h
      · rename_i hx; rw [if_pos hx]; simp [hx]
      · omega
theorem path_head {P : List Bs} (h : P ≠ []) : ∃ r, pathM P = 47 :: r := by
  cases P with
  | nil => exact absurd rfl h
  | cons s l => exact ⟨_, rfl⟩
theorem CutPrefix_ok {n : Nat} (hn : 4194304 + 4 ≤ n) (p r : Bs) : c_strings_CutPrefix n (p ++ r) p = some (r, true, ()) := by
  obtain ⟨m, rfl⟩ := sn hn
  rw [eq_strings_CutPrefix]; unfold m_strings_CutPrefix
  obtain ⟨k, rfl⟩ := sn (show 4194304 + 3 ≤ m by omega)
  rw [eq_stringslite_CutPrefix]; unfold m_stringslite_CutPrefix
  have hp : p.isPrefixOf (p ++ r) = true := by rw [List.isPrefixOf_iff_prefix]; exact List.prefix_append _ _
  simp only [stringslite_HasPrefix_ok (n := k) (by omega), Option.bind_some, hp, Bool.not_true, cond_false]
  rw [grd_dec, if_pos (by omega), grd_dec, if_pos (by simp; omega)]
  have ht : ((p ++ r).take (p ++ r).length).drop ((p.length : Int)).toNat = r := by rw [List.take_length]; simp
  rw [ht]; rfl
theorem HasSuffix_one {n : Nat} (hn : 4194304 + 4 ≤ n) (s : Bs) (hs : s.length ≤ 4000000) : ∃ b, c_strings_HasSuffix n s [47] = some (b, ()) ∧ (s = [47] → b = true) := by
  obtain ⟨m, rfl⟩ := sn hn
  rw [eq_strings_HasSuffix]; unfold m_strings_HasSuffix
  obtain ⟨k, rfl⟩ := sn (show 4194304 + 3 ≤ m by omega)
  rw [eq_stringslite_HasSuffix]; unfold m_stringslite_HasSuffix
  rw [bif_dec]
  split
  · rename_i h
    simp only [List.length_cons, List.length_nil] at h ⊢
    have hw : IntKind.i64.wrap ((s.length : Int) - ((0 + 1 : Nat) : Int)) = (s.length : Int) - 1 := w64 (by omega) (by omega)
    simp only [hw, grd_dec]
    rw [if_pos (by omega), if_pos (by omega)]
    exact ⟨_, rfl, fun e => by subst e; rfl⟩
  · rename_i h
    exact ⟨false, rfl, fun e => by subst e; exact absurd (Int.le_refl _) h⟩
theorem PathIn_ok {n : Nat} (hn : 4194304 + 10 ≤ n) {p r : Bs} (hp : p ≠ []) (hl : p.length ≤ 4000000) (h : p = [47] ∨ r = [] ∨ r[0]? = some 47) : c_impl_PathIn n (p ++ r) p = some (true, ()) := by
  obtain ⟨m, rfl⟩ := sn hn
  rw [eq_impl_PathIn]; unfold m_impl_PathIn
  rw [CutPrefix_ok (by omega)]
  simp only [Option.bind_some, show (p == ([] : Bs)) = false by simpa using hp, Bool.not_false, cond_true]
  obtain ⟨b, e, hb⟩ := HasSuffix_one (n := m) (by omega) p hl
  rw [e]
  by_cases hr : r = []
  · subst hr; rfl
  · simp only [Option.bind_some, show (r == ([] : Bs)) = false by simpa using hr, cond_false]
    have hpos : 0 < r.length := List.length_pos_iff.2 hr
    cases b with
    | true => rfl
    | false =>
      simp only [cond_false]
      rw [grd_dec, if_pos (by omega), grd_dec, if_pos (by omega)]
      rcases h with h | h | h
      · exact absurd (hb h) (by simp)
      · exact absurd h hr
      · have : bt r 0 = 47 := by unfold bt; simp [List.getD, h]
        rw [this]; rfl
theorem cutPath_ok {P : List Bs} (h : P ≠ []) : ∃ r, pathM P = cutPathM P ++ r ∧ (∃ q, cutPathM P = 47 :: q) ∧ (cutPathM P = [47] ∨ r = [] ∨ r[0]? = some 47) := by
  obtain ⟨t, ht⟩ := path_head h
  have hs : slashM P = pathM P := by unfold slashM; rw [if_neg (by rw [ht]; simp)]
  unfold cutPathM
  rw [hs]
  have hr := lastIx_range 47 (pathM P)
  by_cases q : 0 < lastIx 47 (pathM P)
  · rw [if_pos q]
    have hg := lastIx_get 47 (pathM P) (by omega)
    refine ⟨(pathM P).drop (lastIx 47 (pathM P)).toNat, (List.take_append_drop _ _).symm, ?_, .inr (.inr ?_)⟩
    · obtain ⟨k, hk⟩ : ∃ k, (lastIx 47 (pathM P)).toNat = k + 1 := ⟨(lastIx 47 (pathM P)).toNat - 1, by omega⟩
      rw [hk, ht, List.take_succ_cons]
      exact ⟨_, rfl⟩
    · rw [List.getElem?_drop]; simpa using hg
  · rw [if_neg q]
    exact ⟨t, ht, ⟨_, rfl⟩, .inl rfl⟩
theorem law_FnPathOf {n : Nat} (hn : 4194304 + 50 ≤ n) {code : List Int} (hc : ∀ x ∈ code, 0 ≤ x ∧ x ≤ 255) : c_laws_FnPathOf n code = some (true, ()) := by
  obtain ⟨m, rfl⟩ := sn hn
  rw [eq_laws_FnPathOf]; unfold m_laws_FnPathOf
  rw [bif_dec]
  split
  · rfl
  rename_i hl
  obtain ⟨u, e, hu⟩ := DrawPathOf_ok (n := m) (code := code) (by omega) ⟨by omega, hc⟩
  have U := hu.bu
  simp only [e, Option.bind_some, impl_PathOf_ok (n := m) (by omega) U, spec_PathOf_ok (n := m) (by omega) U, beq_self_eq_true, Bool.not_true, cond_false, cond_true, impl_PortOf_ok (n := m) (by omega) U]
  by_cases hp : (if okU u = true then portOfM u else -1) < 0
  · rw [decide_eq_true hp]
    simp only [cond_true]
    have hq : ¬ (0 : Int) ≤ (if okU u = true then portOfM u else -1) := by omega
    rw [decide_eq_false hq]
    have : pathOfM u = [47] := by
      unfold pathOfM
      cases hou : okU u with
      | false => rfl
      | true =>
        rw [hou] at hp
        simp only [if_true] at hp ⊢
        rw [if_pos ((okU_kind hou).2 ((portOf_neg hou).1 hp))]
    rw [this]; rfl
  · rw [decide_eq_false hp]
    have hou : okU u = true := by
      cases hou : okU u with
      | true => rfl
      | false => rw [hou] at hp; simp at hp
    rw [hou] at hp
    simp only [if_true] at hp
    have hs : 0 ≤ portS u.1 := Int.not_lt.1 fun h => hp ((portOf_neg hou).2 h)
    have hk : ¬ u.2.2.2.1.1 = 0 := fun h => by have := (okU_kind hou).1 h; omega
    obtain ⟨g1, _, _⟩ := ok_segs hou hs
    have hpl := BU_pathM U
    have hpo : pathOfM u = cutPathM u.2.2.2.2.2.1 := by unfold pathOfM; rw [if_pos hou, if_neg hk]
    rw [hpo]
    simp only [cond_false, impl_PathPut_ok (n := m) (by omega) hpl, Option.bind_some]
    obtain ⟨r, h1, ⟨q, h2⟩, h3⟩ := cutPath_ok g1
    obtain ⟨t, ht⟩ := path_head g1
    rw [show (pathM u.2.2.2.2.2.1 == ([] : Bs)) = false by rw [ht]; rfl]
    have hll : (cutPathM u.2.2.2.2.2.1).length + r.length = (pathM u.2.2.2.2.2.1).length := by rw [h1, List.length_append]
    have hb : bt (cutPathM u.2.2.2.2.2.1) 0 = 47 := by rw [h2]; rfl
    have hne : cutPathM u.2.2.2.2.2.1 ≠ [] := by rw [h2]; simp
    have hpi := PathIn_ok (n := m) (by omega) (p := cutPathM u.2.2.2.2.2.1) (r := r) hne (by omega) h3
    rw [← h1] at hpi
    have hpos : 0 < (cutPathM u.2.2.2.2.2.1).length := List.length_pos_iff.2 hne
    simp only [cond_false]
    rw [grd_dec, if_pos (by omega), grd_dec, if_pos (by omega), hb, decide_eq_true (rfl : (47 : Int) = 47), decide_eq_true (show ((cutPathM u.2.2.2.2.2.1).length : Int) ≤ ((pathM u.2.2.2.2.2.1).length : Int) by omega), hpi]
    rfl
theorem sameO_refl (o : TOrigin) : sameO o o = true := by unfold sameO; simp
theorem portS_le (s : Bs) : portS s ≤ 443 := by
  unfold portS
  split
  · omega
  · split <;> omega
theorem nz_kind {u : TUrl} (ho : okU u = true) (h : ¬ u.2.2.2.1.1 = 0) : 0 ≤ portS u.1 := Int.not_lt.1 fun e => h ((okU_kind ho).2 e)
theorem refer_ok {a b : TUrl} (ho : okU a = true) (hk : ¬ a.2.2.2.1.1 = 0) : ∃ x, getM (coreM a b) = some x ∧ okU x = true ∧ x.1 = a.1 ∧ x.2.1 = [] ∧ x.2.2.1 = [] ∧ x.2.2.2.1 = a.2.2.2.1 ∧ x.2.2.2.2.1 = a.2.2.2.2.1 ∧ x.2.2.2.2.2.2.2.2.2.1 = false ∧
    (sameO (origM a) (origM b) = false → x.2.2.2.2.2.1 = [[]] ∧ x.2.2.2.2.2.2.2.1 = false) := by
  have hs := nz_kind ho hk
  unfold coreM
  cases hq : sameO (origM a) (origM b) with
  | true =>
    have h1 : okU (stripU a) = true := ok_strip ho hs
    have h2 := ok_base h1
    exact ⟨baseU (stripU a), (okU_iff _).1 h2, h2, rfl, rfl, rfl, rfl, rfl, rfl, fun h => by cases h⟩
  | false =>
    obtain ⟨h1, h2, h3, h4, h5, h6, h7⟩ := put_root ho hs
    have hl := portS_le a.1
    refine ⟨onPath (a.1, [], [], a.2.2.2) [[]], ?_, h1, rfl, rfl, rfl, rfl, rfl, rfl, fun _ => ⟨rfl, rfl⟩⟩
    have e : origT (origM a) ++ [47] = putM (onPath (a.1, [], [], a.2.2.2) [[]]) := by
      rw [h7]
      unfold origT origM portOfM portT
      simp only
      rw [if_neg (by omega), if_pos h2]
      by_cases hp : a.2.2.2.2.1 < 0
      · rw [if_pos hp, if_pos ⟨hs, by omega⟩, if_pos rfl, if_neg (by omega)]
        simp
      · rw [if_neg hp, if_pos ⟨by omega, h5⟩, if_neg h6, if_pos (by omega)]
        simp
    simp only [Bool.false_eq_true, if_false]
    rw [e]
    exact (okU_iff _).1 h1
theorem law_FnRefer {n : Nat} (hn : 4194304 + 50 ≤ n) {code : List Int} (hc : ∀ x ∈ code, 0 ≤ x ∧ x ≤ 255) : c_laws_FnRefer n code = some (true, ()) := by
  obtain ⟨m, rfl⟩ := sn hn
  rw [eq_laws_FnRefer]; unfold m_laws_FnRefer
  rw [bif_dec]
  split
  · rfl
  rename_i hl
  obtain ⟨a, b, e, ha, hb⟩ := DrawRefer_ok (n := m) (code := code) (by omega) ⟨by omega, hc⟩
  have A := ha.bu
  have B := hb.bu
  simp only [e, Option.bind_some, impl_Refer_ok (n := m) (by omega) A B, spec_Refer_ok (n := m) (by omega) A B, beq_self_eq_true, Bool.not_true, cond_false]
  by_cases hz : referM a b = []
  · rw [hz]; rfl
  rw [show (referM a b == ([] : Bs)) = false by simpa using hz]
  have hall : okU a = true ∧ okU b = true ∧ ¬ a.2.2.2.1.1 = 0 ∧ ¬ b.2.2.2.1.1 = 0 ∧ ¬ (a.1 = [104, 116, 116, 112, 115] ∧ b.1 = [104, 116, 116, 112]) ∧ referM a b = coreM a b := by
    unfold referM at hz ⊢
    by_cases c1 : okU a = true
    · rw [if_pos c1] at hz ⊢
      by_cases c2 : okU b = true
      · rw [if_pos c2] at hz ⊢
        by_cases c3 : a.2.2.2.1.1 = 0
        · rw [if_pos c3] at hz; exact absurd rfl hz
        rw [if_neg c3] at hz ⊢
        by_cases c4 : b.2.2.2.1.1 = 0
        · rw [if_pos c4] at hz; exact absurd rfl hz
        rw [if_neg c4] at hz ⊢
        by_cases c5 : a.1 = [104, 116, 116, 112, 115]
        · rw [if_pos c5] at hz ⊢
          by_cases c6 : b.1 = [104, 116, 116, 112]
          · rw [if_pos c6] at hz; exact absurd rfl hz
          · rw [if_neg c6]; exact ⟨c1, c2, c3, c4, fun h => c6 h.2, rfl⟩
        · rw [if_neg c5]; exact ⟨c1, c2, c3, c4, fun h => c5 h.1, rfl⟩
      · rw [if_neg c2] at hz; exact absurd rfl hz
    · rw [if_neg c1] at hz; exact absurd rfl hz
  obtain ⟨oa, ob, ka, kb, hh, hr⟩ := hall
  rw [hr]
  obtain ⟨x, x0, x1, x2, x3, x4, x5, x6, x7, x8⟩ := refer_ok (b := b) oa ka
  have X := ok_bu x1
  have kx : ¬ x.2.2.2.1.1 = 0 := by rw [x5]; exact ka
  have so : sameO (origM x) (origM a) = true := by
    have : origM x = origM a := by unfold origM portOfM; rw [x2, x5, x6]
    rw [this]; exact sameO_refl _
  obtain ⟨p1, _⟩ := parseR_get (coreM a b)
  simp only [cond_false, impl_UrlGet_ok (n := m) (by omega), p1 x x0, Option.bind_some, Bool.not_true, x3, x4, x7, beq_self_eq_true, OriginSame_ok (n := m) (by omega) X A x1 oa kx ka, so, OriginSame_ok (n := m) (by omega) A B oa ob ka kb]
  have last : (bif sameO (origM a) (origM b) then some (true, ()) else bif decide ((x.2.2.2.2.2.1.length : Int) = (1 : Int)) then grd (decide (0 ≤ (0 : Int))) (grd (decide ((0 : Int) < (x.2.2.2.2.2.1.length : Int))) (bif (x.2.2.2.2.2.1.getD (0 : Int).toNat ([] : Bs)) == ([] : Bs) then some (!x.2.2.2.2.2.2.2.1, ()) else some (false, ()))) else some (false, ())) = some (true, ()) := by
    cases hq : sameO (origM a) (origM b) with
    | true => rfl
    | false =>
      obtain ⟨y1, y2⟩ := x8 hq
      rw [y1, y2]; rfl
  rw [last]
  by_cases c5 : a.1 = [104, 116, 116, 112, 115]
  · rw [show (a.1 == ([104, 116, 116, 112, 115] : Bs)) = true by rw [c5]; rfl]
    rw [show (b.1 == ([104, 116, 116, 112] : Bs)) = false by simpa using fun h => hh ⟨c5, h⟩]
    rfl
  · rw [show (a.1 == ([104, 116, 116, 112, 115] : Bs)) = false by simpa using c5]
    rfl
end Go.VM.T
