/- The plain law: what the models compute answers as the statement says. -/
import Derived.Test.YtbpkjhlbfjofhaaGreatDoorV7
set_option linter.unusedVariables false
set_option linter.unusedSimpArgs false
namespace Go.VM.T
open Go Go.VM
theorem str1 (x : Int) : (strOf [x]).length = 1 := rfl
theorem mark_go : ∀ (k : Nat) (out : Bs), out.length + k ≤ 90000000 → ∃ t : Bs, ∀ (n m : Nat), k < 2 ^ m → loopR (ml_markText.l0 n) (m + 1) ((k : Int), out, ()) = some (t, ())
 | 0, out, ho => by
  refine ⟨[109] ++ out, fun n m hm => ?_⟩
  show ml_markText.l0 n (loopR (ml_markText.l0 n) m) _ = _
  generalize loopR (ml_markText.l0 n) m = G
  unfold ml_markText.l0
  simp only [bif_dec, grd_dec]
  rw [if_neg (by omega), if_pos (by simp; omega)]
 | k + 1, out, ho => by
  obtain ⟨t, ht⟩ := mark_go ((k + 1) / 10) ((strOf ([(IntKind.u8.wrap (IntKind.i64.wrap ((48 : Int) + (((k + 1 : Nat) : Int).tmod (10 : Int)))))] : List Int)) ++ out) (by rw [List.length_append, str1]; omega)
  refine ⟨t, fun n m hm => ?_⟩
  obtain ⟨m, rfl⟩ : ∃ j, m = j + 1 := ⟨m - 1, by cases m with | zero => simp at hm | succ m => rfl⟩
  have hp : (2 : Nat) ^ (m + 1) = 2 ^ m * 2 := Nat.pow_succ ..
  rw [hp] at hm
  show ml_markText.l0 n (loopR (ml_markText.l0 n) (m + 1)) _ = _
  have h := ht n m (by omega)
  generalize loopR (ml_markText.l0 n) (m + 1) = G at h
  unfold ml_markText.l0
  have hd : ((k + 1 : Nat) : Int).tdiv 10 = (((k + 1) / 10 : Nat) : Int) := by rw [Int.tdiv_eq_ediv_of_nonneg (by omega)]; omega
  have hw : IntKind.i64.wrap ((((k + 1) / 10 : Nat) : Int)) = (((k + 1) / 10 : Nat) : Int) := w64 (by omega) (by omega)
  simp only [bif_dec, grd_dec, grd_ndec]
  rw [if_pos (by omega), if_neg (by omega), if_pos (by rw [str1]; omega), if_neg (by omega), hd, hw]
  exact h
theorem markT (k : Nat) : ∃ t : Bs, k ≤ 80000000 → ∀ n, 4194304 + 1 ≤ n → cl_markText n (k : Int) = some (t, ()) := by
 by_cases hk : k ≤ 80000000
 case neg => exact ⟨[], fun h => absurd h hk⟩
 cases k with
 | zero =>
  refine ⟨[109, 48], fun _ n hn => ?_⟩
  obtain ⟨m, rfl⟩ := sn hn
  rw [el_markText]; unfold ml_markText
  rw [bif_dec, if_pos (by omega)]
 | succ k =>
  obtain ⟨t, ht⟩ := mark_go (k + 1) [] (by simp; omega)
  refine ⟨t, fun _ n hn => ?_⟩
  obtain ⟨m, rfl⟩ := sn hn
  rw [el_markText]; unfold ml_markText
  rw [bif_dec, if_neg (by omega)]
  obtain ⟨j, rfl⟩ : ∃ j, m = j + 1 := ⟨m - 1, by omega⟩
  exact ht _ j (Nat.lt_of_lt_of_le (show k + 1 < 2 ^ 27 by omega) (Nat.pow_le_pow_right (by omega) (by omega)))
noncomputable def mk (k : Nat) : Bs := (markT k).choose
theorem mk_ok {n : Nat} (hn : 4194304 + 1 ≤ n) {k : Nat} (hk : k ≤ 80000000) : cl_markText n (k : Int) = some (mk k, ()) := (markT k).choose_spec hk n hn
noncomputable def marks : Nat → Nat → List Bs
 | _, 0 => []
 | k, m + 1 => mk k :: marks (k + 1) m
theorem marks_snoc : ∀ (m k : Nat), marks k (m + 1) = marks k m ++ [mk (k + m)]
 | 0, k => rfl
 | m + 1, k => by
  have := marks_snoc m (k + 1)
  show mk k :: marks (k + 1) (m + 1) = mk k :: marks (k + 1) m ++ [mk (k + (m + 1))]
  rw [this, show k + 1 + m = k + (m + 1) by omega]; rfl
theorem marks_len : ∀ (m k : Nat), (marks k m).length = m
 | 0, k => rfl
 | m + 1, k => by rw [marks, List.length_cons, marks_len m]
theorem marks_get : ∀ (m k i : Nat), i < m → (marks k m)[i]? = some (mk (k + i))
 | m + 1, k, 0, _ => rfl
 | m + 1, k, i + 1, h => by
  rw [marks, List.getElem?_cons_succ, marks_get m (k + 1) i (by omega), show k + 1 + i = k + (i + 1) by omega]
theorem markS_ok {n : Nat} (hn : 4194304 + 2 ≤ n) {l : List Bs} (hl : l.length ≤ 4000000) {k : Nat} (hk : k ≤ 40000000) : cl_markStringS n l (k : Int) = some (((k + l.length : Nat) : Int), marks k l.length, ()) := by
 obtain ⟨m, rfl⟩ := sn hn
 rw [el_markStringS]; unfold ml_markStringS
 refine loopS l (fun r i st q => st = (((k + i : Nat) : Int), (i : Int), marks k i ++ r, ()) ∧ q = (((k + l.length : Nat) : Int), marks k l.length, ())) ?_ ?_ ⟨rfl, rfl⟩ (by omega)
 ·rintro st q self ⟨rfl, rfl⟩
  unfold ml_markStringS.l0
  simp only [bif_dec, List.append_nil, marks_len]
  rw [if_neg (by omega)]
 ·rintro x r i st q self hd hi hx ⟨rfl, rfl⟩ ih
  unfold ml_markStringS.l0
  have hlen : (marks k i ++ x :: r).length = l.length := by
   have := congrArg List.length hd
   rw [List.length_append, marks_len]; simp at this ⊢; omega
  have hw : IntKind.i64.wrap (((k + i : Nat) : Int) + 1) = ((k + (i + 1) : Nat) : Int) := by rw [w64 (by omega) (by omega)]; omega
  simp only [bif_dec, grd_dec, hlen, mk_ok (n := m) (by omega) (show k + i ≤ 80000000 by omega), Option.bind_some, Int.toNat_natCast, hw, w_i (show i ≤ 4000000 by omega)]
  rw [if_pos (by omega), if_pos (by omega), if_pos (by omega), if_pos hi]
  refine ih _ ⟨?_, rfl⟩
  rw [set_app _ _ _ _ i (marks_len _ _), marks_snoc]; simp
theorem heldS_ok {n : Nat} (hn : 4194304 + 2 ≤ n) {z : Nat} (hl : z ≤ 4000000) {k : Nat} (hk : k ≤ 40000000) : cl_heldStringS n (marks k z) (k : Int) = some (((k + z : Nat) : Int), ()) := by
 obtain ⟨m, rfl⟩ := sn hn
 rw [el_heldStringS]; unfold ml_heldStringS
 have hz := marks_len z k
 refine loopS (marks k z) (fun r i st q => st = (((k + i : Nat) : Int), (i : Int), ()) ∧ q = (((k + z : Nat) : Int), ())) ?_ ?_ ⟨rfl, rfl⟩ (by omega)
 ·rintro st q self ⟨rfl, rfl⟩
  unfold ml_heldStringS.l0
  simp only [bif_dec]
  rw [if_neg (by omega), hz]
 ·rintro x r i st q self hd hi hx ⟨rfl, rfl⟩ ih
  have hx2 := marks_get z k i (by omega)
  rw [hx2] at hx
  obtain rfl := Option.some.inj hx
  unfold ml_heldStringS.l0
  have hw : IntKind.i64.wrap (((k + i : Nat) : Int) + 1) = ((k + (i + 1) : Nat) : Int) := by rw [w64 (by omega) (by omega)]; omega
  simp only [bif_dec, grd_dec, mk_ok (n := m) (by omega) (show k + i ≤ 80000000 by omega), Option.bind_some, Int.toNat_natCast, getD_get [] hx2, hw, w_i (show i ≤ 4000000 by omega), beq_self_eq_true, Bool.not_true, cond_false]
  rw [if_pos (by omega), if_pos (by omega), if_pos (by omega)]
  exact ih _ ⟨rfl, rfl⟩
theorem markUrl_ok {n : Nat} (hn : 4194304 + 3 ≤ n) {u : TUrl} (hl : u.2.2.2.2.2.1.length ≤ 4000000) {k : Nat} (hk : k ≤ 40000000) : cl_markUrl n u (k : Int) = some (((k + u.2.2.2.2.2.1.length : Nat) : Int), marks k u.2.2.2.2.2.1.length, ()) := by
 obtain ⟨m, rfl⟩ := sn hn
 rw [el_markUrl]; unfold ml_markUrl
 rw [markS_ok (by omega) hl hk]; rfl
theorem heldUrl_ok {n : Nat} (hn : 4194304 + 3 ≤ n) {u : TUrl} {z k : Nat} (hu : u.2.2.2.2.2.1 = marks k z) (hl : z ≤ 4000000) (hk : k ≤ 40000000) : cl_heldUrl n u (k : Int) = some (((k + z : Nat) : Int), ()) := by
 obtain ⟨m, rfl⟩ := sn hn
 rw [el_heldUrl]; unfold ml_heldUrl
 rw [hu, heldS_ok (by omega) hl hk]
 simp only [Option.bind_some, bif_dec]
 rw [if_neg (by omega)]
end Go.VM.T
namespace Go.VM.T
open Go Go.VM
theorem law_UrlBase {n : Nat} (hn : 4194304 + 40 ≤ n) {u : TUrl} (U : WU u) : cl_FnExactUrlBase n u = some (true, ()) := by
 obtain ⟨m, rfl⟩ := sn hn
 rw [el_FnExactUrlBase]; unfold ml_FnExactUrlBase
 rw [szUrl_ok (by omega) U (by omega) (by omega)]
 simp only [Option.bind_some]
 rw [bif_dec]
 by_cases g1 : leftM 1048576 (szU u) < 0
 ·rw [if_pos g1]
 rw [if_neg g1]
 obtain ⟨bu, k0, k1, pu⟩ := WU_BU U (by omega) g1
 have pb := BU_path4 (base_bu bu)
 have e1 : cl_markUrl m u (1 : Int) = _ := markUrl_ok (n := m) (k := 1) (by omega) pu (by omega)
 have e2 : cl_markUrl m (baseR u) (1 : Int) = _ := markUrl_ok (n := m) (k := 1) (by omega) pb (by omega)
 have e3 : ∀ v : TUrl, v.2.2.2.2.2.1 = marks 1 (baseR u).2.2.2.2.2.1.length → cl_heldUrl m v (1 : Int) = some (((1 + (baseR u).2.2.2.2.2.1.length : Nat) : Int), ()) := fun v hv => heldUrl_ok (n := m) (k := 1) (by omega) hv pb (by omega)
 have n1 : ∀ z : Nat, ¬ ((1 + z : Nat) : Int) < 0 := fun z => by omega
 simp only [toUrl_ok (n := m) (by omega) pu, spec_UrlBase_ok (n := m) (by omega) bu, impl_UrlBase_ok (n := m) (by omega) bu, eqUrl_refl (n := m) (by omega) pu, eqUrl_refl (n := m) (by omega) pb, e1, e2, Option.bind_some, Bool.not_true, cond_false, bif_dec, n1, if_false]
 rw [e3 _ rfl]
 simp only [Option.bind_some, bif_dec, n1, if_false, decide_true, Bool.not_true, cond_false]
end Go.VM.T
