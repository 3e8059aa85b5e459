/- The plain law: what the models compute answers as the statement says. -/
import Derived.Test.YtikanhlbhlcbjaaGreatDoorZ7
import Derived.Test.YtikanhlbhlcbjaaGreatDoorZ4
set_option linter.unusedVariables false
set_option linter.unusedSimpArgs false
namespace Go.VM.T
open Go Go.VM
theorem Trim_ok {n : Nat} (hn : 4194304 + 1 ≤ n) {s : Bs} (hs : s.length ≤ 4000000) : c_strings_Trim n s [32] = some (trimS s, ()) := by
 obtain ⟨m, rfl⟩ := sn hn
 rw [eq_strings_Trim]
 show (if s.length ≤ fits ∧ (32 : UInt8).toNat < 128 then some (Lib.trimB s 32, ()) else none) = _
 rw [if_pos ⟨by unfold fits; omega, by decide⟩, trim_lib]
theorem rsp_go {n : Nat} {k : Nat} {s : Bs} (hs : s.length ≤ 4000000) (hk : s.length < k) : loopR (ms_l7Trim.l0 n) k (s, ()) = some (rsp s, ()) := by
 refine loopR_ind (fun st => st.1.length) (fun st r => st.1.length ≤ 4000000 ∧ r = (rsp st.1, ())) ?_ k _ _ ⟨hs, rfl⟩ hk
 rintro ⟨l, ⟨⟩⟩ r self ⟨hl, rfl⟩ ih
 dsimp only at hl
 unfold ms_l7Trim.l0
 dsimp only
 rcases List.eq_nil_or_concat l with rfl | ⟨t, c, rfl⟩
 ·rfl
 ·have e1 : (t.concat c).length = t.length + 1 := by simp
  have e2 : IntKind.i64.wrap (((t.concat c).length : Int) - 1) = (t.length : Int) := by rw [e1, w64 (by omega) (by omega)]; omega
  rw [e2, bif_dec, if_pos (by omega), grd_dec, if_pos (by omega), grd_dec, if_pos (by omega), bt_get (c := c) (by simp), List.concat_eq_append, rsp_snoc, bif_dec]
  by_cases hc : c = 32
  ·subst hc
   have e3 : ((t ++ [(32 : UInt8)]).take ((t.length : Nat) : Int).toNat).drop 0 = t := by simp
   rw [if_pos rfl, if_pos (show (((32 : UInt8).toNat : Int) = 32) from rfl), grd_dec, if_pos (by omega), grd_dec, if_pos (by simp; omega), e3]
   exact (ih (t, ()) (by simp) ⟨by simp at hl ⊢; omega, by simp [rsp_snoc]⟩).trans (by simp [rsp_snoc])
  ·rw [if_neg hc, if_neg (show ¬ ((c.toNat : Int) = 32) from fun h => hc ((byte_is c 32 (by omega)).1 h))]
theorem l7Trim_ok {n : Nat} (hn : 4194304 + 1 ≤ n) {s : Bs} (hs : s.length ≤ 4000000) : cs_l7Trim n s = some (trimS s, ()) := by
 obtain ⟨m, rfl⟩ := sn hn
 rw [es_l7Trim]; unfold ms_l7Trim
 refine loopR_ind (fun st => st.1.length) (fun st r => st.1.length ≤ 4000000 ∧ r = (trimS st.1, ())) ?_ m _ _ ⟨hs, rfl⟩ (by dsimp only; omega)
 rintro ⟨l, ⟨⟩⟩ r self ⟨hl, rfl⟩ ih
 dsimp only at hl
 unfold ms_l7Trim.l2
 dsimp only
 have e0 : ms_l7Trim.l1 m = ms_l7Trim.l0 m := rfl
 cases l with
 | nil =>
  rw [bif_dec, if_neg (by simp), e0, rsp_go (by simp) (by simp; omega)]; rfl
 | cons c l =>
  have hl0 : (0 : Int) < ((c :: l).length : Int) := by rw [List.length_cons]; omega
  rw [bif_dec, if_pos hl0, grd_dec, if_pos (by omega), grd_dec, if_pos hl0, bt_0, bif_dec]
  by_cases hc : c = 32
  ·subst hc
   have e3 : (((32 : UInt8) :: l).take ((32 : UInt8) :: l).length).drop (1 : Int).toNat = l := by simp
   rw [if_pos (show (((32 : UInt8).toNat : Int) = 32) from rfl), grd_dec, if_pos (by omega), grd_dec, if_pos (by omega), e3]
   exact (ih (l, ()) (by simp) ⟨by simp at hl ⊢; omega, by simp [trimS, sp]⟩).trans (by simp [trimS, sp])
  ·rw [if_neg (show ¬ ((c.toNat : Int) = 32) from fun h => hc ((byte_is c 32 (by omega)).1 h)), rsp_go hl (by omega)]
   unfold trimS
   rw [List.dropWhile_cons, if_neg (show ¬ sp c = true by simp [sp, hc])]
theorem l7Pair_ok {n : Nat} (hn : 4194304 + 2 ≤ n) {s : Bs} (hs : s.length ≤ 3000000) : cs_l7Pair n s = some ((nvM s).1, (nvM s).2, ()) := by
 obtain ⟨m, rfl⟩ := sn hn
 rw [es_l7Pair]; unfold ms_l7Pair
 refine loopS s (fun rest i st r => st = ((i : Int), ()) ∧ r = ((nvM s).1, (nvM s).2, ()) ∧ s.drop i = rest ∧ cut1 61 s = (s.take i ++ (cut1 61 rest).1, (cut1 61 rest).2)) ?_ ?_ ⟨rfl, rfl, by simp, by simp⟩ (by omega)
 ·rintro st r self ⟨rfl, rfl, _, h⟩
  unfold ms_l7Pair.l0
  simp only [bif_dec]
  rw [if_neg (by omega), l7Trim_ok (by omega) (by omega)]
  unfold nvM
  rw [h]
  simp only [cut1, List.take_length, List.append_nil, Option.bind_some, Option.getD_none]
  rfl
 ·rintro c L i st r self hd hi hx ⟨rfl, rfl, hd2, h⟩ ih
  unfold ms_l7Pair.l0
  have hb := bt_get hx
  have i1 : (0 : Int) ≤ (i : Int) := by omega
  have i2 : (i : Int) < (s.length : Int) := by omega
  simp only [bif_dec, grd_dec, hb, i1, i2, if_true, w_i (show i ≤ 4000000 by omega)]
  by_cases hc : c = 61
  ·subst hc
   have e : L = s.drop (i + 1) := by
    have := congrArg List.tail hd
    simpa using this.symm
   rw [if_pos (show (((61 : UInt8).toNat : Int) = 61) from rfl), if_pos (by omega), l7Trim_ok (by omega) (by simp; omega), Option.bind_some, if_pos (by omega), if_pos (by omega), l7Trim_ok (by omega) (by simp; omega)]
   unfold nvM
   rw [h]
   simp [cut1, e]
  ·rw [if_neg (show ¬ ((c.toNat : Int) = 61) from fun h => hc ((byte_is c 61 (by omega)).1 h))]
   refine ih _ ⟨rfl, rfl, ?_, ?_⟩
   ·have := congrArg List.tail hd
    simpa using this
   ·rw [h, take_snoc hx]
    simp [cut1, hc]
theorem numL_snoc (l : Bs) (c : UInt8) : numL 0 (l ++ [c]) = numL 0 l * 10 + (c.toNat - 48) := by simp [numL]
theorem fig_take {s : Bs} {i : Nat} (hf : (s.take i).all figB = true) (hi : i ≤ 7) : numL 0 (s.take i) < 10000000 := by
 have h : (s.take i).length ≤ 7 := by simp; omega
 exact (num_ok _ 0 hf (pow7 h)).2
theorem fig_false {s : Bs} {i : Nat} {c : UInt8} (h : s[i]? = some c) (hc : figB c = false) : s.all figB = false := by
 rw [List.all_eq_false]; exact ⟨c, List.mem_of_getElem? h, by simp [hc]⟩
theorem l7Age_ok {n : Nat} (hn : 4194304 + 1 ≤ n) {s : Bs} (hs : s.length ≤ 4000000) : cs_l7Age n s = some (ageM s, ()) := by
 obtain ⟨m, rfl⟩ := sn hn
 rw [es_l7Age]; unfold ms_l7Age
 refine loopS s (fun _ i st r => st = ((numL 0 (s.take i) : Int), (i : Int), ()) ∧ r = (ageM s, ()) ∧ (s.take i).all figB = true ∧ i ≤ 7) ?_ ?_ ⟨rfl, rfl, by simp, by omega⟩ (by omega)
 ·rintro st r self ⟨rfl, rfl, hf, h7⟩
  unfold ms_l7Age.l0
  rw [List.take_length] at *
  have hn7 := (num_ok _ 0 hf (pow7 h7)).2
  simp only [bif_dec]
  rw [if_neg (by omega)]
  by_cases h0 : (s.length : Int) = 0
  ·rw [if_pos h0, ageM_neg (fun h => by omega)]
  ·rw [if_neg h0]
   by_cases hm : (1000000 : Int) < (numL 0 s : Int)
   ·rw [if_pos hm, ageM_neg (fun h => by omega)]
   ·rw [if_neg hm, ageM_pos ⟨hf, by omega, h7, by omega⟩]
 ·rintro c L i st r self hd hi hx ⟨rfl, rfl, hf, h7⟩ ih
  unfold ms_l7Age.l0
  have hb := bt_get hx
  have hc := byte_le c
  have i1 : (0 : Int) ≤ (i : Int) := by omega
  have i2 : (i : Int) < (s.length : Int) := by omega
  have hn7 := fig_take hf h7
  simp only [bif_dec, grd_dec, hb, i1, i2, if_true]
  by_cases c1 : (c.toNat : Int) < 48
  ·rw [if_pos c1, ageM_neg (fun h => by have := fig_false hx (by unfold figB; rw [decide_eq_false (by omega)]); rw [this] at h; exact absurd h.1 (by simp))]
  rw [if_neg c1]
  by_cases c2 : (57 : Int) < (c.toNat : Int)
  ·rw [if_pos c2, ageM_neg (fun h => by have := fig_false hx (by unfold figB; rw [decide_eq_false (by omega)]); rw [this] at h; exact absurd h.1 (by simp))]
  rw [if_neg c2]
  by_cases c3 : (7 : Int) ≤ (i : Int)
  ·rw [if_pos c3, ageM_neg (fun h => by omega)]
  rw [if_neg c3]
  refine ih _ ⟨?_, rfl, ?_, by omega⟩
  ·rw [take_snoc hx, numL_snoc, w8 (x := (c.toNat : Int) - 48) (by omega) (by omega), w64 (x := (c.toNat : Int) - 48) (by omega) (by omega), w64 (x := (numL 0 (s.take i) : Int) * 10) (by omega) (by omega), w64 (by omega) (by omega), w64 (by omega) (by omega)]
   simp only [Prod.mk.injEq, and_true]
   omega
  ·rw [take_snoc hx, List.all_append, hf]
   simp only [List.all_cons, List.all_nil, Bool.and_true, Bool.true_and]
   unfold figB; rw [decide_eq_true (by omega)]
theorem TrimPrefix_ok {n : Nat} (hn : 4194304 + 3 ≤ n) {v : Bs} (hv : v.length ≤ 4000000) : c_strings_TrimPrefix n v [46] = some (dot1 v, ()) := by
 obtain ⟨m, rfl⟩ := sn hn
 rw [eq_strings_TrimPrefix]; unfold m_strings_TrimPrefix
 obtain ⟨k, rfl⟩ := sn (n := m) (k := 2) (by omega)
 rw [eq_stringslite_TrimPrefix]; unfold m_stringslite_TrimPrefix dot1
 rw [stringslite_HasPrefix_ok (by omega)]
 simp only [Option.bind_some]
 cases h : ([46] : Bs).isPrefixOf v with
 | false => rfl
 | true =>
  have := (List.isPrefixOf_iff_prefix.1 h).length_le
  simp at this
  simp only [cond_true, grd_dec, if_true]
  rw [if_pos (by simp), if_pos (by simp; omega)]
  simp
theorem pre_head (v : Bs) (k : UInt8) (h : v ≠ []) : decide (bt v 0 = (k.toNat : Int)) = ([k] : Bs).isPrefixOf v := by
 cases v with
 | nil => exact absurd rfl h
 | cons c l =>
  rw [bt_0, Bool.eq_iff_iff]
  simp only [decide_eq_true_eq, List.isPrefixOf_iff_prefix, List.cons_prefix_cons, List.nil_prefix, and_true]
  constructor
  ·intro h; have : c.toNat = k.toNat := by omega
   exact (UInt8.toNat_inj.1 this).symm
  ·rintro rfl; rfl
theorem atoi_x {n : Nat} (hn : 4194304 + 1 ≤ n) {s : Bs} (hs : s.length ≤ 4000000) : ∃ v b, c_strconv_Atoi n s = some (v, b, ()) ∧ (s.all figB = true → 1 ≤ s.length → s.length ≤ 7 → v = (numL 0 s : Int) ∧ b = true) ∧ (s = [] → b = false) := by
 obtain ⟨m, rfl⟩ := sn hn
 rw [eq_strconv_Atoi]
 have e : x_strconv_Atoi (s, ()) = some (match Lib.atoiAll s with | .ok v => (v, true, ()) | .syntax => (0, false, ()) | .range => (Lib.atoiSat s, false, ())) := by
  show (if s.length ≤ fits then _ else none) = _
  rw [if_pos (by unfold fits; omega)]
  cases Lib.atoiAll s <;> rfl
 refine ⟨(match Lib.atoiAll s with | .ok v => (v, true, ()) | .syntax => (0, false, ()) | .range => (Lib.atoiSat s, false, ()) : Int × Bool × Unit).1, (match Lib.atoiAll s with | .ok v => (v, true, ()) | .syntax => (0, false, ()) | .range => (Lib.atoiSat s, false, ()) : Int × Bool × Unit).2.1, e, fun h1 h2 h3 => ?_, fun h => ?_⟩
 ·rw [atoi_fig h1 h2 h3]; exact ⟨rfl, rfl⟩
 ·subst h; rfl
theorem digB_fig (c : UInt8) : digB c = figB c := by
 have := u8_all (p := fun c => digB c == figB c) (by decide +kernel) c
 simpa using this
theorem set_ok {n : Nat} (hn : 4194304 + 4 ≤ n) (c : TCookie) {k v : Bs} (hv : v.length ≤ 3000000) {now : Int} (h0 : 0 ≤ now) (h1 : now ≤ 1000000) : ci_Cookie_set n c k v now = some (partM c now k v, ()) := by
 obtain ⟨m, rfl⟩ := sn hn
 rw [ei_Cookie_set]; unfold mi_Cookie_set partM
 simp only [beq_d, bif_dec, bif_ndec]
 rw [impl_Lower_ok (by omega) (by omega)]
 simp only [Option.bind_some]
 by_cases e1 : k = kDomain
 ·rw [if_pos e1, if_pos (show k = [100, 111, 109, 97, 105, 110] from e1)]
  by_cases e : v = []
  ·rw [if_pos e, if_pos e]
  ·rw [if_neg e, if_neg e, TrimPrefix_ok (by omega) (by rw [lowM_len]; omega), low_dot]; rfl
 rw [if_neg e1, if_neg (show ¬ k = [100, 111, 109, 97, 105, 110] from e1)]
 by_cases e2 : k = kPath
 ·rw [if_pos e2, if_pos (show k = [112, 97, 116, 104] from e2), strings_HasPrefix_ok (by omega)]
  simp only [Option.bind_some]
  cases ([47] : Bs).isPrefixOf v <;> rfl
 rw [if_neg e2, if_neg (show ¬ k = [112, 97, 116, 104] from e2)]
 by_cases e3 : k = kAge
 ·rw [if_pos e3, if_pos (show k = [109, 97, 120, 45, 97, 103, 101] from e3)]
  obtain ⟨z, b, ha, hz, hb⟩ := atoi_x (n := m) (s := v) (by omega) (by omega)
  rw [ha]
  simp only [Option.bind_some]
  have hag := ageM_r v
  refine loopS v (fun _ i st r => st = ((i : Int), ()) ∧ r = ((if 0 ≤ ageM v then (c.1, c.2.1, c.2.2.1, c.2.2.2.1, c.2.2.2.2.1, now + ageM v + 1, c.2.2.2.2.2.2) else c : TCookie), ()) ∧ (v.take i).all figB = true) ?_ ?_ ⟨rfl, rfl, by simp⟩ (by omega)
  ·rintro st r self ⟨rfl, rfl, hf⟩
   unfold mi_Cookie_set.l0
   rw [List.take_length] at hf
   simp only [bif_dec]
   rw [if_neg (by omega)]
   by_cases hl0 : v = []
   ·rw [hb hl0, ageM_neg (fun h => by subst hl0; simp at h)]; rfl
   have hl1 : 1 ≤ v.length := List.length_pos_iff.2 hl0
   by_cases h7 : v.length ≤ 7
   ·obtain ⟨rfl, rfl⟩ := hz hf hl1 h7
    simp only [cond_true]
    rw [if_pos (by omega)]
    by_cases hm : (numL 0 v : Int) ≤ 1000000
    ·rw [if_pos hm, ageM_pos ⟨hf, hl1, h7, by omega⟩, if_pos (by omega), w64 (x := now + (numL 0 v : Int)) (by omega) (by omega), w64 (by omega) (by omega)]
    ·rw [if_neg hm, ageM_neg (fun h => by omega)]; rfl
   ·rw [ageM_neg (fun h => by omega), if_neg (by omega)]
    cases b <;> rfl
  ·rintro d L i st r self hd hi hx ⟨rfl, rfl, hf⟩ ih
   unfold mi_Cookie_set.l0
   have hbt := bt_get hx
   simp only [bif_dec, grd_dec, hbt, w_i (show i ≤ 4000000 by omega)]
   rw [if_pos (by omega), if_pos (by omega), if_pos (by omega), impl_isDigit_ok (by omega)]
   simp only [Option.bind_some, digB_fig]
   cases hfd : figB d with
   | false =>
    rw [ageM_neg (fun h => by rw [fig_false hx hfd] at h; exact absurd h.1 (by simp))]
    rfl
   | true =>
    refine ih _ ⟨rfl, rfl, ?_⟩
    rw [take_snoc hx, List.all_append, hf]
    simp [hfd]
 rw [if_neg e3, if_neg (show ¬ k = [109, 97, 120, 45, 97, 103, 101] from e3)]
 by_cases e4 : k = kSecure
 ·rw [if_pos e4, if_pos (show k = [115, 101, 99, 117, 114, 101] from e4)]
 rw [if_neg e4, if_neg (show ¬ k = [115, 101, 99, 117, 114, 101] from e4)]
 by_cases e5 : k = kSame
 ·rw [if_pos e5, if_pos (show k = [115, 97, 109, 101, 115, 105, 116, 101] from e5)]
  by_cases g1 : lowM v = kNone
  ·rw [if_pos g1, if_pos (show lowM v = [110, 111, 110, 101] from g1)]
  rw [if_neg g1, if_neg (show ¬ lowM v = [110, 111, 110, 101] from g1)]
  by_cases g2 : lowM v = kStrict
  ·rw [if_pos g2, if_pos (show lowM v = [115, 116, 114, 105, 99, 116] from g2)]
  rw [if_neg g2, if_neg (show ¬ lowM v = [115, 116, 114, 105, 99, 116] from g2)]
 rw [if_neg e5, if_neg (show ¬ k = [115, 97, 109, 101, 115, 105, 116, 101] from e5)]
theorem l7Part_ok {n : Nat} (hn : 4194304 + 4 ≤ n) (c : TCookie) {k v : Bs} (hk : k.length ≤ 3000000) (hv : v.length ≤ 3000000) {now : Int} (h0 : 0 ≤ now) (h1 : now ≤ 1000000) : cs_l7Part n c now k v = some (partM c now (lowM k) v, ()) := by
 obtain ⟨m, rfl⟩ := sn hn
 rw [es_l7Part]; unfold ms_l7Part partM
 rw [spec_Lower_ok (by omega) (by omega)]
 simp only [Option.bind_some, beq_d, bif_dec, bif_ndec]
 rw [spec_Lower_ok (n := m) (s := v) (by omega) (by omega), spec_Lower_ok (n := m) (s := (v.take v.length).drop (1 : Int).toNat) (by omega) (by simp; omega), l7Age_ok (by omega) (by omega)]
 simp only [Option.bind_some, grd_dec]
 have hag := ageM_r v
 by_cases e1 : lowM k = kDomain
 ·rw [if_pos e1, if_pos (show lowM k = [100, 111, 109, 97, 105, 110] from e1)]
  by_cases e : v = []
  ·rw [if_pos e, if_pos e]
  ·have hl : 1 ≤ v.length := List.length_pos_iff.2 e
   rw [if_neg e, if_neg e, if_pos (by omega), if_pos (by omega)]
   have hp := pre_head v 46 e
   unfold dot1
   rw [← hp]
   by_cases g : bt v 0 = 46
   ·rw [if_pos g, if_pos (by omega), if_pos (by omega), if_pos (by simpa using g)]; simp
   ·rw [if_neg g, if_neg (by simpa using g)]
 rw [if_neg e1, if_neg (show ¬ lowM k = [100, 111, 109, 97, 105, 110] from e1)]
 by_cases e2 : lowM k = kPath
 ·rw [if_pos e2, if_pos (show lowM k = [112, 97, 116, 104] from e2)]
  by_cases e : v = []
  ·subst e; rfl
  ·have hl : 1 ≤ v.length := List.length_pos_iff.2 e
   rw [if_neg e, if_pos (by omega), if_pos (by omega)]
   have hp := pre_head v 47 e
   rw [← hp]
   by_cases g : bt v 0 = 47
   ·rw [if_pos g, if_pos (by simpa using g)]
   ·rw [if_neg g, if_neg (by simpa using g)]
 rw [if_neg e2, if_neg (show ¬ lowM k = [112, 97, 116, 104] from e2)]
 by_cases e3 : lowM k = kAge
 ·rw [if_pos e3, if_pos (show lowM k = [109, 97, 120, 45, 97, 103, 101] from e3)]
  by_cases g : 0 ≤ ageM v
  ·rw [if_pos g, if_pos g, w64 (x := now + ageM v) (by omega) (by omega), w64 (by omega) (by omega)]
  ·rw [if_neg g, if_neg g]
 rw [if_neg e3, if_neg (show ¬ lowM k = [109, 97, 120, 45, 97, 103, 101] from e3)]
 by_cases e4 : lowM k = kSecure
 ·rw [if_pos e4, if_pos (show lowM k = [115, 101, 99, 117, 114, 101] from e4)]
 rw [if_neg e4, if_neg (show ¬ lowM k = [115, 101, 99, 117, 114, 101] from e4)]
 by_cases e5 : lowM k = kSame
 ·rw [if_pos e5, if_pos (show lowM k = [115, 97, 109, 101, 115, 105, 116, 101] from e5)]
  by_cases g1 : lowM v = kNone
  ·rw [if_pos g1, if_pos (show lowM v = [110, 111, 110, 101] from g1)]
  rw [if_neg g1, if_neg (show ¬ lowM v = [110, 111, 110, 101] from g1)]
  by_cases g2 : lowM v = kStrict
  ·rw [if_pos g2, if_pos (show lowM v = [115, 116, 114, 105, 99, 116] from g2)]
  rw [if_neg g2, if_neg (show ¬ lowM v = [115, 116, 114, 105, 99, 116] from g2)]
 rw [if_neg e5, if_neg (show ¬ lowM k = [115, 97, 109, 101, 115, 105, 116, 101] from e5)]
end Go.VM.T
namespace Go.VM.T
open Go Go.VM
theorem bkc {c : TCookie} (B : BK c) : BC c := ⟨B.name, B.val, B.dom⟩
theorem getD_at {ps : List Bs} {i : Nat} {p : Bs} (h : ps[i]? = some p) : ps.getD ((i : Int)).toNat ([] : Bs) = p := by
 rw [List.getD_eq_getElem?_getD, Int.toNat_natCast, h]; rfl
theorem nv_len (p : Bs) : (nvM p).1.length ≤ p.length ∧ (nvM p).2.length ≤ p.length := ⟨Nat.le_trans (trimS_len _) (cut1_len2 61 p).1, Nat.le_trans (trimS_len _) (cut1_len2 61 p).2⟩
theorem go_impl {n : Nat} (hn : 4194304 + 32 ≤ n) {ps : List Bs} {u : TUrl} {host : Bs} (hps : ∀ p ∈ ps, p.length ≤ 200) (hl : ps.length ≤ 1000) (hh : host.length ≤ 1000) {now : Int} (h0 : 0 ≤ now) (h1 : now ≤ 1000000) :
  ∀ (rest : List Bs) (i k : Nat) (c : TCookie), ps.drop i = rest → 1 ≤ i → i ≤ ps.length → BK c → rest.length < k →
   loopR (mi_CookieGet.l0 n (ps, ()) now (host, ()) u) k ((i : Int), c, ()) = some ((endM u.1 host (rest.foldl (stepC now) c)).1, (endM u.1 host (rest.foldl (stepC now) c)).2, ())
 | rest, i, 0, c, _, _, _, _, hk => absurd hk (Nat.not_lt_zero _)
 | [], i, k + 1, c, hd, hi, hle, B, hk => by
  have hil := at_nil hle hd
  have b1 := B.name
  have b2 := B.val
  have b3 := B.dom
  rw [loopR]
  generalize hG : loopR (mi_CookieGet.l0 n (ps, ()) now (host, ()) u) k = G
  unfold mi_CookieGet.l0
  dsimp only
  rw [bif_dec, if_neg (by omega)]
  simp only [isToken_ok (n := n) (s := c.1) (by omega) (by omega), isToken_ok (n := n) (s := c.2.1) (by omega) (by omega), impl_DomainIn_ok (n := n) (h := host) (d := c.2.2.1) (by omega) (by omega) (by omega), impl_labels_ok (n := n) (s := c.2.2.1) (by omega) (by omega), prefixOk_ok (n := n) (c := c) (by omega), impl_CookieOk_ok (n := n) (by omega) (bkc B), Option.bind_some, List.foldl_nil]
  unfold endM
  generalize tokM c.1 = t1
  generalize tokM c.2.1 = t2
  generalize (c.1 == ([] : Bs)) = e
  generalize domM host c.2.2.1 = d
  generalize decide (((labelsM c.2.2.1).length : Int) < 2) = l
  generalize (u.1 == ([104,116,116,112,115] : Bs)) = hs
  generalize decide (c.2.2.2.2.2.2.2.1 = 0) = s0
  generalize prefM c = pr
  generalize okCookie c = ok
  generalize c.2.2.2.1 = al
  generalize c.2.2.2.2.2.2.1 = sf
  cases t1 with
  | false => rfl
  | true => cases t2 with
   | false => rfl
   | true => cases e with
    | true => rfl
    | false => cases al <;> cases d <;> cases l <;> cases sf <;> cases hs <;> cases s0 <;> cases pr <;> cases ok <;> rfl
 | p :: l, i, k + 1, c, hd, hi, hle, B, hk => by
  obtain ⟨hlt, hx, hd2⟩ := at_cons hd
  have hp := hps p (List.mem_of_getElem? hx)
  have hnv : (trimS (cut1 61 p).1).length ≤ p.length ∧ (trimS ((cut1 61 p).2.getD [])).length ≤ p.length := nv_len p
  have hc1 := cut1_len 61 p
  rw [loopR]
  generalize hG : loopR (mi_CookieGet.l0 n (ps, ()) now (host, ()) u) k = G
  unfold mi_CookieGet.l0
  dsimp only
  rw [bif_dec, if_pos (by omega), grd_dec, if_pos (by omega), grd_dec, if_pos (by omega), getD_at hx, strings_Cut_ok (by omega) (by omega), Option.bind_some]
  dsimp only
  rw [Trim_ok (by omega) (by omega), Option.bind_some, Trim_ok (by omega) (by omega), Option.bind_some, bif_dec, if_neg (by omega)]
  dsimp only
  rw [impl_Lower_ok (by omega) (Nat.le_trans hnv.1 (by omega)), Option.bind_some]
  dsimp only
  rw [set_ok (by omega) c (Nat.le_trans hnv.2 (by omega)) h0 h1, Option.bind_some, w_i (by omega)]
  rw [← hG]
  exact go_impl hn hps hl hh h0 h1 l (i + 1) k (stepC now c p) hd2 (by omega) (by omega) (part_bk B now (Nat.le_trans hnv.2 (by omega))) (by simp at hk; omega)
theorem go_spec {n : Nat} (hn : 4194304 + 32 ≤ n) {ps : List Bs} {u : TUrl} {host : Bs} (hps : ∀ p ∈ ps, p.length ≤ 200) (hl : ps.length ≤ 1000) (hh : host.length ≤ 1000) {now : Int} (h0 : 0 ≤ now) (h1 : now ≤ 1000000) :
  ∀ (rest : List Bs) (i k : Nat) (c : TCookie), ps.drop i = rest → 1 ≤ i → i ≤ ps.length → BK c → rest.length < k →
   loopR (ms_CookieGet.l0 n (ps, ()) now (host, ()) u) k ((i : Int), c, ()) = some ((endM u.1 host (rest.foldl (stepC now) c)).1, (endM u.1 host (rest.foldl (stepC now) c)).2, ())
 | rest, i, 0, c, _, _, _, _, hk => absurd hk (Nat.not_lt_zero _)
 | [], i, k + 1, c, hd, hi, hle, B, hk => by
  have hil := at_nil hle hd
  have b1 := B.name
  have b2 := B.val
  have b3 := B.dom
  rw [loopR]
  generalize hG : loopR (ms_CookieGet.l0 n (ps, ()) now (host, ()) u) k = G
  unfold ms_CookieGet.l0
  dsimp only
  rw [bif_dec, if_neg (by omega)]
  simp only [l7Crumb_ok (n := n) (s := c.1) (by omega) (by omega), l7Crumb_ok (n := n) (s := c.2.1) (by omega) (by omega), spec_DomainIn_ok (n := n) (h := host) (d := c.2.2.1) (by omega) (by omega) (by omega), spec_l2Parts_ok (n := n) (s := c.2.2.1) (by omega) (by omega), l7Prefix_ok (n := n) (c := c) (by omega), spec_CookieOk_ok (n := n) (by omega) (bkc B), Option.bind_some, List.foldl_nil]
  unfold endM
  generalize tokM c.1 = t1
  generalize tokM c.2.1 = t2
  generalize (c.1 == ([] : Bs)) = e
  generalize domM host c.2.2.1 = d
  generalize decide (((labelsM c.2.2.1).length : Int) < 2) = l
  generalize (u.1 == ([104,116,116,112,115] : Bs)) = hs
  generalize decide (c.2.2.2.2.2.2.2.1 = 0) = s0
  generalize prefM c = pr
  generalize okCookie c = ok
  generalize c.2.2.2.1 = al
  generalize c.2.2.2.2.2.2.1 = sf
  cases t1 with
  | false => cases e <;> rfl
  | true => cases t2 with
   | false => cases e <;> rfl
   | true => cases e with
    | true => rfl
    | false => cases al <;> cases d <;> cases l <;> cases sf <;> cases hs <;> cases s0 <;> cases pr <;> cases ok <;> rfl
 | p :: l, i, k + 1, c, hd, hi, hle, B, hk => by
  obtain ⟨hlt, hx, hd2⟩ := at_cons hd
  have hp := hps p (List.mem_of_getElem? hx)
  have hnv := nv_len p
  rw [loopR]
  generalize hG : loopR (ms_CookieGet.l0 n (ps, ()) now (host, ()) u) k = G
  unfold ms_CookieGet.l0
  dsimp only
  rw [bif_dec, if_pos (by omega), grd_dec, if_pos (by omega), grd_dec, if_pos (by omega), getD_at hx, l7Pair_ok (by omega) (by omega), Option.bind_some]
  dsimp only
  rw [l7Part_ok (by omega) c (Nat.le_trans hnv.1 (by omega)) (Nat.le_trans hnv.2 (by omega)) h0 h1, Option.bind_some, w_i (by omega)]
  rw [← hG]
  exact go_spec hn hps hl hh h0 h1 l (i + 1) k (stepC now c p) hd2 (by omega) (by omega) (part_bk B now (Nat.le_trans hnv.2 (by omega))) (by simp at hk; omega)
def getU (u : TUrl) (t : Bs) (now : Int) : TCookie × Int := cookieM (okU u) u.2.2.2.1.1 u.1 (putH u.2.2.2.1) (pathOfM u) t now
theorem start_bk {host path : Bs} {now : Int} {p : Bs} (hp : p.length ≤ 200) (hh : host.length ≤ 1000) : BK (startC host path now p) :=
 ⟨Nat.le_trans (nv_len p).1 (by omega), Nat.le_trans (nv_len p).2 (by omega), hh⟩
theorem parts_of {t : Bs} (ht : t.length ≤ 200) : ∃ p l, cutM 59 t = p :: l ∧ (∀ q ∈ cutM 59 t, q.length ≤ 200) ∧ (cutM 59 t).length ≤ 1000 := by
 have h1 := cut_len_pos 59 t
 have h2 := cutM_len 59 t
 cases h : cutM 59 t with
 | nil => rw [h] at h1; simp at h1
 | cons p l => exact ⟨p, l, rfl, fun q hq => Nat.le_trans (cutM_sub 59 t q (h ▸ hq)) ht, by rw [← h]; omega⟩
theorem impl_CookieGet_ok {n : Nat} (hn : 4194304 + 34 ≤ n) {u : TUrl} (hu : BU u) (t : Bs) (now : Int) : ci_CookieGet n u t now = some ((getU u t now).1, (getU u t now).2, ()) := by
 obtain ⟨m, rfl⟩ := sn hn
 rw [ei_CookieGet]; unfold mi_CookieGet getU cookieM
 rw [impl_UrlOk_ok (by omega) hu, Option.bind_some]
 dsimp only
 cases okU u with
 | false => rfl
 | true =>
 cases decide (u.2.2.2.1.1 = 0) with
 | true => rfl
 | false =>
 simp only [Bool.not_true, cond_false, Bool.false_or]
 cases hlen : decide ((200 : Int) < (t.length : Int)) with
 | true => simp only [cond_true, Bool.or_true]; rfl
 | false =>
 have ht : t.length ≤ 200 := by have := of_decide_eq_false hlen; omega
 simp only [cond_false, Bool.or_false]
 rw [impl_in_ok (by omega), Option.bind_some]
 dsimp only
 cases hin : decide (0 ≤ now ∧ now ≤ 1000000) with
 | false => rfl
 | true =>
 obtain ⟨h0, h1⟩ := of_decide_eq_true hin
 simp only [Bool.not_true, cond_false]
 have hh := putH_short u.2.2.2.1
 obtain ⟨p, l, hps, hq, hl⟩ := parts_of ht
 rw [impl_HostPut_ok (n := m) (h := u.2.2.2.1) (by omega) (host_b hu), Option.bind_some, impl_PathOf_ok (by omega) hu, Option.bind_some, strings_Split_ok (by omega) (by omega), Option.bind_some]
 dsimp only
 have hx : (cutM 59 t)[0]? = some p := by rw [hps]; rfl
 have hp := hq p (List.mem_of_getElem? hx)
 have hnv := nv_len p
 have hc1 := cut1_len 61 p
 obtain ⟨k, rfl⟩ : ∃ k, m = k + 1 := ⟨m - 1, by omega⟩
 unfold getC
 rw [show loopR (mi_CookieGet.l0 (k + 1) (cutM 59 t, ()) now (putH u.2.2.2.1, ()) u) (k + 1) = mi_CookieGet.l0 (k + 1) (cutM 59 t, ()) now (putH u.2.2.2.1, ()) u (loopR (mi_CookieGet.l0 (k + 1) (cutM 59 t, ()) now (putH u.2.2.2.1, ()) u) k) from rfl]
 generalize hG : loopR (mi_CookieGet.l0 (k + 1) (cutM 59 t, ()) now (putH u.2.2.2.1, ()) u) k = G
 unfold mi_CookieGet.l0
 dsimp only
 have hpos : 0 < (cutM 59 t).length := by rw [hps]; simp
 have hg := getD_at hx
 rw [show ((0 : Nat) : Int) = 0 from rfl] at hg
 rw [bif_dec, if_pos (by omega), grd_dec, if_pos (by omega), grd_dec, if_pos (by omega), hg, strings_Cut_ok (by omega) (by omega), Option.bind_some]
 dsimp only
 rw [Trim_ok (by omega) (by omega), Option.bind_some, Trim_ok (by omega) (by omega), Option.bind_some, bif_dec, if_pos rfl]
 have hw : IntKind.i64.wrap ((0 : Int) + 1) = ((1 : Nat) : Int) := w64 (by omega) (by omega)
 rw [hw, ← hG]
 have key := go_impl (n := k + 1) (ps := cutM 59 t) (u := u) (host := putH u.2.2.2.1) (by omega) hq hl (by omega) h0 h1 l 1 k (startC (putH u.2.2.2.1) (pathOfM u) now p) (by rw [hps]; rfl) (by omega) (by omega) (start_bk hp (by omega)) (by rw [hps] at hl; simp at hl; omega)
 rw [hps] at key ⊢
 exact key
theorem spec_CookieGet_ok {n : Nat} (hn : 4194304 + 34 ≤ n) {u : TUrl} (hu : BU u) (t : Bs) (now : Int) : cs_CookieGet n u t now = some ((getU u t now).1, (getU u t now).2, ()) := by
 obtain ⟨m, rfl⟩ := sn hn
 rw [es_CookieGet]; unfold ms_CookieGet getU cookieM
 rw [spec_UrlOk_ok (by omega) hu, Option.bind_some]
 dsimp only
 cases okU u with
 | false => rfl
 | true =>
 cases decide (u.2.2.2.1.1 = 0) with
 | true => rfl
 | false =>
 simp only [Bool.not_true, cond_false, Bool.false_or]
 rw [spec_l1In_ok (by omega), Option.bind_some]
 dsimp only
 cases hin : decide (0 ≤ now ∧ now ≤ 1000000) with
 | false => rfl
 | true =>
 obtain ⟨h0, h1⟩ := of_decide_eq_true hin
 simp only [Bool.not_true, cond_false, Bool.false_or]
 cases hlen : decide ((200 : Int) < (t.length : Int)) with
 | true => rfl
 | false =>
 have ht : t.length ≤ 200 := by have := of_decide_eq_false hlen; omega
 simp only [cond_false]
 have hh := putH_short u.2.2.2.1
 obtain ⟨p, l, hps, hq, hl⟩ := parts_of ht
 have h59 : cs_l7Cut m t 59 = some (cutM 59 t, ()) := l7Cut_ok (n := m) (by omega) (by omega) 59
 rw [h59, Option.bind_some, spec_HostPut_ok (n := m) (h := u.2.2.2.1) (by omega) (host_b hu), Option.bind_some, spec_PathOf_ok (by omega) hu, Option.bind_some]
 dsimp only
 have hx : (cutM 59 t)[0]? = some p := by rw [hps]; rfl
 have hp := hq p (List.mem_of_getElem? hx)
 have hpos : 0 < (cutM 59 t).length := by rw [hps]; simp
 have hg := getD_at hx
 rw [show ((0 : Nat) : Int) = 0 from rfl] at hg
 rw [grd_dec, if_pos (by omega), grd_dec, if_pos (by omega), hg, l7Pair_ok (by omega) (by omega), Option.bind_some]
 unfold getC
 have key := go_spec (n := m) (ps := cutM 59 t) (u := u) (host := putH u.2.2.2.1) (by omega) hq hl (by omega) h0 h1 l 1 m (startC (putH u.2.2.2.1) (pathOfM u) now p) (by rw [hps]; rfl) (by omega) (by omega) (start_bk hp (by omega)) (by rw [hps] at hl; simp at hl; omega)
 rw [hps] at key ⊢
 exact key
theorem getU_bk {u : TUrl} (t : Bs) (now : Int) : BK (getU u t now).1 := by
 unfold getU cookieM
 cases h : (!okU u || (decide (u.2.2.2.1.1 = 0) || (!decide (0 ≤ now ∧ now ≤ 1000000) || decide ((200 : Int) < (t.length : Int))))) with
 | true => exact null_bk
 | false =>
  simp only [Bool.or_eq_false_iff] at h
  have ht : t.length ≤ 200 := by have := of_decide_eq_false h.2.2.2; omega
  obtain ⟨p, l, hps, hq, hl⟩ := parts_of ht
  have hh := putH_short u.2.2.2.1
  refine end_bk (fold_bk now (start_bk ?_ (by omega)) fun q hq2 => ?_)
  ·rw [hps]; exact hq p (by rw [hps]; simp)
  ·rw [hps] at hq2
   exact Nat.le_trans (hq q (by rw [hps]; simp at hq2 ⊢; exact .inr hq2)) (by omega)
theorem getU_zero {u : TUrl} {t : Bs} {now : Int} (h : (getU u t now).2 = 0) : okU u = true ∧ decide (u.2.2.2.1.1 = 0) = false ∧ okCookie (getU u t now).1 = true ∧ (getU u t now).1.2.2.2.2.2.2.2.2.1 = now ∧
  ((getU u t now).1.2.2.2.1 = true → (getU u t now).1.2.2.1 = putH u.2.2.2.1) ∧ ((getU u t now).1.2.2.2.1 = false → domM (putH u.2.2.2.1) (getU u t now).1.2.2.1 = true ∧ 2 ≤ (labelsM (getU u t now).1.2.2.1).length) ∧
  ((getU u t now).1.2.2.2.2.2.2.1 = true → (u.1 == httpsB) = true) ∧ (0 ≤ now ∧ now ≤ 1000000) := by
 unfold getU cookieM at h ⊢
 cases hb : (!okU u || (decide (u.2.2.2.1.1 = 0) || (!decide (0 ≤ now ∧ now ≤ 1000000) || decide ((200 : Int) < (t.length : Int))))) with
 | true => rw [hb] at h; cases h
 | false =>
  rw [hb] at h
  simp only [cond_false] at h ⊢
  simp only [Bool.or_eq_false_iff, Bool.not_eq_false'] at hb
  unfold getC at h ⊢
  obtain ⟨e1, e2, e3, e4⟩ := end_zero h
  obtain ⟨f1, f2⟩ := fold_keep now (cutM 59 t).tail (startC (putH u.2.2.2.1) (pathOfM u) now ((cutM 59 t).headD []))
  rw [e1]
  exact ⟨hb.1, hb.2.1, e2, f1, fun ha => (f2 ha).2, e3, e4, of_decide_eq_true hb.2.2.1⟩
end Go.VM.T
namespace Go.VM.T
open Go Go.VM
theorem many_go {n : Nat} : ∀ (k m : Nat) (a c : Bs) (v : Int), k < m → 0 ≤ v → v < ((2 ^ k : Nat) : Int) → k ≤ 10 → a.length * 2 ^ k ≤ 1000000 → c.length ≤ a.length → ∃ r, loopR (ms_l1Many.l0 n) m (a, v, c, ()) = some (r, ())
 | 0, m + 1, a, c, v, _, h0, h1, _, _, _ => by
  show ∃ r, ms_l1Many.l0 n (loopR (ms_l1Many.l0 n) m) _ = _
  unfold ms_l1Many.l0
  simp only [bif_dec]
  rw [if_neg (by simp at h1; omega)]
  exact ⟨_, rfl⟩
 | k + 1, m + 1, a, c, v, hm, h0, h1, hk, h2, h3 => by
  show ∃ r, ms_l1Many.l0 n (loopR (ms_l1Many.l0 n) m) _ = _
  generalize hG : loopR (ms_l1Many.l0 n) m = G
  unfold ms_l1Many.l0
  have hp : (2 : Nat) ^ (k + 1) = 2 ^ k * 2 := Nat.pow_succ ..
  have hpos : 1 ≤ 2 ^ k := Nat.one_le_two_pow
  have h11 : 2 ^ (k + 1) ≤ 2 ^ 11 := Nat.pow_le_pow_right (by omega) (by omega)
  have ha : a.length ≤ a.length * 2 ^ (k + 1) := Nat.le_mul_of_pos_right _ (by omega)
  have hd : v.tdiv 2 = v / 2 := Int.tdiv_eq_ediv_of_nonneg h0
  have hq : (a ++ a).length * 2 ^ k = a.length * 2 ^ (k + 1) := by rw [List.length_append, hp, ← Nat.two_mul, Nat.mul_comm 2, Nat.mul_assoc, Nat.mul_comm 2]
  rw [hp] at h1 h11
  have hv : v / 2 < ((2 ^ k : Nat) : Int) := by omega
  have hb : v < 2048 := by omega
  have ih : ∀ c' : Bs, c'.length ≤ a.length + a.length → ∃ r, G (a ++ a, v / 2, c', ()) = some (r, ()) := fun c' hc => by
   rw [← hG]
   exact many_go k m (a ++ a) c' (v / 2) (by omega) (by omega) hv (by omega) (by rw [hq]; exact h2) (by rw [List.length_append]; exact hc)
  simp only [bif_dec, grd_dec, grd_ndec, hd]
  by_cases hv0 : 0 < v
  ·rw [if_pos hv0]
   rw [show IntKind.i64.wrap (v / 2) = v / 2 from w64 (by omega) (by omega)]
   simp only [show ((2 : Int) = 0) = False by simp, if_false]
   split
   ·rw [if_pos (by omega), if_pos (by omega)]
    exact ih _ (by rw [List.length_append]; omega)
   ·rw [if_pos (by omega)]
    exact ih _ (by omega)
  ·rw [if_neg hv0]; exact ⟨_, rfl⟩
 | 0, 0, _, _, _, h, _, _, _, _, _ => absurd h (Nat.not_lt_zero _)
 | _ + 1, 0, _, _, _, h, _, _, _, _, _ => absurd h (Nat.not_lt_zero _)
theorem many_ok {n : Nat} (hn : 4194304 + 1 ≤ n) {v : Int} (h0 : 0 ≤ v) (h1 : v ≤ 1000) {a : Bs} (ha : a.length ≤ 10) : ∃ r, cs_l1Many n a v = some (r, ()) := by
 obtain ⟨m, rfl⟩ := sn hn
 rw [es_l1Many]; unfold ms_l1Many
 exact many_go 10 m a [] v (by omega) h0 (by omega) (Nat.le_refl _) (by omega) (by simp)
theorem lastIx_get (c : UInt8) : ∀ l : Bs, 0 ≤ lastIx c l → l[(lastIx c l).toNat]? = some c
 | [], h => by simp [lastIx] at h
 | x :: l, h => by
  by_cases q : 0 ≤ lastIx c l
  ·have e : lastIx c (x :: l) = lastIx c l + 1 := by simp only [lastIx]; rw [if_pos q]
   rw [e, show (lastIx c l + 1).toNat = (lastIx c l).toNat + 1 by omega, List.getElem?_cons_succ]
   exact lastIx_get c l q
  ·have e : lastIx c (x :: l) = if x = c then 0 else -1 := by simp only [lastIx]; rw [if_neg q]
   rw [e] at h ⊢
   split at h
   ·rename_i hx; rw [if_pos hx]; simp [hx]
   ·omega
theorem path_head {P : List Bs} (h : P ≠ []) : ∃ r, pathM P = 47 :: r := by
 cases P with
 | nil => exact absurd rfl h
 | cons s l => exact ⟨_, rfl⟩
theorem cutPath_ok {P : List Bs} (h : P ≠ []) : ∃ r, pathM P = cutPathM P ++ r ∧ (∃ q, cutPathM P = 47 :: q) ∧ (cutPathM P = [47] ∨ r = [] ∨ r[0]? = some 47) := by
 obtain ⟨t, ht⟩ := path_head h
 have hs : slashM P = pathM P := by unfold slashM; rw [if_neg (by rw [ht]; simp)]
 unfold cutPathM
 rw [hs]
 have hr := lastIx_range 47 (pathM P)
 by_cases q : 0 < lastIx 47 (pathM P)
 ·rw [if_pos q]
  have hg := lastIx_get 47 (pathM P) (by omega)
  refine ⟨(pathM P).drop (lastIx 47 (pathM P)).toNat, (List.take_append_drop _ _).symm, ?_, .inr (.inr ?_)⟩
  ·obtain ⟨k, hk⟩ : ∃ k, (lastIx 47 (pathM P)).toNat = k + 1 := ⟨(lastIx 47 (pathM P)).toNat - 1, by omega⟩
   rw [hk, ht, List.take_succ_cons]
   exact ⟨_, rfl⟩
  ·rw [List.getElem?_drop]; simpa using hg
 ·rw [if_neg q]
  exact ⟨t, ht, ⟨_, rfl⟩, .inl rfl⟩
theorem DrawCookieGet_ok {n : Nat} (hn : 4194304 + 40 ≤ n) {code : List Int} (hl : code.length ≤ 1048576) (hc : ∀ x ∈ code, 0 ≤ x ∧ x ≤ 255) : ∃ u t now, cs_DrawCookieGet n code = some (u, t, now, ()) ∧ Sm u := by
 obtain ⟨m, rfl⟩ := sn hn
 rw [es_DrawCookieGet]; unfold ms_DrawCookieGet
 obtain ⟨b, B, e0⟩ := open_ok (n := m) (by omega) hl hc
 obtain ⟨u, q1, e1, a1, a2, hU⟩ := anyhome_dr (n := m) (p := 0) (by omega) B (by omega) (by omega)
 obtain ⟨t, q2, e2, b1, b2, _⟩ := says_dr (n := m) (p := q1) (by omega) B (by omega) (by omega)
 obtain ⟨x, q3, e3, c1, c2, _⟩ := pick_dr (n := m) (p := q2) (c := 20) (by omega) B (by omega) (by omega) (by omega)
 simp only [e0, e1, e2, e3, Option.bind_some]
 rw [bif_dec]
 split
 ·obtain ⟨y, hy⟩ := many_ok (n := m) (v := 201) (a := [120]) (by omega) (by omega) (by omega) (by simp)
  obtain ⟨z, hz⟩ := many_ok (n := m) (v := 21) (a := [110]) (by omega) (by omega) (by omega) (by simp)
  have hy' : cs_l1Many m ([120] : Bs) (201 : Int) = some (y, ()) := hy
  have hz' : cs_l1Many m ([110] : Bs) (21 : Int) = some (z, ()) := hz
  obtain ⟨s, q4, e4, d1, d2, _⟩ := of_dr (n := m) (p := q3) (by omega) B (by omega) (by omega) (P := fun _ => True) (l := [([97,61,98,32,99] : Bs), ([97,61,34,113,34] : Bs), ([61,120] : Bs), ([97,44,98,61,49] : Bs), y, z]) (by simp) (fun _ _ => trivial)
  obtain ⟨now, q5, e5, f1, f2, _⟩ := now_dr (n := m) (p := q4) (by omega) B (by omega) (by omega)
  refine ⟨u, s, now, ?_, hU.sm⟩
  simp only [hy', hz', e4, e5, Option.bind_some]
 ·obtain ⟨now, q5, e5, f1, f2, _⟩ := now_dr (n := m) (p := q3) (by omega) B (by omega) (by omega)
  refine ⟨u, t, now, ?_, hU.sm⟩
  simp only [e5, Option.bind_some]
theorem same_true (c : TCookie) : ((c.1 == c.1) && ((c.2.1 == c.2.1) && ((c.2.2.1 == c.2.2.1) && ((c.2.2.2.1 == c.2.2.2.1) && ((c.2.2.2.2.1 == c.2.2.2.2.1) && ((c.2.2.2.2.2.1 == c.2.2.2.2.2.1) && ((c.2.2.2.2.2.2.1 == c.2.2.2.2.2.2.1) && ((c.2.2.2.2.2.2.2.1 == c.2.2.2.2.2.2.2.1) && ((c.2.2.2.2.2.2.2.2.1 == c.2.2.2.2.2.2.2.2.1) && true))))))))) = true := by simp
theorem slash_in {P : List Bs} : pathIn (slashM P) (cutPathM P) = true := by
 by_cases hP : P = []
 ·subst hP; decide
 ·obtain ⟨r, h1, ⟨q, h2⟩, h3⟩ := cutPath_ok hP
  have hs : slashM P = pathM P := by
   unfold slashM
   rw [if_neg (by rw [h1, h2]; simp)]
  rw [hs, h1]
  have hne : cutPathM P ≠ [] := by rw [h2]; simp
  unfold pathIn
  have hp : (cutPathM P).isPrefixOf (cutPathM P ++ r) = true := List.isPrefixOf_iff_prefix.2 (List.prefix_append _ _)
  rw [hp, decide_eq_true hne]
  simp only [Bool.true_and, Bool.or_eq_true, decide_eq_true_eq]
  rcases h3 with h | h | h
  ·right; left; rw [h]; rfl
  ·left; rw [h]; simp
  ·right; right
   rw [List.getElem?_append_right (Nat.le_refl _), Nat.sub_self]; exact h
theorem law_FnCookieGet {n : Nat} (hn : 4194304 + 60 ≤ n) {code : List Int} (hc : ∀ x ∈ code, 0 ≤ x ∧ x ≤ 255) : cl_FnCookieGet n code = some (true, ()) := by
 obtain ⟨m, rfl⟩ := sn hn
 rw [el_FnCookieGet]; unfold ml_FnCookieGet
 rw [bif_dec]
 split
 ·rfl
 rename_i hl
 obtain ⟨u, t, now, ed, hU⟩ := DrawCookieGet_ok (n := m) (code := code) (by omega) (by omega) hc
 have hz : szU u ≤ 2000000 := by have := hU.1; omega
 replace hU := hU.bu
 have hK := getU_bk (u := u) t now
 simp only [ed, Option.bind_some, impl_CookieGet_ok (n := m) (by omega) hU, spec_CookieGet_ok (n := m) (by omega) hU, same_true, Bool.not_true, cond_false, cond_true, decide_true]
 cases h0 : decide ((getU u t now).2 = 0) with
 | false => simp
 | true =>
 have h0 := of_decide_eq_true h0
 obtain ⟨z1, z2, z3, z4, z5, z6, z7, z8, z9⟩ := getU_zero h0
 simp only [Bool.not_true, cond_false, impl_CookieGoes_ok (n := m) (by omega) (bkc hK) hU hz, impl_CookieOk_ok (n := m) (by omega) (bkc hK), impl_PathOf_ok (n := m) (by omega) hU, Option.bind_some, z3, cond_true]
 generalize (getU u t now).1 = c at *
 rw [z4, decide_eq_true rfl]
 simp only [cond_true]
 have hov : overM c now = (!decide (c.2.2.2.2.2.1 = 0) && decide (c.2.2.2.2.2.1 ≤ IntKind.i64.wrap (now + 1))) := by
  unfold overM
  rw [w64 (by omega) (by omega), Bool.eq_iff_iff]
  simp only [Bool.and_eq_true, Bool.not_eq_true', decide_eq_true_eq, decide_eq_false_iff_not]
  omega
 have hg : goesM c u true false now = (!overM c now && pathIn (slashM u.2.2.2.2.2.1) c.2.2.2.2.1) := by
  unfold goesM whyM
  rw [z3, z1, z2]
  simp only [Bool.true_and, Bool.not_false, Bool.true_or, Bool.and_true]
  have e1 : (!c.2.2.2.2.2.2.1 || u.1 == httpsB) = true := by
   cases e : c.2.2.2.2.2.2.1 with
   | false => rfl
   | true => rw [z7 e]; rfl
  have e2 : (bif c.2.2.2.1 then putH u.2.2.2.1 == c.2.2.1 else domM (putH u.2.2.2.1) c.2.2.1) = true := by
   cases e : c.2.2.2.1 with
   | false => exact (z6 e).1
   | true => rw [z5 e]; simp
  rw [e1, e2]
  simp
 have hp : pathOfM u = cutPathM u.2.2.2.2.2.1 := by
  unfold pathOfM
  rw [if_pos z1, if_neg (of_decide_eq_false z2)]
 rw [hg, hov]
 have hin : (c.2.2.2.2.1 == pathOfM u) = true → pathIn (slashM u.2.2.2.2.2.1) c.2.2.2.2.1 = true := fun h => by
  rw [beq_iff_eq.1 h, hp]; exact slash_in
 generalize pathIn (slashM u.2.2.2.2.2.1) c.2.2.2.2.1 = pi at *
 generalize (c.2.2.2.2.1 == pathOfM u) = pq at *
 generalize decide (c.2.2.2.2.2.1 = 0) = d0
 generalize decide (c.2.2.2.2.2.1 ≤ IntKind.i64.wrap (now + 1)) = d1
 cases pi <;> cases pq <;> cases d0 <;> cases d1 <;> first | rfl | (exact absurd (hin rfl) (by simp))
theorem law_FnCookieDomain {n : Nat} (hn : 4194304 + 60 ≤ n) {code : List Int} (hc : ∀ x ∈ code, 0 ≤ x ∧ x ≤ 255) : cl_FnCookieDomain n code = some (true, ()) := by
 obtain ⟨m, rfl⟩ := sn hn
 rw [el_FnCookieDomain]; unfold ml_FnCookieDomain
 rw [bif_dec]
 split
 ·rfl
 rename_i hl
 obtain ⟨u, t, now, ed, hU⟩ := DrawCookieGet_ok (n := m) (code := code) (by omega) (by omega) hc
 have hz : szU u ≤ 2000000 := by have := hU.1; omega
 replace hU := hU.bu
 have hK := getU_bk (u := u) t now
 simp only [ed, Option.bind_some, impl_CookieGet_ok (n := m) (by omega) hU, spec_CookieGet_ok (n := m) (by omega) hU, same_true, Bool.not_true, cond_false, cond_true, decide_true]
 cases h0 : decide ((getU u t now).2 = 0) with
 | false => simp
 | true =>
 have h0 := of_decide_eq_true h0
 obtain ⟨z1, z2, z3, z4, z5, z6, z7, z8, z9⟩ := getU_zero h0
 simp only [Bool.not_true, cond_false, impl_HostPut_ok (n := m) (h := u.2.2.2.1) (by omega) (host_b hU), Option.bind_some]
 have hdl := hK.dom
 have hdom : domM (putH u.2.2.2.1) (getU u t now).1.2.2.1 = true := by
  cases e : (getU u t now).1.2.2.2.1 with
  | false => exact (z6 e).1
  | true => rw [z5 e]; exact dom_self (by have := okC_dom z3; rw [z5 e] at this; exact this)
 have hdot : (getU u t now).1.2.2.2.1 = false → (46 : UInt8) ∈ (getU u t now).1.2.2.1 := fun e => labels_dot (z6 e).2
 refine loopS (getU u t now).1.2.2.1 (fun rest i st r => st.2.1 = (i : Int) ∧ r = (true, ()) ∧ (st.1 = false → (46 : UInt8) ∉ (getU u t now).1.2.2.1.take i)) ?_ ?_ ⟨rfl, rfl, by simp⟩ (by omega)
 ·rintro ⟨pt, i, ⟨⟩⟩ r self ⟨hi, rfl, hpt⟩
  dsimp only at hi hpt
  subst hi
  unfold ml_FnCookieDomain.l0
  dsimp only
  rw [bif_dec, if_neg (by omega), impl_DomainIn_ok (n := m) (by omega) (putH_b hz) (by omega), Option.bind_some]
  dsimp only
  rw [hdom]
  simp only [cond_true]
  rw [List.take_length] at hpt
  have hs : (getU u t now).1.2.2.2.2.2.2.1 = true → (u.1 == ([104,116,116,112,115] : Bs)) = true := z7
  have ha : (getU u t now).1.2.2.2.1 = true → ((getU u t now).1.2.2.1 == putH u.2.2.2.1) = true := fun e => by rw [z5 e]; simp
  cases e : (getU u t now).1.2.2.2.1 with
  | true =>
   rw [ha e]
   cases e2 : (getU u t now).1.2.2.2.2.2.2.1 with
   | false => rfl
   | true => rw [hs e2]; rfl
  | false =>
   cases pt with
   | false => exact absurd (hdot e) (hpt rfl)
   | true =>
    cases e2 : (getU u t now).1.2.2.2.2.2.2.1 with
    | false => rfl
    | true => rw [hs e2]; rfl
 ·rintro d L i ⟨pt, j, ⟨⟩⟩ r self hd hi hx ⟨hj, rfl, hpt⟩ ih
  dsimp only at hj hpt
  subst hj
  unfold ml_FnCookieDomain.l0
  dsimp only
  rw [bif_dec, if_pos (by omega), w_i (by omega)]
  cases pt with
  | true => exact ih _ ⟨rfl, rfl, fun h => by cases h⟩
  | false =>
   simp only [cond_false]
   rw [grd_dec, if_pos (by omega), grd_dec, if_pos (by omega), bt_get hx]
   refine ih _ ⟨rfl, rfl, fun h => ?_⟩
   have h := of_decide_eq_false h
   rw [take_snoc hx]
   simp only [List.mem_append, List.mem_singleton, not_or]
   exact ⟨hpt rfl, fun e => h (by subst e; rfl)⟩
end Go.VM.T
