/- The plain law: what the models compute answers as the statement says. -/
import Derived.Test.YtphnmhmmebomkaaGreatDoorZ7
import Derived.Test.YtphnmhmmebomkaaGreatDoorZ4
set_option linter.unusedVariables false
set_option linter.unusedSimpArgs false
namespace Go.VM.T
open Go Go.VM
theorem plainName_ok {n : Nat} (hn : 4194304 + 5 ≤ n) {s : Bs} (hs : s.length ≤ 3000000) : ci_plainName n s = some (nameOk s, ()) := by
 obtain ⟨m, rfl⟩ := sn hn
 rw [ei_plainName]; unfold mi_plainName nameOk
 rw [impl_isHostName_ok (by omega) hs]
 simp only [Option.bind_some]
 cases isNameM s with
 | false => rfl
 | true => simp only [cond_true, impl_endsInNumber_ok (n := m) (by omega) hs, Option.bind_some, Bool.true_and]
theorem l7Name_ok {n : Nat} (hn : 4194304 + 6 ≤ n) {s : Bs} (hs : s.length ≤ 3000000) : cs_l7Name n s = some (nameOk s, ()) := by
 obtain ⟨m, rfl⟩ := sn hn
 rw [es_l7Name]; unfold ms_l7Name
 rw [spec_HostOk_ok (by omega) (h := (1, s, 0, ())) hs]
 have : okH (1, s, 0, ()) = nameOk s := by unfold okH hostOkM nameOk; simp
 rw [this]; rfl
theorem tok_false {s : Bs} {i : Nat} {c : UInt8} (h : s[i]? = some c) (hc : tokC c = false) : tokM s = false := by
 unfold tokM
 rw [List.all_eq_false.2 ⟨c, List.mem_of_getElem? h, by simp [hc]⟩]; rfl
theorem tok_end {s : Bs} (h : s.all tokC = true) : tokM s = decide ((s.length : Int) ≤ 20) := by
 unfold tokM; rw [h, Bool.true_and, decide_eq_decide]; omega
theorem sep_ix (c : UInt8) : decide (0 ≤ Lib.indexByte [59, 44, 61, 34] c) = ([59,44,61,34] : Bs).contains c := by
 have := u8_all (p := fun c => decide (0 ≤ Lib.indexByte [59, 44, 61, 34] c) == ([59,44,61,34] : Bs).contains c) (by decide +kernel) c
 simpa using this
theorem IndexByte_ok {n : Nat} (hn : 4194304 + 1 ≤ n) (s : Bs) (c : UInt8) : c_strings_IndexByte n s (c.toNat : Int) = some (Lib.indexByte s c, ()) := by
 obtain ⟨m, rfl⟩ := sn hn
 have hc := byte_le c
 rw [eq_strings_IndexByte]
 show (if 0 ≤ (c.toNat : Int) ∧ (c.toNat : Int) < 256 then some (Lib.indexByte s ((c.toNat : Int)).toNat.toUInt8, ()) else none) = _
 rw [if_pos ⟨hc.1, by omega⟩]
 simp
theorem isToken_ok {n : Nat} (hn : 4194304 + 2 ≤ n) {s : Bs} (hs : s.length ≤ 4000000) : ci_isToken n s = some (tokM s, ()) := by
 obtain ⟨m, rfl⟩ := sn hn
 rw [ei_isToken]; unfold mi_isToken
 refine loopS s (fun _ i st r => r = (tokM s, ()) ∧ st = ((i : Int), ()) ∧ (s.take i).all tokC = true) ?_ ?_ ⟨rfl, rfl, by simp⟩ (by omega)
 ·rintro st r self ⟨rfl, rfl, h⟩
  unfold mi_isToken.l0
  rw [List.take_length] at h
  simp only [bif_dec]
  rw [if_neg (by omega), tok_end h]
 ·rintro c L i st r self _ hi hx ⟨rfl, rfl, h⟩ ih
  unfold mi_isToken.l0
  have hb := bt_get hx
  have i1 : (0 : Int) ≤ (i : Int) := by omega
  have i2 : (i : Int) < (s.length : Int) := by omega
  simp only [bif_dec, grd_dec, hb, i1, i2, if_true, IndexByte_ok (n := m) (by omega), Option.bind_some, w_i (show i ≤ 4000000 by omega)]
  have hf : tokC c = false → some (false, ()) = some (tokM s, ()) := fun k => by rw [tok_false hx k]
  by_cases c1 : (c.toNat : Int) < 33
  ·rw [if_pos c1]; exact hf (by unfold tokC; rw [decide_eq_false (by omega)]; rfl)
  rw [if_neg c1]
  by_cases c2 : (126 : Int) < (c.toNat : Int)
  ·rw [if_pos c2]; exact hf (by unfold tokC; rw [decide_eq_false (by omega)]; rfl)
  rw [if_neg c2]
  have hsep := sep_ix c
  by_cases c3 : (0 : Int) ≤ Lib.indexByte [59, 44, 61, 34] c
  ·rw [if_pos c3]
   rw [decide_eq_true c3] at hsep
   exact hf (by unfold tokC; rw [← hsep]; simp)
  ·rw [if_neg c3]
   rw [decide_eq_false c3] at hsep
   refine ih _ ⟨rfl, rfl, ?_⟩
   rw [take_snoc hx, List.all_append, h]
   simp only [List.all_cons, List.all_nil, Bool.and_true, Bool.true_and]
   unfold tokC
   rw [← hsep, decide_eq_true (by omega)]; rfl
theorem l7Crumb_ok {n : Nat} (hn : 4194304 + 1 ≤ n) {s : Bs} (hs : s.length ≤ 4000000) : cs_l7Crumb n s = some (tokM s, ()) := by
 obtain ⟨m, rfl⟩ := sn hn
 rw [es_l7Crumb]; unfold ms_l7Crumb
 refine loopS s (fun _ i st r => r = (tokM s, ()) ∧ st = ((i : Int), ()) ∧ (s.take i).all tokC = true) ?_ ?_ ⟨rfl, rfl, by simp⟩ (by omega)
 ·rintro st r self ⟨rfl, rfl, h⟩
  unfold ms_l7Crumb.l0
  rw [List.take_length] at h
  simp only [bif_dec]
  rw [if_neg (by omega), tok_end h]
 ·rintro c L i st r self _ hi hx ⟨rfl, rfl, h⟩ ih
  unfold ms_l7Crumb.l0
  have hb := bt_get hx
  have i1 : (0 : Int) ≤ (i : Int) := by omega
  have i2 : (i : Int) < (s.length : Int) := by omega
  simp only [bif_dec, grd_dec, hb, i1, i2, if_true, w_i (show i ≤ 4000000 by omega)]
  have hf : tokC c = false → some (false, ()) = some (tokM s, ()) := fun k => by rw [tok_false hx k]
  have hin : ([59,44,61,34] : Bs).contains c = true → tokC c = false := fun k => by unfold tokC; rw [k]; simp
  by_cases c1 : (c.toNat : Int) ≤ 32
  ·rw [if_pos c1]; exact hf (by unfold tokC; rw [decide_eq_false (by omega)]; rfl)
  rw [if_neg c1]
  by_cases c2 : (126 : Int) < (c.toNat : Int)
  ·rw [if_pos c2]; exact hf (by unfold tokC; rw [decide_eq_false (by omega)]; rfl)
  rw [if_neg c2]
  by_cases k1 : (c.toNat : Int) = 59
  ·rw [if_pos k1]
   obtain rfl : c = 59 := (byte_is c 59 (by omega)).1 k1
   exact hf (hin (by decide))
  rw [if_neg k1]
  by_cases k2 : (c.toNat : Int) = 44
  ·rw [if_pos k2]
   obtain rfl : c = 44 := (byte_is c 44 (by omega)).1 k2
   exact hf (hin (by decide))
  rw [if_neg k2]
  by_cases k3 : (c.toNat : Int) = 61
  ·rw [if_pos k3]
   obtain rfl : c = 61 := (byte_is c 61 (by omega)).1 k3
   exact hf (hin (by decide))
  rw [if_neg k3]
  by_cases k4 : (c.toNat : Int) = 34
  ·rw [if_pos k4]
   obtain rfl : c = 34 := (byte_is c 34 (by omega)).1 k4
   exact hf (hin (by decide))
  rw [if_neg k4]
  refine ih _ ⟨rfl, rfl, ?_⟩
  rw [take_snoc hx, List.all_append, h]
  simp only [List.all_cons, List.all_nil, Bool.and_true, Bool.true_and]
  unfold tokC
  rw [decide_eq_true (by omega), Bool.true_and]
  have n1 : c ≠ 59 := fun e => k1 (by subst e; rfl)
  have n2 : c ≠ 44 := fun e => k2 (by subst e; rfl)
  have n3 : c ≠ 61 := fun e => k3 (by subst e; rfl)
  have n4 : c ≠ 34 := fun e => k4 (by subst e; rfl)
  simp [n1, n2, n3, n4]
theorem four_of (o : Option Int) (s : Bs) : (∀ v, o = some v → 0 ≤ v ∧ v ≤ 4294967295) → (bif (numR o).2.1 then (some ((putH (2, [], (numR o).1, ()) == s), ()) : Option (Bool × Unit)) else some (false, ())) = some ((match o with | some v => fourT v.toNat == s | none => false), ()) := by
 intro h
 cases o with
 | none => rfl
 | some v =>
  show some ((hostPutM 2 [] v == s), ()) = _
  rw [hostPut_four v (h v rfl)]
theorem isFour_ok {n : Nat} (hn : 4194304 + 23 ≤ n) {s : Bs} (hs : s.length ≤ 3000000) : ci_isFour n s = some (isFourM s, ()) := by
 obtain ⟨m, rfl⟩ := sn hn
 rw [ei_isFour]; unfold mi_isFour
 rw [impl_FourGet_ok (by omega) hs]
 simp only [Option.bind_some, impl_HostPut_ok (n := m) (h := (2, [], (numR (fourGetM s)).1, ())) (by omega) (by simp)]
 exact four_of (fourGetM s) s fun v h => fourGet_range s v h
theorem l7Four_ok {n : Nat} (hn : 4194304 + 23 ≤ n) {s : Bs} (hs : s.length ≤ 3000000) : cs_l7Four n s = some (isFourM s, ()) := by
 obtain ⟨m, rfl⟩ := sn hn
 rw [es_l7Four]; unfold ms_l7Four
 rw [spec_FourGet_ok (by omega) hs]
 simp only [Option.bind_some, spec_HostPut_ok (n := m) (h := (2, [], (numR (fourGetM s)).1, ())) (by omega) (by simp)]
 exact four_of (fourGetM s) s fun v h => fourGet_range s v h
theorem prefixOk_ok {n : Nat} (hn : 4194304 + 3 ≤ n) (c : TCookie) : ci_Cookie_prefixOk n c = some (prefM c, ()) := by
 obtain ⟨m, rfl⟩ := sn hn
 rw [ei_Cookie_prefixOk]; unfold mi_Cookie_prefixOk prefM
 simp only [strings_HasPrefix_ok (n := m) (by omega), Option.bind_some, beq_d]
 change (bif hostP.isPrefixOf c.1 then _ else (bif secP.isPrefixOf c.1 then _ else _)) = _
 cases hostP.isPrefixOf c.1 <;> cases secP.isPrefixOf c.1 <;> cases c.2.2.2.2.2.2.1 <;> cases c.2.2.2.1 <;> simp
theorem pre_short {p s : Bs} (h : s.length < p.length) : p.isPrefixOf s = false := by
 cases e : p.isPrefixOf s with
 | false => rfl
 | true => have := (List.isPrefixOf_iff_prefix.1 e).length_le; omega
theorem l7Prefix_ok {n : Nat} (hn : 4194304 + 1 ≤ n) (c : TCookie) : cs_l7Prefix n c = some (prefM c, ()) := by
 obtain ⟨m, rfl⟩ := sn hn
 rw [es_l7Prefix]; unfold ms_l7Prefix prefM
 have e7 : ((c.1.take ((7 : Int)).toNat).drop 0 == ([95,95,72,111,115,116,45] : Bs)) = hostP.isPrefixOf c.1 := prefix_eq c.1 hostP
 have e9 : ((c.1.take ((9 : Int)).toNat).drop 0 == ([95,95,83,101,99,117,114,101,45] : Bs)) = secP.isPrefixOf c.1 := prefix_eq c.1 secP
 simp only [e7, e9, bif_dec, grd_dec, show ((0 : Int) ≤ 7) = True by simp, show ((0 : Int) ≤ 9) = True by simp, if_true]
 have h7 : ¬ (7 : Int) ≤ (c.1.length : Int) → hostP.isPrefixOf c.1 = false := fun h => pre_short (by show c.1.length < 7; omega)
 have h9 : ¬ (9 : Int) ≤ (c.1.length : Int) → secP.isPrefixOf c.1 = false := fun h => pre_short (by show c.1.length < 9; omega)
 by_cases k7 : (7 : Int) ≤ (c.1.length : Int) <;> by_cases k9 : (9 : Int) ≤ (c.1.length : Int)
 ·simp only [k7, k9, if_true]
  cases hostP.isPrefixOf c.1 <;> cases secP.isPrefixOf c.1 <;> cases c.2.2.2.2.2.2.1 <;> cases c.2.2.2.1 <;> simp [beq_d]
 ·simp only [k7, k9, if_true, if_false, h9 k9]
  cases hostP.isPrefixOf c.1 <;> cases c.2.2.2.2.2.2.1 <;> cases c.2.2.2.1 <;> simp [beq_d]
 ·omega
 ·simp only [k7, k9, if_false, h7 k7, h9 k9]
  simp
structure BC (c : TCookie) : Prop where
 name : c.1.length ≤ 1000
 val : c.2.1.length ≤ 1000
 dom : c.2.2.1.length ≤ 1000
theorem head_bt (p : Bs) (h : 0 < p.length) : (bt p 0 = 47) = (p.head? = some 47) := by
 cases p with
 | nil => simp at h
 | cons c l => rw [bt_0, show ((c.toNat : Int) = 47) = (c = 47) from propext (byte_is c 47 (by omega))]; simp
theorem impl_CookieOk_ok {n : Nat} (hn : 4194304 + 24 ≤ n) {c : TCookie} (B : BC c) : ci_CookieOk n c = some (okCookie c, ()) := by
 obtain ⟨m, rfl⟩ := sn hn
 have b1 := B.name
 have b2 := B.val
 have b3 := B.dom
 rw [ei_CookieOk]; unfold mi_CookieOk okCookie homeM
 simp only [plainName_ok (n := m) (s := c.2.2.1) (by omega) (by omega), isFour_ok (n := m) (s := c.2.2.1) (by omega) (by omega), isToken_ok (n := m) (s := c.1) (by omega) (by omega), isToken_ok (n := m) (s := c.2.1) (by omega) (by omega), impl_in_ok (n := m) (by omega), prefixOk_ok (n := m) (by omega), Option.bind_some, beq_d, bif_ndec]
 have e1 : decide ((1 : Int) ≤ (c.2.2.2.2.1.length : Int) ∧ (c.2.2.2.2.1.length : Int) ≤ 200) = decide (1 ≤ c.2.2.2.2.1.length ∧ c.2.2.2.2.1.length ≤ 200) := by rw [decide_eq_decide]; omega
 simp only [e1]
 have key : (bif tokM c.1 then if c.1 = [] then some (false, ()) else bif tokM c.2.1 then bif decide (1 ≤ c.2.2.2.2.1.length ∧ c.2.2.2.2.1.length ≤ 200) then grd (decide (0 ≤ (0 : Int))) (grd (decide ((0 : Int) < (c.2.2.2.2.1.length : Int)))
   (bif decide (bt c.2.2.2.2.1 0 = 47) then bif prefM c then bif decide (0 ≤ c.2.2.2.2.2.1 ∧ c.2.2.2.2.2.1 ≤ 2000001) then bif decide (0 ≤ c.2.2.2.2.2.2.2.2.1 ∧ c.2.2.2.2.2.2.2.2.1 ≤ 1000000) then bif decide (0 ≤ c.2.2.2.2.2.2.2.1 ∧ c.2.2.2.2.2.2.2.1 ≤ 2) then
    if c.2.2.2.2.2.2.2.1 = 0 then some (c.2.2.2.2.2.2.1, ()) else some (true, ()) else some (false, ()) else some (false, ()) else some (false, ()) else some (false, ()) else some (false, ()))) else some (false, ()) else some (false, ()) else some (false, ())) =
   some ((tokM c.1 && (decide (c.1 ≠ []) && (tokM c.2.1 && (decide (1 ≤ c.2.2.2.2.1.length ∧ c.2.2.2.2.1.length ≤ 200) && (decide (c.2.2.2.2.1.head? = some 47) && (prefM c && (decide (0 ≤ c.2.2.2.2.2.1 ∧ c.2.2.2.2.2.1 ≤ 2000001) && (decide (0 ≤ c.2.2.2.2.2.2.2.2.1 ∧ c.2.2.2.2.2.2.2.2.1 ≤ 1000000) && (decide (0 ≤ c.2.2.2.2.2.2.2.1 ∧ c.2.2.2.2.2.2.2.1 ≤ 2) && (decide (c.2.2.2.2.2.2.2.1 ≠ 0) || c.2.2.2.2.2.2.1)))))))))), ()) := by
  cases tokM c.1 with
  | false => rfl
  | true =>
  by_cases k1 : c.1 = []
  ·simp [k1]
  cases tokM c.2.1 with
  | false => simp [k1]
  | true =>
  by_cases k2 : 1 ≤ c.2.2.2.2.1.length ∧ c.2.2.2.2.1.length ≤ 200
  case neg => simp [k1, k2]
  have k3 : (0 : Int) < (c.2.2.2.2.1.length : Int) := by omega
  simp only [k1, k2, k3, if_false, grd_dec, if_true, decide_true, cond_true, Bool.true_and, and_self, head_bt c.2.2.2.2.1 (by omega), Int.le_refl, ne_eq, not_false_eq_true]
  by_cases k4 : c.2.2.2.2.2.2.2.1 = 0 <;> cases decide (c.2.2.2.2.1.head? = some 47) <;> cases prefM c <;> cases decide (0 ≤ c.2.2.2.2.2.1 ∧ c.2.2.2.2.2.1 ≤ 2000001) <;> cases decide (0 ≤ c.2.2.2.2.2.2.2.2.1 ∧ c.2.2.2.2.2.2.2.2.1 ≤ 1000000) <;> cases decide (0 ≤ c.2.2.2.2.2.2.2.1 ∧ c.2.2.2.2.2.2.2.1 ≤ 2) <;> simp [k4, grd]
 simp only [key]
 cases nameOk c.2.2.1 with
 | true => rfl
 | false => cases c.2.2.2.1 <;> cases isFourM c.2.2.1 <;> rfl
theorem spec_CookieOk_ok {n : Nat} (hn : 4194304 + 24 ≤ n) {c : TCookie} (B : BC c) : cs_CookieOk n c = some (okCookie c, ()) := by
 obtain ⟨m, rfl⟩ := sn hn
 have b1 := B.name
 have b2 := B.val
 have b3 := B.dom
 rw [es_CookieOk]; unfold ms_CookieOk okCookie homeM
 simp only [l7Name_ok (n := m) (s := c.2.2.1) (by omega) (by omega), l7Four_ok (n := m) (s := c.2.2.1) (by omega) (by omega), l7Crumb_ok (n := m) (s := c.1) (by omega) (by omega), l7Crumb_ok (n := m) (s := c.2.1) (by omega) (by omega), spec_l1In_ok (n := m) (by omega), l7Prefix_ok (n := m) (by omega), Option.bind_some, beq_d, bif_ndec, bif_dec, grd_dec]
 have e1 : decide (1 ≤ c.2.2.2.2.1.length ∧ c.2.2.2.2.1.length ≤ 200) = (decide (¬ (c.2.2.2.2.1.length : Int) = 0) && decide (¬ (200 : Int) < (c.2.2.2.2.1.length : Int))) := by
  rw [Bool.eq_iff_iff]; simp only [Bool.and_eq_true, decide_eq_true_eq]; omega
 by_cases k1 : c.1 = []
 ·simp [k1]
 by_cases k2 : (c.2.2.2.2.1.length : Int) = 0
 ·have : decide (1 ≤ c.2.2.2.2.1.length ∧ c.2.2.2.2.1.length ≤ 200) = false := decide_eq_false (by omega)
  simp only [this, k2, if_true, if_false, k1]
  cases nameOk c.2.2.1 <;> cases isFourM c.2.2.1 <;> cases c.2.2.2.1 <;> cases tokM c.1 <;> cases tokM c.2.1 <;> simp
 have k3 : (0 : Int) < (c.2.2.2.2.1.length : Int) := by omega
 simp only [head_bt c.2.2.2.2.1 (by omega), k1, k2, k3, if_true, if_false, Int.le_refl]
 by_cases k4 : (200 : Int) < (c.2.2.2.2.1.length : Int)
 ·have : decide (1 ≤ c.2.2.2.2.1.length ∧ c.2.2.2.2.1.length ≤ 200) = false := decide_eq_false (by omega)
  simp only [this, k4, if_true]
  cases nameOk c.2.2.1 <;> cases isFourM c.2.2.1 <;> cases c.2.2.2.1 <;> cases tokM c.1 <;> cases tokM c.2.1 <;> simp
 have : decide (1 ≤ c.2.2.2.2.1.length ∧ c.2.2.2.2.1.length ≤ 200) = true := decide_eq_true (by omega)
 simp only [this, k4, if_false]
 by_cases k5 : c.2.2.2.2.1.head? = some 47
 case neg =>
  simp only [k5, if_false, decide_false]
  cases nameOk c.2.2.1 <;> cases isFourM c.2.2.1 <;> cases c.2.2.2.1 <;> cases tokM c.1 <;> cases tokM c.2.1 <;> simp
 simp only [k5, if_true, decide_true]
 by_cases k6 : 0 ≤ c.2.2.2.2.2.1 ∧ c.2.2.2.2.2.1 ≤ 2000001 <;> by_cases k7 : 0 ≤ c.2.2.2.2.2.2.2.2.1 ∧ c.2.2.2.2.2.2.2.2.1 ≤ 1000000 <;> by_cases k8 : 0 ≤ c.2.2.2.2.2.2.2.1 ∧ c.2.2.2.2.2.2.2.1 ≤ 2 <;> by_cases k9 : c.2.2.2.2.2.2.2.1 = 0
 all_goals
  simp only [k6, k7, k8, k9, if_true, if_false, decide_true, decide_false, and_self, ne_eq, not_true_eq_false, not_false_eq_true, k1]
  cases nameOk c.2.2.1 <;> cases isFourM c.2.2.1 <;> cases c.2.2.2.1 <;> cases tokM c.1 <;> cases tokM c.2.1 <;> cases prefM c <;> simp [k1, k6, k7, k8, k9]
end Go.VM.T
namespace Go.VM.T
open Go Go.VM
theorem suf_len {s p : Bs} (h : ¬ p.length ≤ s.length) : p.isSuffixOf s = false := by
 cases e : p.isSuffixOf s with
 | false => rfl
 | true => exact absurd (List.IsSuffix.length_le (List.isSuffixOf_iff_suffix.1 e)) h
theorem suf_eq (s p : Bs) : (s.drop (s.length - p.length) == p) = p.isSuffixOf s := by
 rw [Bool.eq_iff_iff, beq_iff_eq, List.isSuffixOf_iff_suffix, List.suffix_iff_eq_drop]; exact eq_comm
theorem ends_go {s p : Bs} (hs : s.length ≤ 4000000) : (bif (decide ((p.length : Int) ≤ (s.length : Int))) then (grd (decide (0 ≤ (IntKind.i64.wrap ((s.length : Int) - (p.length : Int))))) (grd (decide ((IntKind.i64.wrap ((s.length : Int) - (p.length : Int))) ≤ (s.length : Int))) (some ((((s.take s.length).drop (IntKind.i64.wrap ((s.length : Int) - (p.length : Int))).toNat) == p), ())))) else (some (false, ()) : Option (Bool × Unit))) = some (p.isSuffixOf s, ()) := by
 rw [bif_dec]
 by_cases h : (p.length : Int) ≤ (s.length : Int)
 ·have hw : IntKind.i64.wrap ((s.length : Int) - (p.length : Int)) = ((s.length - p.length : Nat) : Int) := by rw [w64 (by omega) (by omega)]; omega
  rw [if_pos h, hw, grd_dec, if_pos (by omega), grd_dec, if_pos (by omega), Int.toNat_natCast, List.take_length, suf_eq]
 ·rw [if_neg h, suf_len (by omega)]
theorem l7Ends_ok {n : Nat} (hn : 4194304 + 1 ≤ n) {s p : Bs} (hs : s.length ≤ 4000000) : cs_l7Ends n s p = some (p.isSuffixOf s, ()) := by
 obtain ⟨m, rfl⟩ := sn hn
 rw [es_l7Ends]; unfold ms_l7Ends
 exact ends_go hs
theorem dom_go {h d : Bs} : (bif (!(h == ([] : Bs))) then (bif (!(d == ([] : Bs))) then (bif (h == d) then (some (true, ())) else (bif nameOk h then (some ((46 :: d).isSuffixOf h, ())) else (some (false, ())))) else (some (false, ()))) else (some (false, ()) : Option (Bool × Unit))) = some (domM h d, ()) := by
 unfold domM
 by_cases h1 : h = []
 ·simp [h1]
 by_cases h2 : d = []
 ·simp [h2]
 by_cases h3 : h = d
 ·subst h3
  rw [show (h == ([] : Bs)) = false by simpa using h1, show (h == h) = true by simp, decide_eq_true h1, decide_eq_true (rfl : h = h)]; rfl
 rw [show (h == ([] : Bs)) = false by simpa using h1, show (d == ([] : Bs)) = false by simpa using h2, show (h == d) = false by simpa using h3, decide_eq_true h1, decide_eq_true h2, decide_eq_false h3]
 cases nameOk h <;> rfl
theorem spec_DomainIn_ok {n : Nat} (hn : 4194304 + 7 ≤ n) {h d : Bs} (hh : h.length ≤ 3000000) (hd : d.length ≤ 3000000) : cs_DomainIn n h d = some (domM h d, ()) := by
 obtain ⟨m, rfl⟩ := sn hn
 rw [es_DomainIn]; unfold ms_DomainIn
 have hl : ([46] : Bs).length + d.length ≤ 9223372036854775807 := by simp; omega
 simp only [l7Name_ok (n := m) (s := h) (by omega) hh, l7Ends_ok (n := m) (s := h) (by omega) (by omega), Option.bind_some, grd_dec, hl, if_true]
 rw [← dom_go]
 have : ∀ a b : Bool, (bif a then (some (b, ()) : Option (Bool × Unit)) else some (false, ())) = bif b then some (a, ()) else some (false, ()) := by decide
 rw [this]; rfl
theorem over_go {c : TCookie} (h : okCookie c = true) (now : Int) : (bif (!decide (c.2.2.2.2.2.1 = (0 : Int))) then (some ((decide ((IntKind.i64.wrap (c.2.2.2.2.2.1 - (1 : Int))) ≤ now)), ())) else (some (false, ()) : Option (Bool × Unit))) = some (overM c now, ()) := by
 unfold overM
 simp only [okCookie, Bool.and_eq_true, decide_eq_true_eq] at h
 obtain ⟨_, _, _, _, _, _, _, ⟨h1, h2⟩, _⟩ := h
 by_cases h0 : c.2.2.2.2.2.1 = 0
 ·simp [h0]
 ·rw [w64 (by omega) (by omega)]; simp [h0]
theorem l7Over_ok {n : Nat} (hn : 4194304 + 1 ≤ n) {c : TCookie} (h : okCookie c = true) (now : Int) : cs_l7Over n c now = some (overM c now, ()) := by
 obtain ⟨m, rfl⟩ := sn hn
 rw [es_l7Over]; unfold ms_l7Over
 exact over_go h now
theorem host_b {u : TUrl} (hu : BU u) : u.2.2.2.1.2.1.length ≤ 3000000 := by
 have := hu.1
 unfold szU at this
 omega
end Go.VM.T
namespace Go.VM.T
open Go Go.VM
def Tot {A : Type} (o : Option A) (Q : A → Prop) : Prop := ∃ a, o = some a ∧ Q a
theorem Tot.bind {A C : Type} {o : Option A} {Q : A → Prop} {f : A → Option C} {Q' : C → Prop} (h : Tot o Q) (hf : ∀ a, Q a → Tot (f a) Q') : Tot (o.bind f) Q' := by
 obtain ⟨a, rfl, ha⟩ := h
 exact hf a ha
theorem Tot.cond {A : Type} {p : Bool} {x y : Option A} {Q : A → Prop} (h1 : p = true → Tot x Q) (h2 : p = false → Tot y Q) : Tot (bif p then x else y) Q := by
 cases p
 ·exact h2 rfl
 ·exact h1 rfl
theorem Tot.grd {A : Type} {p : Prop} [Decidable p] {x : Option A} {Q : A → Prop} (hp : p) (h : Tot x Q) : Tot (Go.VM.grd (decide p) x) Q := by
 rw [grd_dec, if_pos hp]; exact h
theorem Tot.one {A : Type} {a : A} {Q : A → Prop} (h : Q a) : Tot (some a) Q := ⟨a, rfl, h⟩
theorem Tot.of {A : Type} {o : Option A} {a : A} {Q : A → Prop} (e : o = some a) (h : Q a) : Tot o Q := ⟨a, e, h⟩
theorem Tot.mono {A : Type} {o : Option A} {Q Q' : A → Prop} (h : Tot o Q) (k : ∀ a, Q a → Q' a) : Tot o Q' := by
 obtain ⟨a, e, ha⟩ := h
 exact ⟨a, e, k a ha⟩
theorem loop_tot {S R : Type} {F : (S → Option R) → S → Option R} (μ : S → Nat) (P : S → Prop) (Q : R → Prop) (h : ∀ s self, P s → (∀ s', μ s' < μ s → P s' → Tot (self s') Q) → Tot (F self s) Q) : ∀ n s, P s → μ s < n → Tot (loopR F n s) Q
 | 0, s, _, hm => absurd hm (Nat.not_lt_zero _)
 | n + 1, s, hp, hm => h s (loopR F n) hp fun s' h1 h2 => loop_tot μ P Q h n s' h2 (by omega)
theorem wsub {s : Bs} (h : 0 < (s.length : Int)) (hs : s.length ≤ 4000000) : IntKind.i64.wrap ((s.length : Int) - 1) = (s.length : Int) - 1 := w64 (by omega) (by omega)
theorem back_tot {n : Nat} {z : Nat} (hz : z ≤ 4000000) {F : ((Bs × Unit) → Option (Bs × Unit)) → (Bs × Unit) → Option (Bs × Unit)} (hF : F = ms_l7Trim.l0 n) (k : Nat) (s : Bs) (hs : s.length ≤ z) (hk : s.length < k) : Tot (loopR F k (s, ())) fun r => r.1.length ≤ z := by
 subst hF
 refine loop_tot (fun st => st.1.length) (fun st => st.1.length ≤ z) _ ?_ k (s, ()) hs hk
 rintro ⟨s, ⟨⟩⟩ self (hs : s.length ≤ z) ih
 unfold ms_l7Trim.l0
 refine Tot.cond (fun h0 => ?_) (fun _ => Tot.one hs)
 have h0 : (0 : Int) < (s.length : Int) := of_decide_eq_true h0
 have hw := wsub h0 (by omega)
 simp only [hw]
 refine Tot.grd (by omega) (Tot.grd (by omega) (Tot.cond (fun _ => ?_) (fun _ => Tot.one hs)))
 refine Tot.grd (by omega) (Tot.grd (by omega) ?_)
 exact ih _ (by simp; omega) (by simp; omega)
theorem trim_tot {n : Nat} (hn : 4194304 + 1 ≤ n) {s : Bs} (hs : s.length ≤ 4000000) : Tot (cs_l7Trim n s) fun r => r.1.length ≤ s.length := by
 obtain ⟨m, rfl⟩ := sn hn
 rw [es_l7Trim]; unfold ms_l7Trim
 refine loop_tot (fun st => st.1.length) (fun st => st.1.length ≤ s.length) _ ?_ m (s, ()) (Nat.le_refl _) (by simp; omega)
 rintro ⟨t, ⟨⟩⟩ self (ht : t.length ≤ s.length) ih
 unfold ms_l7Trim.l2
 refine Tot.cond (fun h0 => ?_) (fun _ => back_tot (n := m) (F := ms_l7Trim.l1 m) hs rfl m t ht (by omega))
 have h0 : (0 : Int) < (t.length : Int) := of_decide_eq_true h0
 refine Tot.grd (by omega) (Tot.grd h0 (Tot.cond (fun _ => ?_) (fun _ => back_tot (n := m) (F := ms_l7Trim.l0 m) hs rfl m t ht (by omega))))
 refine Tot.grd (by omega) (Tot.grd (show (1 : Int) ≤ (t.length : Int) by omega) ?_)
 exact ih _ (by simp; omega) (by simp; omega)
theorem pair_tot {n : Nat} (hn : 4194304 + 2 ≤ n) {s : Bs} (hs : s.length ≤ 4000000) : Tot (cs_l7Pair n s) fun r => r.1.length ≤ s.length ∧ r.2.1.length ≤ s.length := by
 obtain ⟨m, rfl⟩ := sn hn
 rw [es_l7Pair]; unfold ms_l7Pair
 refine loop_tot (fun st => s.length - st.1.toNat) (fun st => 0 ≤ st.1 ∧ st.1 ≤ (s.length : Int)) _ ?_ m ((0 : Int), ()) ⟨by simp, by simp⟩ (by simp; omega)
 rintro ⟨i, ⟨⟩⟩ self ⟨h1, h2⟩ ih
 have h1 : 0 ≤ i := h1
 have h2 : i ≤ (s.length : Int) := h2
 unfold ms_l7Pair.l0
 refine Tot.cond (fun h0 => ?_) (fun _ => ?_)
 ·have h0 : i < (s.length : Int) := of_decide_eq_true h0
  have hw : IntKind.i64.wrap (i + 1) = i + 1 := w64 (by omega) (by omega)
  simp only [hw]
  refine Tot.grd h1 (Tot.grd h0 (Tot.cond (fun _ => ?_) (fun _ => ih _ (by simp only; omega) ⟨by simp only; omega, by simp only; omega⟩)))
  refine Tot.grd h1 (Tot.grd h2 (Tot.bind (trim_tot (by omega) (by simp; omega)) fun y hy => ?_))
  refine Tot.grd (by omega) (Tot.grd (by omega) (Tot.bind (trim_tot (by omega) (by simp; omega)) fun z hz => ?_))
  exact Tot.one ⟨Nat.le_trans hy (by simp; omega), Nat.le_trans hz (by simp)⟩
 ·exact Tot.bind (trim_tot (by omega) hs) fun y hy => Tot.one ⟨hy, by simp⟩
theorem age_tot {n : Nat} (hn : 4194304 + 1 ≤ n) {s : Bs} (hs : s.length ≤ 4000000) : Tot (cs_l7Age n s) fun _ => True := by
 obtain ⟨m, rfl⟩ := sn hn
 rw [es_l7Age]; unfold ms_l7Age
 refine loop_tot (fun st => s.length - st.2.1.toNat) (fun st => 0 ≤ st.2.1 ∧ st.2.1 ≤ (s.length : Int)) _ ?_ m ((0 : Int), (0 : Int), ()) ⟨by simp, by simp⟩ (by simp; omega)
 rintro ⟨v, i, ⟨⟩⟩ self ⟨h1, h2⟩ ih
 have h1 : 0 ≤ i := h1
 have h2 : i ≤ (s.length : Int) := h2
 unfold ms_l7Age.l0
 refine Tot.cond (fun h0 => ?_) (fun _ => Tot.cond (fun _ => Tot.one trivial) (fun _ => Tot.cond (fun _ => Tot.one trivial) (fun _ => Tot.one trivial)))
 have h0 : i < (s.length : Int) := of_decide_eq_true h0
 have hw : IntKind.i64.wrap (i + 1) = i + 1 := w64 (by omega) (by omega)
 refine Tot.grd h1 (Tot.grd h0 (Tot.cond (fun _ => Tot.one trivial) (fun _ => Tot.grd h1 (Tot.grd h0 (Tot.cond (fun _ => Tot.one trivial) (fun _ => Tot.cond (fun _ => Tot.one trivial) (fun _ => Tot.grd h1 (Tot.grd h0 ?_))))))))
 simp only [hw]
 exact ih _ (by simp only; omega) ⟨by simp only; omega, by simp only; omega⟩
theorem part_tot {n : Nat} (hn : 4194304 + 2 ≤ n) {c : TCookie} (B : BC c) (now : Int) {k v : Bs} (hk : k.length ≤ 1000) (hv : v.length ≤ 1000) : Tot (cs_l7Part n c now k v) fun r => BC r.1 := by
 obtain ⟨m, rfl⟩ := sn hn
 rw [es_l7Part]; unfold ms_l7Part
 have same : ∀ x : TCookie, x.1 = c.1 → x.2.1 = c.2.1 → x.2.2.1 = c.2.2.1 → Tot (some (x, ())) fun r => BC r.1 := fun x h1 h2 h3 => Tot.one ⟨by show x.1.length ≤ _; rw [h1]; exact B.name, by show x.2.1.length ≤ _; rw [h2]; exact B.val, by show x.2.2.1.length ≤ _; rw [h3]; exact B.dom⟩
 rw [spec_Lower_ok (by omega) (by omega)]
 simp only [Option.bind_some]
 refine Tot.cond (fun _ => Tot.cond (fun h0 => ?_) (fun _ => same _ rfl rfl rfl)) (fun _ => Tot.cond (fun _ => Tot.cond (fun h0 => ?_) (fun _ => same _ rfl rfl rfl)) (fun _ => Tot.cond (fun _ => ?_) (fun _ => Tot.cond (fun _ => same _ rfl rfl rfl) (fun _ => Tot.cond (fun _ => ?_) (fun _ => same _ rfl rfl rfl)))))
 ·have hl : (0 : Int) < (v.length : Int) := by
   have : v ≠ [] := by simpa using h0
   have := List.length_pos_iff.2 this
   omega
  refine Tot.grd (by omega) (Tot.grd hl (Tot.cond (fun _ => Tot.grd (by omega) (Tot.grd (by omega) ?_)) (fun _ => ?_)))
  ·rw [spec_Lower_ok (by omega) (by simp; omega)]
   exact Tot.one ⟨B.name, B.val, by show (lowM _).length ≤ _; rw [lowM_len]; simp; omega⟩
  ·rw [spec_Lower_ok (by omega) (by omega)]
   exact Tot.one ⟨B.name, B.val, by show (lowM _).length ≤ _; rw [lowM_len]; omega⟩
 ·have hl : (0 : Int) < (v.length : Int) := by
   have : v ≠ [] := by simpa using h0
   have := List.length_pos_iff.2 this
   omega
  exact Tot.grd (by omega) (Tot.grd hl (Tot.cond (fun _ => same _ rfl rfl rfl) (fun _ => same _ rfl rfl rfl)))
 ·exact Tot.bind (age_tot (by omega) (by omega)) fun y _ => Tot.cond (fun _ => same _ rfl rfl rfl) (fun _ => same _ rfl rfl rfl)
 ·rw [spec_Lower_ok (by omega) (by omega)]
  exact Tot.cond (fun _ => same _ rfl rfl rfl) (fun _ => Tot.cond (fun _ => same _ rfl rfl rfl) (fun _ => same _ rfl rfl rfl))
theorem l7Cut_ok {n : Nat} (hn : 4194304 + 1 ≤ n) {s : Bs} (hs : s.length ≤ 4000000) (c : UInt8) : cs_l7Cut n s (c.toNat : Int) = some (cutM c s, ()) := by
 obtain ⟨m, rfl⟩ := sn hn
 have h := spec_l1Cut_ok hn hs c
 rw [es_l1Cut] at h
 rw [es_l7Cut]
 exact h
theorem getD_P {α : Type} {P : α → Prop} {l : List α} {d : α} (h : ∀ x ∈ l, P x) (hd : P d) (i : Nat) : P (l.getD i d) := by
 by_cases hi : i < l.length
 ·exact h _ (getD_mem d hi)
 ·rw [List.getD_eq_getElem?_getD, List.getElem?_eq_none (by omega)]; exact hd
theorem zero_bc : BC ([], [], [], false, [], 0, false, 0, 0, ()) := ⟨by simp, by simp, by simp⟩
theorem cookieGet_tot {n : Nat} (hn : 4194304 + 34 ≤ n) {u : TUrl} (hu : Sm0 u) (t : Bs) (now : Int) : Tot (cs_CookieGet n u t now) fun r => BC r.1 := by
 obtain ⟨m, rfl⟩ := sn hn
 rw [es_CookieGet]; unfold ms_CookieGet
 have hb := hu.sm.bu
 simp only [spec_UrlOk_ok (n := m) (by omega) hb, spec_l1In_ok (n := m) (by omega), Option.bind_some]
 refine Tot.cond (fun _ => Tot.one zero_bc) (fun _ => Tot.cond (fun _ => Tot.one zero_bc) (fun _ => Tot.cond (fun _ => Tot.one zero_bc) (fun _ => Tot.cond (fun _ => Tot.one zero_bc) (fun ht => ?_))))
 have ht : t.length ≤ 200 := by have := of_decide_eq_false ht; omega
 have h59 : cs_l7Cut m t 59 = some (cutM 59 t, ()) := l7Cut_ok (n := m) (by omega) (by omega) 59
 have hpl : (putH u.2.2.2.1).length ≤ 1000 := by
  have := putH_len u.2.2.2.1
  have := hu.1
  unfold szU at this
  omega
 rw [h59]
 simp only [Option.bind_some, spec_HostPut_ok (n := m) (h := u.2.2.2.1) (by omega) (host_b hb), spec_PathOf_ok (n := m) (by omega) hb]
 have hc := cut_len_pos 59 t
 have hcl := cutM_len 59 t
 have hel : ∀ i, ((cutM 59 t).getD i []).length ≤ 200 := fun i => getD_P (P := fun x : Bs => x.length ≤ 200) (fun x hx => Nat.le_trans (cutM_sub 59 t x hx) ht) (by simp) i
 refine Tot.grd (by omega) (Tot.grd (by omega) (Tot.bind (pair_tot (n := m) (by omega) (by have := hel 0; simpa using Nat.le_trans this (by omega))) fun y hy => ?_))
 have hel0 := hel 0
 refine loop_tot (fun st => (cutM 59 t).length - st.1.toNat) (fun st => 0 ≤ st.1 ∧ st.1 ≤ ((cutM 59 t).length : Int) ∧ BC st.2.1) _ ?_ m _ ⟨by simp, by simp only; omega, ⟨Nat.le_trans hy.1 (Nat.le_trans hel0 (by omega)), Nat.le_trans hy.2 (Nat.le_trans hel0 (by omega)), hpl⟩⟩ (by simp only; omega)
 rintro ⟨i, c, ⟨⟩⟩ self ⟨h1, h2, B⟩ ih
 have h1 : 0 ≤ i := h1
 have h2 : i ≤ ((cutM 59 t).length : Int) := h2
 have B : BC c := B
 have b1 := B.name
 have b2 := B.val
 have b3 := B.dom
 unfold ms_CookieGet.l0
 refine Tot.cond (fun h0 => ?_) (fun _ => ?_)
 ·have h0 : i < ((cutM 59 t).length : Int) := of_decide_eq_true h0
  have hw : IntKind.i64.wrap (i + 1) = i + 1 := w64 (by omega) (by omega)
  refine Tot.grd h1 (Tot.grd h0 (Tot.bind (pair_tot (n := m) (by omega) (Nat.le_trans (hel _) (by omega))) fun z hz => ?_))
  refine Tot.bind (part_tot (n := m) (by omega) B now (Nat.le_trans hz.1 (Nat.le_trans (hel _) (by omega))) (Nat.le_trans hz.2 (Nat.le_trans (hel _) (by omega)))) fun w hw2 => ?_
  simp only [hw]
  exact ih _ (by simp only; omega) ⟨by simp only; omega, by simp only; omega, hw2⟩
 ·simp only [l7Crumb_ok (n := m) (s := c.1) (by omega) (by omega), l7Crumb_ok (n := m) (s := c.2.1) (by omega) (by omega), spec_DomainIn_ok (n := m) (h := putH u.2.2.2.1) (d := c.2.2.1) (by omega) (by omega) (by omega), spec_l2Parts_ok (n := m) (s := c.2.2.1) (by omega) (by omega), l7Prefix_ok (n := m) (c := c) (by omega), spec_CookieOk_ok (n := m) (by omega) B, Option.bind_some]
  have hz : Tot (some ((([] : Bs), ([] : Bs), ([] : Bs), false, ([] : Bs), (0 : Int), false, (0 : Int), (0 : Int), ()), (1 : Int), ())) (fun r : TCookie × Int × Unit => BC r.1) := Tot.one zero_bc
  repeat' first
   | exact Tot.one zero_bc
   | exact Tot.one B
   | refine Tot.cond (fun _ => ?_) (fun _ => ?_)
theorem says_go {n : Nat} (hn : 4194304 + 2 ≤ n) {b : List Int} (B : RdOk b) : ∀ (k : Nat) (m : Nat) (acc : Bs) (p : Int), k < m → 0 ≤ p → p + k ≤ 1000000 → acc.length + 20 * k ≤ 1000 →
  Dr b p k (fun _ => True) (loopR (ms_l11Says.l0 n) m (acc, (k : Int), (b, p, ()), ()))
 | 0, m + 1, acc, p, _, h0, h1, h2 => by
  show Dr _ _ _ _ (ms_l11Says.l0 n (loopR (ms_l11Says.l0 n) m) _)
  generalize hG : loopR (ms_l11Says.l0 n) m = G
  unfold ms_l11Says.l0
  simp only [bif_dec]
  rw [if_neg (by omega)]
  exact Dr.mk (by omega) (by omega) trivial
 | k + 1, m + 1, acc, p, hm, h0, h1, h2 => by
  show Dr _ _ _ _ (ms_l11Says.l0 n (loopR (ms_l11Says.l0 n) m) _)
  generalize hG : loopR (ms_l11Says.l0 n) m = G
  unfold ms_l11Says.l0
  simp only [bif_dec, grd_dec]
  rw [if_pos (by omega)]
  refine Dr.bind (of_dr (P := fun s => s.length ≤ 17) (by omega) B h0 (by omega) (by simp) (by decide)) fun x q g1 g2 g3 => ?_
  dsimp only
  rw [if_pos (by omega), w64 (by omega) (by omega), show (((k + 1 : Nat) : Int) - 1) = (k : Int) by omega]
  obtain ⟨s, q3, e, g7, g8, g9⟩ := says_go hn B k m (acc ++ x) q (by omega) (by omega) (by omega) (by simp only [List.length_append]; omega)
  exact ⟨s, q3, by rw [← hG]; exact e, by omega, by omega, trivial⟩
 | 0, 0, _, _, h, _, _, _ => absurd h (Nat.not_lt_zero _)
 | _ + 1, 0, _, _, h, _, _, _ => absurd h (Nat.not_lt_zero _)
theorem says_dr {n : Nat} (hn : 4194304 + 3 ≤ n) {b : List Int} (B : RdOk b) {p : Int} (h0 : 0 ≤ p) (h1 : p ≤ 900000) : Dr b p 6 (fun _ => True) (cs_l11Says n (b, p, ())) := by
 obtain ⟨m, rfl⟩ := sn hn
 rw [es_l11Says]; unfold ms_l11Says
 refine Dr.bind (of_dr (P := fun s => s.length ≤ 12) (by omega) B h0 (by omega) (by simp) (by decide)) fun x q g1 g2 g3 => ?_
 refine Dr.bind (of_dr (P := fun s => s.length ≤ 12) (by omega) B (by omega) (by omega) (by simp) (by decide)) fun y q2 g4 g5 g6 => ?_
 simp only [grd_dec]
 rw [if_pos (by omega)]
 refine Dr.bind (pick_dr (c := 4) (by omega) B (by omega) (by omega) (by omega)) fun k q3 g7 g8 g9 => ?_
 dsimp only
 have := says_go (n := m) (by omega) B k.toNat m (x ++ y) q3 (by omega) (by omega) (by omega) (by simp only [List.length_append]; omega)
 rw [show ((k.toNat : Nat) : Int) = k by omega] at this
 obtain ⟨s, q4, e, a1, a2, a3⟩ := this
 exact ⟨s, q4, e, by omega, by omega, trivial⟩
theorem cookie_go {n : Nat} (hn : 4194304 + 34 ≤ n) {b : List Int} (B : RdOk b) (z : TCookie) : ∀ (k : Nat) (m : Nat) (p : Int), k ≤ 3 → k < m → 0 ≤ p → p + 10 * k ≤ 590000 →
  Dr b p (10 * k + 1) BC (loopR (ms_l11Cookie.l0 n) m (((3 - k : Nat) : Int), (b, p, ()), z, ()))
 | 0, m + 1, p, _, _, h0, h1 => by
  show Dr _ _ _ _ (ms_l11Cookie.l0 n (loopR (ms_l11Cookie.l0 n) m) _)
  generalize hG : loopR (ms_l11Cookie.l0 n) m = G
  unfold ms_l11Cookie.l0
  simp only [bif_dec]
  rw [if_neg (by omega)]
  refine Dr.bind (pick_dr (by omega) B h0 (by omega) (by omega)) fun x q g1 g2 g3 => ?_
  exact Dr.mk (by omega) (by omega) ⟨by simp, by simp, by simp⟩
 | k + 1, m + 1, p, hk, hm, h0, h1 => by
  show Dr _ _ _ _ (ms_l11Cookie.l0 n (loopR (ms_l11Cookie.l0 n) m) _)
  generalize hG : loopR (ms_l11Cookie.l0 n) m = G
  unfold ms_l11Cookie.l0
  simp only [bif_dec]
  rw [if_pos (by omega)]
  refine Dr.bind (home_dr (by omega) B h0 (by omega)) fun u q g1 g2 hu => ?_
  refine Dr.bind (says_dr (by omega) B (by omega) (by omega)) fun t q2 g3 g4 _ => ?_
  refine Dr.bind (one_dr (P := fun _ => True) (by omega) B (by omega) (by omega) (by simp) (fun _ _ => trivial)) fun now q3 g5 g6 _ => ?_
  obtain ⟨⟨c, st, ⟨⟩⟩, e, hc⟩ := cookieGet_tot (n := n) hn hu t now
  have hw : IntKind.i64.wrap (((3 - (k + 1) : Nat) : Int) + 1) = ((3 - k : Nat) : Int) := by rw [w64 (by omega) (by omega)]; omega
  simp only [e, Option.bind_some, hw]
  split
  ·exact Dr.mk (by omega) (by omega) hc
  ·obtain ⟨u, q4, e, g7, g8, g9⟩ := cookie_go hn B z k m q3 (by omega) (by omega) (by omega) (by omega)
   exact ⟨u, q4, by rw [← hG]; exact e, by omega, by omega, g9⟩
 | 0, 0, _, _, h, _, _ => absurd h (Nat.not_lt_zero _)
 | _ + 1, 0, _, _, h, _, _ => absurd h (Nat.not_lt_zero _)
theorem cookie_dr {n : Nat} (hn : 4194304 + 35 ≤ n) {b : List Int} (B : RdOk b) {p : Int} (h0 : 0 ≤ p) (h1 : p ≤ 580000) : Dr b p 40 BC (cs_l11Cookie n (b, p, ())) := by
 obtain ⟨m, rfl⟩ := sn hn
 rw [es_l11Cookie]; unfold ms_l11Cookie
 exact (cookie_go (n := m) (by omega) B _ 3 m p (by omega) (by omega) h0 (by omega)).mono (by omega) fun _ h => h
theorem anycookie_dr {n : Nat} (hn : 4194304 + 36 ≤ n) {b : List Int} (B : RdOk b) {p : Int} (h0 : 0 ≤ p) (h1 : p ≤ 580000) : Dr b p 50 BC (cs_l11AnyCookie n (b, p, ())) := by
 obtain ⟨m, rfl⟩ := sn hn
 rw [es_l11AnyCookie]; unfold ms_l11AnyCookie
 refine Dr.bind (cookie_dr (by omega) B h0 (by omega)) fun c q g1 g2 hc => ?_
 refine Dr.bind (pick_dr (by omega) B (by omega) (by omega) (by omega)) fun x q2 a1 a2 a3 => ?_
 simp only [bif_dec]
 split
 ·refine Dr.bind (of_dr (P := fun s => s.length ≤ 20) (by omega) B (by omega) (by omega) (by simp) (by decide)) fun y q3 b1 b2 b3 => ?_
  exact Dr.mk (by omega) (by omega) ⟨by simp only; omega, hc.val, hc.dom⟩
 split
 ·refine Dr.bind (of_dr (P := fun s => s.length ≤ 20) (by omega) B (by omega) (by omega) (by simp) (by decide)) fun y q3 b1 b2 b3 => ?_
  exact Dr.mk (by omega) (by omega) ⟨hc.name, hc.val, by simp only; omega⟩
 split
 ·refine Dr.bind (of_dr (P := fun s => s.length ≤ 20) (by omega) B (by omega) (by omega) (by simp) (by decide)) fun y q3 b1 b2 b3 => ?_
  exact Dr.mk (by omega) (by omega) ⟨hc.name, hc.val, hc.dom⟩
 split
 ·refine Dr.bind (one_dr (P := fun _ => True) (by omega) B (by omega) (by omega) (by simp) (fun _ _ => trivial)) fun y q3 b1 b2 b3 => ?_
  exact Dr.mk (by omega) (by omega) ⟨hc.name, hc.val, hc.dom⟩
 split
 ·refine Dr.bind (one_dr (P := fun _ => True) (by omega) B (by omega) (by omega) (by simp) (fun _ _ => trivial)) fun y q3 b1 b2 b3 => ?_
  exact Dr.mk (by omega) (by omega) ⟨hc.name, hc.val, hc.dom⟩
 ·exact Dr.mk (by omega) (by omega) hc
end Go.VM.T
namespace Go.VM.T
open Go Go.VM
structure BJ (l : List TCookie) : Prop where
 len : l.length ≤ 1000
 ck : ∀ c ∈ l, BC c
theorem BJ.get {l : List TCookie} (B : BJ l) {i : Nat} {c : TCookie} (h : l[i]? = some c) : BC c := B.ck c (List.mem_of_getElem? h)
theorem BJ.sub {l l' : List TCookie} (B : BJ l) (h : l'.Sublist l) : BJ l' := ⟨Nat.le_trans h.length_le B.len, fun c hc => B.ck c (h.subset hc)⟩
theorem BJ.snoc {l : List TCookie} (B : BJ l) {c : TCookie} (hc : BC c) (hl : l.length ≤ 999) : BJ (l ++ [c]) := ⟨by simp; omega, fun x hx => by
 rcases List.mem_append.1 hx with hx | hx
 ·exact B.ck x hx
 ·rw [List.mem_singleton.1 hx]; exact hc⟩
theorem BJ.nil : BJ [] := ⟨by simp, by simp⟩
theorem twin_go (a b : TCookie) : (bif (a.1 == b.1) then (bif (a.2.2.1 == b.2.2.1) then (bif (a.2.2.2.1 == b.2.2.2.1) then (some ((a.2.2.2.2.1 == b.2.2.2.2.1), ())) else (some (false, ()))) else (some (false, ()))) else (some (false, ()) : Option (Bool × Unit))) = some (twin a b, ()) := by
 unfold twin
 rw [← beq_d, ← beq_d, ← beq_d, ← beq_d]
 cases (a.1 == b.1) <;> cases (a.2.2.1 == b.2.2.1) <;> cases (a.2.2.2.1 == b.2.2.2.1) <;> rfl
theorem l7Same_ok {n : Nat} (hn : 4194304 + 1 ≤ n) (a b : TCookie) : cs_l7Same n a b = some (twin a b, ()) := by
 obtain ⟨m, rfl⟩ := sn hn
 rw [es_l7Same]; exact twin_go a b
theorem twin_ok {n : Nat} (hn : 4194304 + 1 ≤ n) (a b : TCookie) : ci_Cookie_twin n a b = some (twin a b, ()) := by
 obtain ⟨m, rfl⟩ := sn hn
 rw [ei_Cookie_twin]; exact twin_go a b
theorem preJ_nil : PreJ [] := ⟨by simp, by simp⟩
theorem okJar_pre {l : List TCookie} (P : PreJ l) : okJar l = decide (l.length ≤ 10) := by
 by_cases h : l.length ≤ 10
 ·rw [decide_eq_true h, (okJar_iff l).2 ⟨P, h⟩]
 ·rw [decide_eq_false h, (okJar_false l).2 (fun k => h k.2)]
theorem okJar_bad {l : List TCookie} {i : Nat} (h : ¬ PreJ (l.take i)) : okJar l = false := (okJar_false l).2 fun k => h (k.1.sub (List.take_sublist i l))
theorem impl_JarOk_ok {n : Nat} (hn : 4194304 + 26 ≤ n) {l : List TCookie} (B : BJ l) : ci_JarOk n l = some (okJar l, ()) := by
 obtain ⟨m, rfl⟩ := sn hn
 rw [ei_JarOk]; unfold mi_JarOk
 have hlen := B.len
 refine loopS l (fun _ i st r => PreJ (l.take i) ∧ r = (okJar l, ()) ∧ st = ((i : Int), ())) ?_ ?_ ⟨by simpa using preJ_nil, rfl, rfl⟩ (by omega)
 ·rintro st r self ⟨P, rfl, rfl⟩
  rw [List.take_length] at P
  unfold mi_JarOk.l0
  simp only [bif_dec]
  rw [if_neg (by omega), okJar_pre P]
  congr 2
  rw [decide_eq_decide]; omega
 ·rintro e L i st r self _ hi hx ⟨P, rfl, rfl⟩ ih
  unfold mi_JarOk.l0
  have hN := preJ_next hx P
  have hbad : ¬ (okCookie e = true ∧ ∀ a ∈ l.take i, twin a e = false) → some (false, ()) = some (okJar l, ()) := fun h => by rw [okJar_bad (fun k => h (hN.1 k))]
  have k1 : (0 : Int) ≤ (i : Int) := by omega
  have k2 : (i : Int) < (l.length : Int) := by omega
  have k3 : (i : Int) ≤ (l.length : Int) := by omega
  have k4 : (l.take i).length ≤ 9223372036854775807 := by simp; omega
  simp only [bif_dec, grd_dec, Int.toNat_natCast, getD_get dCookie hx, k1, k2, k3, if_true, impl_CookieOk_ok (n := m) (by omega) (B.get hx), Option.bind_some, List.drop_zero, k4]
  cases hc : okCookie e with
  | false => exact hbad fun h => by rw [h.1] at hc; cases hc
  | true =>
  simp only [Bool.not_true, cond_false]
  rw [idxM_all (f := fun z => twin e z) (fun z _ => by rw [twin_ok (by omega)]; rfl)]
  simp only [Option.bind_some, List.findIdx?_isSome]
  cases ha : (l.take i).any fun z => twin e z with
  | true =>
   obtain ⟨z, hz, ht⟩ := List.any_eq_true.1 ha
   exact hbad fun h => by rw [twin_comm, h.2 z hz] at ht; cases ht
  | false =>
   simp only [cond_false, w_i (show i ≤ 4000000 by omega)]
   refine ih _ ⟨hN.2 ⟨hc, fun a h => ?_⟩, rfl, rfl⟩
   rw [twin_comm]
   simpa using List.any_eq_false.1 ha a h
theorem twins_in {m : Nat} {l : List TCookie} {i : Nat} {e : TCookie} (hx : l[i]? = some e) (hl : l.length ≤ 1000) (hm : 4194304 + 1 ≤ m) (f : (Int × Unit) → Option (Bool × Unit)) (r : Bool × Unit)
  (h1 : (∃ a ∈ l.take i, twin a e = true) → r = (false, ())) (h2 : (∀ a ∈ l.take i, twin a e = false) → f (((i + 1 : Nat) : Int), ()) = some r) : loopR (ms_JarOk.l0 m ((i : Int), ()) l f) m ((0 : Int), ()) = some r := by
 have hi := (List.getElem?_eq_some_iff.1 hx).1
 refine loopS (l.take i) (fun _ j st r' => r' = r ∧ st = ((j : Int), ()) ∧ ∀ a ∈ l.take j, twin a e = false) ?_ ?_ ⟨rfl, rfl, by simp⟩ (by simp; omega)
 ·rintro st r' self ⟨rfl, rfl, h⟩
  have hli : (l.take i).length = i := by simp; omega
  rw [hli] at h ⊢
  unfold ms_JarOk.l0
  simp only [bif_dec]
  rw [if_neg (by omega), w_i (by omega)]
  exact h2 h
 ·rintro a L j st r' self _ hj hy ⟨rfl, rfl, h⟩ ih
  have hji : j < i := by simp at hj; omega
  have hy' : l[j]? = some a := by rw [List.getElem?_take, if_pos hji] at hy; exact hy
  unfold ms_JarOk.l0
  simp only [bif_dec, grd_dec, Int.toNat_natCast, getD_get dCookie hx, getD_get dCookie hy']
  rw [if_pos (by omega), if_pos (by omega), if_pos (by omega), if_pos (by omega), if_pos (by omega), l7Same_ok (by omega), twin_comm]
  simp only [Option.bind_some]
  cases c : twin a e with
  | true => rw [h1 ⟨a, mem_take.2 ⟨j, hji, hy'⟩, c⟩]; rfl
  | false =>
   simp only [cond_false, w_i (show j ≤ 4000000 by omega)]
   refine ih _ ⟨rfl, rfl, fun b hb => ?_⟩
   rw [take_snoc hy'] at hb
   rcases List.mem_append.1 hb with hb | hb
   ·exact h b hb
   ·rw [List.mem_singleton.1 hb]; exact c
theorem spec_JarOk_ok {n : Nat} (hn : 4194304 + 26 ≤ n) {l : List TCookie} (B : BJ l) : cs_JarOk n l = some (okJar l, ()) := by
 obtain ⟨m, rfl⟩ := sn hn
 rw [es_JarOk]; unfold ms_JarOk
 have hlen := B.len
 refine loopS l (fun _ i st r => PreJ (l.take i) ∧ r = (okJar l, ()) ∧ st = ((i : Int), ())) ?_ ?_ ⟨by simpa using preJ_nil, rfl, rfl⟩ (by omega)
 ·rintro st r self ⟨P, rfl, rfl⟩
  rw [List.take_length] at P
  unfold ms_JarOk.l1
  simp only [bif_dec]
  rw [if_neg (by omega), okJar_pre P]
  congr 2
  rw [decide_eq_decide]; omega
 ·rintro e L i st r self _ hi hx ⟨P, rfl, rfl⟩ ih
  unfold ms_JarOk.l1
  have hN := preJ_next hx P
  have hbad : ¬ (okCookie e = true ∧ ∀ a ∈ l.take i, twin a e = false) → some (false, ()) = some (okJar l, ()) := fun h => by rw [okJar_bad (fun k => h (hN.1 k))]
  have k1 : (0 : Int) ≤ (i : Int) := by omega
  have k2 : (i : Int) < (l.length : Int) := by omega
  simp only [bif_dec, grd_dec, Int.toNat_natCast, getD_get dCookie hx, k1, k2, if_true, spec_CookieOk_ok (n := m) (by omega) (B.get hx), Option.bind_some]
  cases hc : okCookie e with
  | false => exact hbad fun h => by rw [h.1] at hc; cases hc
  | true =>
  simp only [Bool.not_true, cond_false]
  refine twins_in hx hlen (by omega) self _ (fun ⟨a, ha, ht⟩ => ?_) fun h => ih _ ⟨hN.2 ⟨hc, h⟩, rfl, rfl⟩
  have := hbad fun h => by rw [h.2 a ha] at ht; cases ht
  simpa using this.symm
theorem join_one (a s : Bs) : Lib.join [a] s = a := by simp [Lib.join]
theorem join_two (a b s : Bs) (l : List Bs) : Lib.join (a :: b :: l) s = a ++ s ++ Lib.join (b :: l) s := by simp [Lib.join]
theorem join_snoc (s : Bs) : ∀ (l : List Bs) (x y : Bs), Lib.join (l ++ [x, y]) s = Lib.join (l ++ [x]) s ++ s ++ y
 | [], x, y => by rw [List.nil_append, List.nil_append, join_two, join_one, join_one]
 | [a], x, y => by simp only [List.cons_append, List.nil_append, join_two, join_one, List.append_assoc]
 | a :: b :: l, x, y => by
  have := join_snoc s (b :: l) x y
  simp only [List.cons_append] at this ⊢
  rw [join_two, join_two, this]
  simp
theorem okJ_pair {l : List TCookie} (h : okJar l = true) {c : TCookie} (hc : c ∈ l) : (pairM c).length ≤ 41 := by
 have := ((okJar_iff l).1 h).1.one c hc
 simp only [okCookie, tokM, Bool.and_eq_true, decide_eq_true_eq] at this
 obtain ⟨_, ⟨_, h1⟩, _, ⟨_, h2⟩, _⟩ := this
 unfold pairM
 simp only [List.length_append, List.length_cons]
 omega
theorem jarT_snoc {l : List TCookie} {i : Nat} {c : TCookie} (h : l[i]? = some c) : jarT (l.take (i + 1)) = (if i = 0 then pairM c else jarT (l.take i) ++ [59, 32] ++ pairM c) := by
 unfold jarT
 rw [take_snoc h, List.map_append]
 cases i with
 | zero => simp [join_one]
 | succ i =>
  have hi := (List.getElem?_eq_some_iff.1 h).1
  obtain ⟨x, hx⟩ : ∃ x, l[i]? = some x := ⟨_, List.getElem?_eq_getElem (by omega)⟩
  rw [if_neg (by omega), take_snoc hx, List.map_append]
  simp only [List.map_cons, List.map_nil, List.append_assoc, List.cons_append, List.nil_append]
  have := join_snoc [59, 32] ((l.take i).map pairM) (pairM x) (pairM c)
  simpa using this
theorem jarT_len {l : List TCookie} (h : okJar l = true) : ∀ i, i ≤ l.length → (jarT (l.take i)).length ≤ 43 * i
 | 0, _ => by simp [jarT, Lib.join]
 | i + 1, hi => by
  obtain ⟨x, hx⟩ : ∃ x, l[i]? = some x := ⟨_, List.getElem?_eq_getElem (by omega)⟩
  have h1 := okJ_pair h (List.mem_of_getElem? hx)
  have h2 := jarT_len h i (by omega)
  rw [jarT_snoc hx]
  split
  ·omega
  ·simp only [List.length_append, List.length_cons, List.length_nil]; omega
theorem impl_JarText_ok {n : Nat} (hn : 4194304 + 27 ≤ n) {l : List TCookie} (B : BJ l) : ci_JarText n l = some (jarText l, ()) := by
 obtain ⟨m, rfl⟩ := sn hn
 rw [ei_JarText]; unfold mi_JarText
 rw [impl_JarOk_ok (by omega) B]
 simp only [Option.bind_some]
 unfold jarText
 cases hok : okJar l with
 | false => rfl
 | true =>
 simp only [Bool.not_true, cond_false, if_true]
 have hlen : l.length ≤ 10 := ((okJar_iff l).1 hok).2
 refine loopS l (fun _ i st r => r = (jarT l, ()) ∧ st = ((l.take i).map pairM, (i : Int), ())) ?_ ?_ ⟨rfl, rfl⟩ (by omega)
 ·rintro st r self ⟨rfl, rfl⟩
  unfold mi_JarText.l0
  simp only [bif_dec]
  have hj := jarT_len hok l.length (Nat.le_refl _)
  rw [List.take_length] at hj ⊢
  unfold jarT at hj
  rw [if_neg (by omega), strings_Join_ok (by omega) (by simp; omega) (by omega)]
  rfl
 ·rintro c L i st r self _ hi hx ⟨rfl, rfl⟩ ih
  unfold mi_JarText.l0
  have k1 : (0 : Int) ≤ (i : Int) := by omega
  have k2 : (i : Int) < (l.length : Int) := by omega
  have b1 := (B.get hx).name
  have b2 := (B.get hx).val
  have k3 : c.1.length + ([61] : Bs).length ≤ 9223372036854775807 := by simp; omega
  have k4 : (c.1 ++ ([61] : Bs)).length + c.2.1.length ≤ 9223372036854775807 := by simp; omega
  have k5 : ((l.take i).map pairM).length + ([((c.1 ++ ([61] : Bs)) ++ c.2.1)] : List Bs).length ≤ appBound := ap_le (by simp; omega)
  simp only [bif_dec, grd_dec, Int.toNat_natCast, getD_get dCookie hx, k1, k2, k3, k4, k5, if_true, w_i (show i ≤ 4000000 by omega)]
  refine ih _ ⟨rfl, ?_⟩
  rw [take_snoc hx, List.map_append]
  simp [pairM]
theorem spec_JarText_ok {n : Nat} (hn : 4194304 + 27 ≤ n) {l : List TCookie} (B : BJ l) : cs_JarText n l = some (jarText l, ()) := by
 obtain ⟨m, rfl⟩ := sn hn
 rw [es_JarText]; unfold ms_JarText
 have hlen := B.len
 unfold jarText
 cases hok : okJar l with
 | false =>
  refine loopS l (fun _ i st r => r = ([], ()) ∧ st = ([], (i : Int), ())) ?_ ?_ ⟨rfl, rfl⟩ (by omega)
  ·rintro st r self ⟨rfl, rfl⟩
   unfold ms_JarText.l0
   simp only [bif_dec]
   rw [if_neg (by omega)]
  ·rintro c L i st r self _ hi hx ⟨rfl, rfl⟩ ih
   unfold ms_JarText.l0
   simp only [bif_dec]
   rw [if_pos (by omega), spec_JarOk_ok (by omega) B, hok]
   rfl
 | true =>
 rw [if_pos rfl]
 refine loopS l (fun _ i st r => r = (jarT l, ()) ∧ st = (jarT (l.take i), (i : Int), ())) ?_ ?_ ⟨rfl, by simp [jarT, Lib.join]⟩ (by omega)
 ·rintro st r self ⟨rfl, rfl⟩
  unfold ms_JarText.l0
  simp only [bif_dec]
  rw [if_neg (by omega), List.take_length]
 ·rintro c L i st r self _ hi hx ⟨rfl, rfl⟩ ih
  unfold ms_JarText.l0
  have k1 : (0 : Int) ≤ (i : Int) := by omega
  have k2 : (i : Int) < (l.length : Int) := by omega
  have b1 := (B.get hx).name
  have b2 := (B.get hx).val
  have hj := jarT_len hok i (by omega)
  generalize hT : jarT (l.take i) = T at hj
  have c1 : T.length + ([59,32] : Bs).length ≤ 9223372036854775807 := by simp; omega
  have c2 : (T ++ ([59,32] : Bs)).length + c.1.length ≤ 9223372036854775807 := by simp; omega
  have c3 : ((T ++ ([59,32] : Bs)) ++ c.1).length + ([61] : Bs).length ≤ 9223372036854775807 := by simp; omega
  have c4 : (((T ++ ([59,32] : Bs)) ++ c.1) ++ ([61] : Bs)).length + c.2.1.length ≤ 9223372036854775807 := by simp; omega
  have d1 : T.length + c.1.length ≤ 9223372036854775807 := by omega
  have d2 : (T ++ c.1).length + ([61] : Bs).length ≤ 9223372036854775807 := by simp; omega
  have d3 : ((T ++ c.1) ++ ([61] : Bs)).length + c.2.1.length ≤ 9223372036854775807 := by simp; omega
  simp only [bif_dec, grd_dec, Int.toNat_natCast, getD_get dCookie hx, k1, k2, c1, c2, c3, c4, d1, d2, d3, if_true, w_i (show i ≤ 4000000 by omega), spec_JarOk_ok (n := m) (by omega) B, hok, Option.bind_some, cond_true]
  have hs := jarT_snoc hx
  rw [hT] at hs
  by_cases hz : i = 0
  ·rw [if_neg (by omega)]
   rw [if_pos hz] at hs
   refine ih _ ⟨rfl, ?_⟩
   rw [hs]
   subst hz
   have : T = [] := by rw [← hT]; simp [jarT, Lib.join]
   rw [this]; simp [pairM]
  ·rw [if_pos (by omega)]
   rw [if_neg hz] at hs
   refine ih _ ⟨rfl, ?_⟩
   rw [hs]; simp [pairM]
end Go.VM.T
namespace Go.VM.T
open Go Go.VM
def withMade (c : TCookie) (t : Int) : TCookie := (c.1, c.2.1, c.2.2.1, c.2.2.2.1, c.2.2.2.2.1, c.2.2.2.2.2.1, c.2.2.2.2.2.2.1, c.2.2.2.2.2.2.2.1, t, ())
def madeC (c : TCookie) : Int := c.2.2.2.2.2.2.2.2.1
theorem okC_made {c : TCookie} (h : okCookie c = true) : 0 ≤ madeC c ∧ madeC c ≤ 1000000 := by
 simp only [okCookie, Bool.and_eq_true, decide_eq_true_eq] at h
 exact h.2.2.2.2.2.2.2.2.1
theorem okC_with {c : TCookie} (h : okCookie c = true) {t : Int} (h0 : 0 ≤ t) (h1 : t ≤ 1000000) : okCookie (withMade c t) = true := by
 simp only [okCookie, Bool.and_eq_true] at h ⊢
 obtain ⟨a1, a2, a3, a4, a5, a6, a7, a8, a9, a10, a11⟩ := h
 exact ⟨a1, a2, a3, a4, a5, a6, a7, a8, decide_eq_true ⟨h0, h1⟩, a10, a11⟩
theorem twin_with (x c : TCookie) (t : Int) : twin x (withMade c t) = twin x c := rfl
theorem BC.with {c : TCookie} (B : BC c) (t : Int) : BC (withMade c t) := ⟨B.name, B.val, B.dom⟩
def madeJ : List TCookie → TCookie → TCookie
 | [], c => c
 | x :: l, c => madeJ l (if twin x c = true then withMade c (madeC x) else c)
theorem madeJ_with : ∀ (l : List TCookie) (c : TCookie), ∃ t, madeJ l c = withMade c t ∧ (t = madeC c ∨ ∃ x ∈ l, t = madeC x)
 | [], c => ⟨madeC c, rfl, .inl rfl⟩
 | x :: l, c => by
  obtain ⟨t, h1, h2⟩ := madeJ_with l (if twin x c = true then withMade c (madeC x) else c)
  unfold madeJ
  split at h1
  ·rename_i hx
   rw [if_pos hx] at h2 ⊢
   refine ⟨t, h1, ?_⟩
   rcases h2 with h2 | ⟨y, hy, h2⟩
   ·exact .inr ⟨x, List.mem_cons_self .., h2⟩
   ·exact .inr ⟨y, List.mem_cons_of_mem _ hy, h2⟩
  ·rename_i hx
   rw [if_neg hx] at h2 ⊢
   refine ⟨t, h1, ?_⟩
   rcases h2 with h2 | ⟨y, hy, h2⟩
   ·exact .inl h2
   ·exact .inr ⟨y, List.mem_cons_of_mem _ hy, h2⟩
def putL (l : List TCookie) (c : TCookie) : List TCookie := (l.filter fun x => !twin x c) ++ [madeJ l c]
def cleanL (l : List TCookie) (now : Int) : List TCookie := l.filter fun c => !overM c now
theorem l7Clean_ok {n : Nat} (hn : 4194304 + 2 ≤ n) {l : List TCookie} (hl : l.length ≤ 1000) (h : ∀ c ∈ l, okCookie c = true) (now : Int) : cs_l7Clean n l now false = some (cleanL l now, ()) := by
 obtain ⟨m, rfl⟩ := sn hn
 rw [es_l7Clean]; unfold ms_l7Clean
 refine loopS l (fun _ i st r => r = (cleanL l now, ()) ∧ st = (cleanL (l.take i) now, (i : Int), ())) ?_ ?_ ⟨rfl, rfl⟩ (by omega)
 ·rintro st r self ⟨rfl, rfl⟩
  unfold ms_l7Clean.l0
  simp only [bif_dec]
  rw [if_neg (by omega), List.take_length]
 ·rintro c L i st r self _ hi hx ⟨rfl, rfl⟩ ih
  unfold ms_l7Clean.l0
  have k1 : (0 : Int) ≤ (i : Int) := by omega
  have k2 : (i : Int) < (l.length : Int) := by omega
  have hcl : (cleanL (l.take i) now).length ≤ 1000 := Nat.le_trans (List.length_filter_le _ _) (by simp; omega)
  have k3 : (cleanL (l.take i) now).length + ([c] : List TCookie).length ≤ appBound := ap_le (by simp; omega)
  have hs : cleanL (l.take (i + 1)) now = cleanL (l.take i) now ++ (if overM c now = true then [] else [c]) := by
   unfold cleanL
   rw [take_snoc hx, List.filter_append]
   congr 1
   cases hq : overM c now <;> simp [hq]
  simp only [bif_dec, grd_dec, Int.toNat_natCast, getD_get dCookie hx, k1, k2, k3, if_true, l7Over_ok (n := m) (by omega) (h c (List.mem_of_getElem? hx)), Option.bind_some, cond_false, w_i (show i ≤ 4000000 by omega)]
  refine (?_ : (bif !overM c now then _ else _) = _)
  cases ho : overM c now with
  | true =>
   rw [ho] at hs
   exact ih _ ⟨rfl, by rw [hs]; simp⟩
  | false =>
   rw [ho] at hs
   exact ih _ ⟨rfl, by rw [hs]; simp⟩
def CutOf (q r : List TCookie) : Prop := r.Sublist q ∧ r.length ≤ 10 ∧ (q.length ≤ 10 → r = q)
theorem cut_tot {n m : Nat} {q : List TCookie} (hq : q.length ≤ 11) (h10 : 10 < q.length) (hm : 100 ≤ m) : Tot (loopR (ms_l7Put.l0 n (q, ())) m ((0 : Int), (1 : Int), ())) fun r => CutOf q r.1 := by
 refine loop_tot (fun st => q.length - st.2.1.toNat) (fun st => 0 ≤ st.1 ∧ st.1 < (q.length : Int) ∧ 0 ≤ st.2.1 ∧ st.2.1 ≤ (q.length : Int)) _ ?_ m _ ⟨by simp, by simp only; omega, by simp, by simp only; omega⟩ (by simp only; omega)
 rintro ⟨k, i, ⟨⟩⟩ self ⟨h1, h2, h3, h4⟩ ih
 have h1 : 0 ≤ k := h1
 have h2 : k < (q.length : Int) := h2
 have h3 : 0 ≤ i := h3
 have h4 : i ≤ (q.length : Int) := h4
 unfold ms_l7Put.l0
 refine Tot.cond (fun h0 => ?_) (fun _ => ?_)
 ·have h0 : i < (q.length : Int) := of_decide_eq_true h0
  have hw : IntKind.i64.wrap (i + 1) = i + 1 := w64 (by omega) (by omega)
  simp only [hw]
  refine Tot.grd h3 (Tot.grd h0 (Tot.grd h1 (Tot.grd h2 (Tot.cond (fun _ => ?_) (fun _ => ?_)))))
  ·exact ih _ (by simp only; omega) ⟨by simp only; omega, by simp only; omega, by simp only; omega, by simp only; omega⟩
  ·exact ih _ (by simp only; omega) ⟨by simp only; omega, by simp only; omega, by simp only; omega, by simp only; omega⟩
 ·have hw : IntKind.i64.wrap (k + 1) = ((k.toNat + 1 : Nat) : Int) := by rw [w64 (by omega) (by omega)]; omega
  simp only [hw]
  refine Tot.grd h1 (Tot.grd (by omega) (Tot.grd (ap_le (by simp; omega)) (Tot.grd (by omega) (Tot.grd (by omega) (Tot.grd (ap_le (by simp; omega)) (Tot.one ?_))))))
  have e : ([] ++ ((q.take k.toNat).drop 0)) ++ ((q.take q.length).drop ((k.toNat + 1 : Nat) : Int).toNat) = q.eraseIdx k.toNat := by
   rw [List.eraseIdx_eq_take_drop_succ, List.take_length, Int.toNat_natCast]; simp
  refine ⟨?_, ?_, fun h => by omega⟩
  ·show List.Sublist (([] ++ _) ++ _) q
   rw [e]; exact List.eraseIdx_sublist ..
  ·show List.length (([] ++ _) ++ _) ≤ 10
   rw [e, List.length_eraseIdx, if_pos (by omega)]; omega
theorem after_tot {n m : Nat} (hn : 4194304 + 2 ≤ n) (hm : 100 ≤ m) {l : List TCookie} {c : TCookie} (hl : l.length ≤ 10) (h : ∀ x ∈ l, okCookie x = true) (hc : okCookie c = true) (now : Int) :
  Tot (grd (decide (l.length + ([c] : List TCookie).length ≤ appBound)) ((cs_l7Clean n (l ++ ([c] : List TCookie)) now false).bind fun y4 => bif (decide ((y4.1.length : Int) ≤ (10 : Int))) then (some y4) else (loopR (ms_l7Put.l0 n y4) m ((0 : Int), (1 : Int), ())))) fun r => CutOf (cleanL (l ++ [c]) now) r.1 := by
 refine Tot.grd (ap_le (by simp; omega)) ?_
 have hq : (cleanL (l ++ [c]) now).length ≤ 11 := Nat.le_trans (List.length_filter_le _ _) (by simp; omega)
 rw [l7Clean_ok hn (by simp; omega) (fun x hx => by
  rcases List.mem_append.1 hx with hx | hx
  ·exact h x hx
  ·rw [List.mem_singleton.1 hx]; exact hc) now]
 simp only [Option.bind_some]
 refine Tot.cond (fun h10 => Tot.one ⟨List.Sublist.refl _, ?_, fun _ => rfl⟩) (fun h10 => cut_tot hq ?_ hm)
 ·have := of_decide_eq_true h10; simp only; omega
 ·have := of_decide_eq_false h10; omega
theorem l7Put_tot {n : Nat} (hn : 4194304 + 3 ≤ n) {l : List TCookie} {c : TCookie} (hl : l.length ≤ 10) (h : ∀ x ∈ l, okCookie x = true) (hc : okCookie c = true) (now : Int) : Tot (cs_l7Put n l c now) fun r => CutOf (cleanL (putL l c) now) r.1 := by
 obtain ⟨m, rfl⟩ := sn hn
 rw [es_l7Put]; unfold ms_l7Put
 have hokm : okCookie (madeJ l c) = true := by
  obtain ⟨t, h1, h2⟩ := madeJ_with l c
  rw [h1]
  rcases h2 with rfl | ⟨x, hx, rfl⟩
  ·exact okC_with hc (okC_made hc).1 (okC_made hc).2
  ·exact okC_with hc (okC_made (h x hx)).1 (okC_made (h x hx)).2
 obtain ⟨r, hr, hQ⟩ := after_tot (n := m) (m := m) (l := l.filter fun x => !twin x c) (c := madeJ l c) (by omega) (by omega) (Nat.le_trans (List.length_filter_le _ _) hl) (fun x hx => h x (List.mem_filter.1 hx).1) hokm now
 refine ⟨r, ?_, hQ⟩
 refine loopS l (fun L i st r' => r' = r ∧ ∃ t, st = ((l.take i).filter (fun x => !twin x c), (i : Int), withMade c t, ()) ∧ madeJ L (withMade c t) = madeJ l c) ?_ ?_ ⟨rfl, madeC c, rfl, rfl⟩ (by omega)
 ·rintro st r' self ⟨rfl, t, rfl, ht⟩
  unfold ms_l7Put.l1
  simp only [bif_dec]
  rw [if_neg (by omega), List.take_length, show withMade c t = madeJ l c from ht]
  simpa only [bif_dec] using hr
 ·rintro x L i st r' self _ hi hx ⟨rfl, t, rfl, ht⟩ ih
  unfold ms_l7Put.l1
  have k1 : (0 : Int) ≤ (i : Int) := by omega
  have k2 : (i : Int) < (l.length : Int) := by omega
  have k3 : ((l.take i).filter fun x => !twin x c).length + ([x] : List TCookie).length ≤ appBound := ap_le (by have := List.length_filter_le (fun x => !twin x c) (l.take i); simp at this ⊢; omega)
  have hs : (l.take (i + 1)).filter (fun x => !twin x c) = (l.take i).filter (fun x => !twin x c) ++ (if twin x c = true then [] else [x]) := by
   rw [take_snoc hx, List.filter_append]
   congr 1
   cases hq : twin x c <;> simp [hq]
  simp only [bif_dec, grd_dec, Int.toNat_natCast, getD_get dCookie hx, k1, k2, k3, if_true, l7Same_ok (n := m) (by omega), Option.bind_some, w_i (show i ≤ 4000000 by omega), twin_with]
  have e : madeJ (x :: L) (withMade c t) = madeJ L (if twin x c = true then withMade c (madeC x) else withMade c t) := rfl
  rw [e] at ht
  cases hw : twin x c with
  | true =>
   rw [hw] at hs ht
   exact ih _ ⟨rfl, madeC x, by rw [hs]; simp [withMade, madeC], by rw [← ht, if_pos rfl]⟩
  | false =>
   rw [hw] at hs ht
   exact ih _ ⟨rfl, t, by rw [hs]; simp, by rw [← ht, if_neg (by simp)]⟩
theorem putL_pre {l : List TCookie} {c : TCookie} (P : PreJ l) (hc : okCookie c = true) : PreJ (putL l c) := by
 unfold putL
 obtain ⟨t, h1, h2⟩ := madeJ_with l c
 rw [h1]
 refine preJ_snoc.2 ⟨P.sub List.filter_sublist, ?_, fun a ha => ?_⟩
 ·rcases h2 with rfl | ⟨x, hx, rfl⟩
  ·exact okC_with hc (okC_made hc).1 (okC_made hc).2
  ·exact okC_with hc (okC_made (P.one x hx)).1 (okC_made (P.one x hx)).2
 ·have := (List.mem_filter.1 ha).2
  rw [twin_with]; simpa using this
theorem putL_bj {l : List TCookie} {c : TCookie} (B : BJ l) (hl : l.length ≤ 10) (hc : BC c) : BJ (putL l c) := by
 obtain ⟨t, h1, _⟩ := madeJ_with l c
 unfold putL
 rw [h1]
 exact (B.sub List.filter_sublist).snoc (hc.with t) (Nat.le_trans (List.length_filter_le _ _) (by omega))
theorem JarPut_tot {n : Nat} (hn : 4194304 + 27 ≤ n) {l : List TCookie} {c : TCookie} (B : BJ l) (hok : okJar l = true) (hc : BC c) (now : Int) : Tot (cs_JarPut n l c now) fun r => okJar r.1 = true ∧ BJ r.1 ∧ (okCookie c = true → CutOf (cleanL (putL l c) now) r.1) := by
 obtain ⟨m, rfl⟩ := sn hn
 have hJ := (okJar_iff l).1 hok
 rw [es_JarPut]; unfold ms_JarPut
 rw [spec_JarOk_ok (by omega) B, hok]
 simp only [Option.bind_some, Bool.not_true, cond_false, spec_CookieOk_ok (n := m) (by omega) hc]
 cases hoc : okCookie c with
 | false => exact Tot.grd (ap_le (by simp; omega)) (Tot.one ⟨hok, B, fun h => by cases h⟩)
 | true =>
  simp only [Bool.not_true, cond_false]
  refine Tot.bind (l7Put_tot (by omega) hJ.2 hJ.1.one hoc now) fun r hr => Tot.one ⟨?_, ?_, fun _ => hr⟩
  ·have hs : r.1.Sublist (putL l c) := hr.1.trans List.filter_sublist
   exact (okJar_iff _).2 ⟨(putL_pre hJ.1 hoc).sub hs, hr.2.1⟩
  ·exact (putL_bj B hJ.2 hc).sub (hr.1.trans List.filter_sublist)
def nI (i : Nat) : TCookie := ([110] ++ Lib.decDigits i, [], [97, 46, 99, 111, 109], false, [47], 0, false, 1, (i : Int), ())
theorem nI_one {i : Nat} (h : i < 10) : nI i = ([110, UInt8.ofNat (48 + i)], [], [97, 46, 99, 111, 109], false, [47], 0, false, 1, (i : Int), ()) := by
 unfold nI; rw [Lib.decDigits_one h]; rfl
theorem nI_ok {i : Nat} (h : i < 10) : okCookie (nI i) = true := by
 rw [nI_one h]
 obtain rfl | rfl | rfl | rfl | rfl | rfl | rfl | rfl | rfl | rfl : i = 0 ∨ i = 1 ∨ i = 2 ∨ i = 3 ∨ i = 4 ∨ i = 5 ∨ i = 6 ∨ i = 7 ∨ i = 8 ∨ i = 9 := by omega
 all_goals decide +kernel
theorem nI_ne {i j : Nat} (hi : i < 10) (hj : j < i) : (nI j).1 ≠ (nI i).1 := by
 rw [nI_one hi, nI_one (by omega)]
 intro e
 simp only [List.cons.injEq, and_true, true_and] at e
 have := congrArg UInt8.toNat e
 simp only [UInt8.toNat_ofNat'] at this
 omega
theorem nI_bc {i : Nat} (hi : i < 10) : BC (nI i) := by rw [nI_one hi]; exact ⟨by simp, by simp, by simp⟩
theorem fill_tot {n m : Nat} (hn : 4194304 + 28 ≤ n) (hm : 100 ≤ m) {l : List TCookie} (y : Int × TRd × Unit) (B : BJ l) (hok : okJar l = true) : Tot (loopR (ms_l11Jar.l0 n y) m (l, (0 : Int), ())) fun r => (okJar r.1 = true ∧ BJ r.1) ∧ r.2 = (y.2.1, ()) := by
 refine loop_tot (fun st => 10 - st.2.1.toNat) (fun st => (okJar st.1 = true ∧ BJ st.1) ∧ ∃ (i : Nat) (A C : List TCookie), st.2.1 = (i : Int) ∧ i ≤ 10 ∧ st.1 = A ++ C ∧ C.length = i ∧ ∀ c ∈ C, c.2.2.2.2.2.1 = 0 ∧ ∃ j, j < i ∧ c.1 = (nI j).1) _ ?_ m _
  ⟨⟨hok, B⟩, 0, l, [], rfl, by omega, by simp, rfl, by simp⟩ (by simp; omega)
 rintro ⟨J, i0, ⟨⟩⟩ self ⟨⟨hJ0, BJ0⟩, i, A, C, h10, h2, h30, h4, h5⟩ ih
 obtain rfl : i0 = (i : Int) := h10
 have h3 : J = A ++ C := h30
 have hJ : okJar J = true := hJ0
 have BJ' : BJ J := BJ0
 unfold ms_l11Jar.l0
 refine Tot.cond (fun h0 => ?_) (fun _ => Tot.one ⟨⟨hJ, BJ'⟩, rfl⟩)
 have h0 : (J.length : Int) < 10 := of_decide_eq_true h0
 have hlen : J.length = A.length + C.length := by rw [h3]; simp
 have hi : i < 10 := by omega
 rw [spec_l1Dec_ok (by omega) i (by omega)]
 simp only [Option.bind_some]
 refine Tot.grd (by rw [Lib.decDigits_one hi]; simp) ?_
 have hw : IntKind.i64.wrap ((i : Int) + 1) = ((i + 1 : Nat) : Int) := w_i (by omega)
 simp only [hw]
 refine Tot.bind (JarPut_tot (c := nI i) (by omega) BJ' hJ (nI_bc hi) 0) fun r ⟨r1, r2, r3⟩ => ?_
 refine ih _ (by simp only; omega) ⟨⟨r1, r2⟩, i + 1, cleanL (A.filter fun x => !twin x (nI i)) 0, C ++ [madeJ J (nI i)], rfl, by omega, ?_, by simp [h4], fun c hc => ?_⟩
 ·have hcut := r3 (nI_ok hi)
  have hq : (cleanL (putL J (nI i)) 0).length ≤ 10 := Nat.le_trans (List.length_filter_le _ _) (by unfold putL; have := List.length_filter_le (fun x => !twin x (nI i)) J; simp at this ⊢; omega)
  show r.1 = _
  rw [hcut.2.2 hq]
  unfold putL
  rw [h3, List.filter_append]
  unfold cleanL
  rw [List.filter_append, List.filter_append, List.append_assoc]
  congr 1
  have e1 : C.filter (fun x => !twin x (nI i)) = C := List.filter_eq_self.2 fun c hc => by
   obtain ⟨_, j, hj, hn⟩ := h5 c hc
   have : c.1 ≠ (nI i).1 := by rw [hn]; exact nI_ne hi hj
   unfold twin
   rw [decide_eq_false this]; rfl
  have e2 : C.filter (fun c => !overM c 0) = C := List.filter_eq_self.2 fun c hc => by
   unfold overM
   rw [(h5 c hc).1]; rfl
  rw [e1, e2]
  congr 1
  obtain ⟨t, g1, _⟩ := madeJ_with (A ++ C) (nI i)
  rw [g1]
  have : overM (withMade (nI i) t) 0 = false := by unfold overM withMade nI; rfl
  simp [this]
 ·rcases List.mem_append.1 hc with hc | hc
  ·obtain ⟨g1, j, g2, g3⟩ := h5 c hc
   exact ⟨g1, j, by omega, g3⟩
  ·rw [List.mem_singleton.1 hc]
   obtain ⟨t, g1, _⟩ := madeJ_with J (nI i)
   rw [g1]
   exact ⟨rfl, i, by omega, rfl⟩
def GJ (l : List TCookie) : Prop := okJar l = true ∧ BJ l
theorem jar_go {n : Nat} (hn : 4194304 + 36 ≤ n) {b : List Int} (B : RdOk b) : ∀ (k : Nat) (m : Nat) (l : List TCookie) (p : Int), k < m → 0 ≤ p → p + 40 * k ≤ 500000 → GJ l →
  Dr b p (40 * k + 1) GJ (loopR (ms_l11Jar.l1 n) m (l, (k : Int), (b, p, ()), ()))
 | 0, m + 1, l, p, _, h0, h1, hJ => by
  show Dr _ _ _ _ (ms_l11Jar.l1 n (loopR (ms_l11Jar.l1 n) m) _)
  generalize hG : loopR (ms_l11Jar.l1 n) m = G
  unfold ms_l11Jar.l1
  simp only [bif_dec]
  rw [if_neg (by omega)]
  refine Dr.bind (pick_dr (by omega) B h0 (by omega) (by omega)) fun x q g1 g2 g3 => ?_
  dsimp only
  split
  ·obtain ⟨⟨r, rd, ⟨⟩⟩, e, hr, hr2⟩ := fill_tot (n := n) (m := n) (by omega) (by omega) (x, (b, q, ()), ()) hJ.2 hJ.1
   have hr2 : rd = (b, q, ()) := by have := congrArg Prod.fst hr2; exact this
   subst hr2
   rw [e]
   exact Dr.mk (by omega) (by omega) hr
  ·exact Dr.mk (by omega) (by omega) hJ
 | k + 1, m + 1, l, p, hm, h0, h1, hJ => by
  show Dr _ _ _ _ (ms_l11Jar.l1 n (loopR (ms_l11Jar.l1 n) m) _)
  generalize hG : loopR (ms_l11Jar.l1 n) m = G
  unfold ms_l11Jar.l1
  simp only [bif_dec]
  rw [if_pos (by omega)]
  refine Dr.bind (cookie_dr (by omega) B h0 (by omega)) fun c q g1 g2 hc => ?_
  obtain ⟨r, e, r1, r2, _⟩ := JarPut_tot (n := n) (by omega) hJ.2 hJ.1 hc 0
  have hw : IntKind.i64.wrap (((k + 1 : Nat) : Int) - 1) = (k : Int) := by rw [w64 (by omega) (by omega)]; omega
  simp only [e, Option.bind_some, hw]
  obtain ⟨u, q4, e, g7, g8, g9⟩ := jar_go hn B k m r.1 q (by omega) (by omega) (by omega) ⟨r1, r2⟩
  exact ⟨u, q4, by rw [← hG]; exact e, by omega, by omega, g9⟩
 | 0, 0, _, _, h, _, _, _ => absurd h (Nat.not_lt_zero _)
 | _ + 1, 0, _, _, h, _, _, _ => absurd h (Nat.not_lt_zero _)
theorem jar_dr {n : Nat} (hn : 4194304 + 37 ≤ n) {b : List Int} (B : RdOk b) {p : Int} (h0 : 0 ≤ p) (h1 : p ≤ 490000) : Dr b p 300 GJ (cs_l11Jar n (b, p, ())) := by
 obtain ⟨m, rfl⟩ := sn hn
 rw [es_l11Jar]; unfold ms_l11Jar
 refine Dr.bind (pick_dr (c := 6) (by omega) B h0 (by omega) (by omega)) fun k q g1 g2 g3 => ?_
 dsimp only
 have := jar_go (n := m) (by omega) B k.toNat m [] q (by omega) (by omega) (by omega) ⟨by rw [okJar_pre preJ_nil]; rfl, BJ.nil⟩
 rw [show ((k.toNat : Nat) : Int) = k by omega] at this
 obtain ⟨s, q3, e, g7, g8, g9⟩ := this
 exact ⟨s, q3, e, by omega, by omega, g9⟩
theorem anyjar_dr {n : Nat} (hn : 4194304 + 38 ≤ n) {b : List Int} (B : RdOk b) {p : Int} (h0 : 0 ≤ p) (h1 : p ≤ 480000) : Dr b p 400 (fun l => BJ l ∧ l.length ≤ 11) (cs_l11AnyJar n (b, p, ())) := by
 obtain ⟨m, rfl⟩ := sn hn
 rw [es_l11AnyJar]; unfold ms_l11AnyJar
 refine Dr.bind (jar_dr (by omega) B h0 (by omega)) fun l q g1 g2 hJ => ?_
 have hl : l.length ≤ 10 := ((okJar_iff l).1 hJ.1).2
 refine Dr.bind (pick_dr (by omega) B (by omega) (by omega) (by omega)) fun x q2 a1 a2 a3 => ?_
 simp only [bif_dec, grd_dec]
 split
 ·refine Dr.bind (anycookie_dr (by omega) B (by omega) (by omega)) fun c q3 b1 b2 hc => ?_
  dsimp only
  rw [if_pos (ap_le (by simp; omega))]
  exact Dr.mk (by omega) (by omega) ⟨hJ.2.snoc hc (by omega), by simp; omega⟩
 split
 ·split
  ·rename_i hp
   rw [if_pos (by omega), if_pos (ap_le (by simp; omega))]
   exact Dr.mk (by omega) (by omega) ⟨hJ.2.snoc (hJ.2.ck _ (getD_mem _ (by simpa using hp))) (by omega), by simp; omega⟩
  ·exact Dr.mk (by omega) (by omega) ⟨hJ.2, by omega⟩
 ·exact Dr.mk (by omega) (by omega) ⟨hJ.2, by omega⟩
end Go.VM.T
namespace Go.VM.T
open Go Go.VM
theorem DrawJarText_ok {n : Nat} (hn : 4194304 + 40 ≤ n) {code : List Int} (hl : code.length ≤ 1048576) (hc : ∀ x ∈ code, 0 ≤ x ∧ x ≤ 255) : ∃ l, cs_DrawJarText n code = some (l, ()) ∧ BJ l := by
 obtain ⟨m, rfl⟩ := sn hn
 rw [es_DrawJarText]; unfold ms_DrawJarText
 obtain ⟨b, B, e0⟩ := open_ok (n := m) (by omega) hl hc
 obtain ⟨l, q, e1, a1, a2, hJ⟩ := anyjar_dr (n := m) (p := 0) (by omega) B (by omega) (by omega)
 exact ⟨l, by simp only [e0, e1, Option.bind_some], hJ.1⟩
theorem law_FnJarText {n : Nat} (hn : 4194304 + 60 ≤ n) {code : List Int} (hc : ∀ x ∈ code, 0 ≤ x ∧ x ≤ 255) : cl_FnJarText n code = some (true, ()) := by
 obtain ⟨m, rfl⟩ := sn hn
 rw [el_FnJarText]; unfold ml_FnJarText
 rw [bif_dec]
 split
 ·rfl
 rename_i hl
 obtain ⟨l, ed, B⟩ := DrawJarText_ok (n := m) (code := code) (by omega) (by omega) hc
 rw [ed, Option.bind_some]
 dsimp only
 rw [impl_JarText_ok (n := m) (by omega) B, Option.bind_some, spec_JarText_ok (n := m) (by omega) B, Option.bind_some]
 dsimp only
 rw [beq_self_eq_true, Bool.not_true, cond_false, spec_JarOk_ok (n := m) (by omega) B, Option.bind_some]
 dsimp only
 cases hok : okJar l with
 | false => simp only [Bool.not_false, cond_true, Option.bind_some, beq_self_eq_true]
 | true =>
 have hlen : l.length ≤ 10 := ((okJar_iff l).1 hok).2
 rw [Bool.not_true, cond_false, bif_dec]
 split
 ·simp only [Option.bind_some, beq_self_eq_true]
 rename_i hz
 cases l with
 | nil => exact absurd rfl hz
 | cons c rest =>
 have B1 : BJ [c] := B.sub (by simp)
 have B2 : BJ rest := B.sub (by simp)
 have o1 : okJar [c] = true := okJar_sub hok (by simp)
 have o2 : okJar rest = true := okJar_sub hok (by simp)
 have e1 : (((c :: rest).take (1 : Int).toNat).drop 0) = [c] := rfl
 have e2 : (((c :: rest).take (c :: rest).length).drop (1 : Int).toNat) = rest := by rw [List.take_length]; rfl
 have e3 : (c :: rest).getD (0 : Int).toNat dCookie = c := rfl
 have hT : jarT (c :: rest) = if rest = [] then pairM c else pairM c ++ [59, 32] ++ jarT rest := by
  cases rest with
  | nil => simp [jarT, join_one]
  | cons d rest => unfold jarT; simp only [List.map_cons]; rw [join_two, if_neg (by simp)]
 have t0 : jarText (c :: rest) = jarT (c :: rest) := by unfold jarText; rw [if_pos hok]
 have t1 : jarText [c] = pairM c := by unfold jarText; rw [if_pos o1]; simp [jarT, join_one]
 have t2 : jarText rest = jarT rest := by unfold jarText; rw [if_pos o2]
 have b1 := (B.ck c (by simp)).name
 have b2 := (B.ck c (by simp)).val
 have hp : c.1 ++ ([61] : Bs) ++ c.2.1 = pairM c := by simp [pairM]
 have hpl : (pairM c).length ≤ 2001 := by rw [← hp]; simp; omega
 have hrl : (jarT rest).length ≤ 43 * rest.length := by
  have := jarT_len o2 rest.length (Nat.le_refl _)
  rwa [List.take_length] at this
 have hrl2 : rest.length ≤ 9 := by simp at hlen; omega
 have k0 : (0 : Int) < ((c :: rest).length : Int) := by rw [List.length_cons]; omega
 have k1 : (1 : Int) ≤ ((c :: rest).length : Int) := by rw [List.length_cons]; omega
 have k2 : c.1.length + ([61] : Bs).length ≤ 9223372036854775807 := by simp; omega
 have k3 : (c.1 ++ ([61] : Bs)).length + c.2.1.length ≤ 9223372036854775807 := by simp; omega
 have k4 : (pairM c).length + ([59,32] : Bs).length ≤ 9223372036854775807 := by simp; omega
 have k5 : (pairM c ++ ([59,32] : Bs)).length + (jarT rest).length ≤ 9223372036854775807 := by simp; omega
 simp only [bif_dec, grd_dec]
 simp only [e1, e2, e3, impl_JarText_ok (n := m) (by omega) B1, impl_JarText_ok (n := m) (by omega) B2, Option.bind_some, t0, t1, t2, hp, k0, k1, k2, k3, k4, k5, if_true, Int.le_refl, show (0 : Int) ≤ 1 by omega, beq_self_eq_true, cond_true]
 rw [hT]
 by_cases hr : rest = []
 ·subst hr
  rw [if_pos (show (([c] : List TCookie).length : Int) = 1 from rfl)]; simp
 ·rw [if_neg hr, if_neg (by have := List.length_pos_iff.2 hr; simp; omega)]; simp
end Go.VM.T
