/- The plain law: what the models compute answers as the statement says. -/
import Derived.Test.YtphnmhmmebomkaaGreatDoorY7
import Derived.Test.YtphnmhmmebomkaaGreatDoorY4
set_option linter.unusedVariables false
set_option linter.unusedSimpArgs false
namespace Go.VM.T
open Go Go.VM
theorem plainName_ok {n : Nat} (hn : 4194304 + 5 ≤ n) {s : Bs} (hs : s.length ≤ 3000000) : ci_plainName n s = some (nameOk s, ()) := by
 obtain ⟨m, rfl⟩ := sn hn
 rw [ei_plainName]; unfold mi_plainName nameOk
 rw [impl_isHostName_ok (by omega) hs]
 simp only [Option.bind_some]
 cases isNameM s with
 | false => rfl
 | true => simp only [cond_true, impl_endsInNumber_ok (n := m) (by omega) hs, Option.bind_some, Bool.true_and]
theorem l7Name_ok {n : Nat} (hn : 4194304 + 6 ≤ n) {s : Bs} (hs : s.length ≤ 3000000) : cs_l7Name n s = some (nameOk s, ()) := by
 obtain ⟨m, rfl⟩ := sn hn
 rw [es_l7Name]; unfold ms_l7Name
 rw [spec_HostOk_ok (by omega) (h := (1, s, 0, ())) hs]
 have : okH (1, s, 0, ()) = nameOk s := by unfold okH hostOkM nameOk; simp
 rw [this]; rfl
theorem tok_false {s : Bs} {i : Nat} {c : UInt8} (h : s[i]? = some c) (hc : tokC c = false) : tokM s = false := by
 unfold tokM
 rw [List.all_eq_false.2 ⟨c, List.mem_of_getElem? h, by simp [hc]⟩]; rfl
theorem tok_end {s : Bs} (h : s.all tokC = true) : tokM s = decide ((s.length : Int) ≤ 20) := by
 unfold tokM; rw [h, Bool.true_and, decide_eq_decide]; omega
theorem sep_ix (c : UInt8) : decide (0 ≤ Lib.indexByte [59, 44, 61, 34] c) = ([59,44,61,34] : Bs).contains c := by
 have := u8_all (p := fun c => decide (0 ≤ Lib.indexByte [59, 44, 61, 34] c) == ([59,44,61,34] : Bs).contains c) (by decide +kernel) c
 simpa using this
theorem IndexByte_ok {n : Nat} (hn : 4194304 + 1 ≤ n) (s : Bs) (c : UInt8) : c_strings_IndexByte n s (c.toNat : Int) = some (Lib.indexByte s c, ()) := by
 obtain ⟨m, rfl⟩ := sn hn
 have hc := byte_le c
 rw [eq_strings_IndexByte]
 show (if 0 ≤ (c.toNat : Int) ∧ (c.toNat : Int) < 256 then some (Lib.indexByte s ((c.toNat : Int)).toNat.toUInt8, ()) else none) = _
 rw [if_pos ⟨hc.1, by omega⟩]
 simp
theorem isToken_ok {n : Nat} (hn : 4194304 + 2 ≤ n) {s : Bs} (hs : s.length ≤ 4000000) : ci_isToken n s = some (tokM s, ()) := by
 obtain ⟨m, rfl⟩ := sn hn
 rw [ei_isToken]; unfold mi_isToken
 refine loopS s (fun _ i st r => r = (tokM s, ()) ∧ st = ((i : Int), ()) ∧ (s.take i).all tokC = true) ?_ ?_ ⟨rfl, rfl, by simp⟩ (by omega)
 ·rintro st r self ⟨rfl, rfl, h⟩
  unfold mi_isToken.l0
  rw [List.take_length] at h
  simp only [bif_dec]
  rw [if_neg (by omega), tok_end h]
 ·rintro c L i st r self _ hi hx ⟨rfl, rfl, h⟩ ih
  unfold mi_isToken.l0
  have hb := bt_get hx
  have i1 : (0 : Int) ≤ (i : Int) := by omega
  have i2 : (i : Int) < (s.length : Int) := by omega
  simp only [bif_dec, grd_dec, hb, i1, i2, if_true, IndexByte_ok (n := m) (by omega), Option.bind_some, w_i (show i ≤ 4000000 by omega)]
  have hf : tokC c = false → some (false, ()) = some (tokM s, ()) := fun k => by rw [tok_false hx k]
  by_cases c1 : (c.toNat : Int) < 33
  ·rw [if_pos c1]; exact hf (by unfold tokC; rw [decide_eq_false (by omega)]; rfl)
  rw [if_neg c1]
  by_cases c2 : (126 : Int) < (c.toNat : Int)
  ·rw [if_pos c2]; exact hf (by unfold tokC; rw [decide_eq_false (by omega)]; rfl)
  rw [if_neg c2]
  have hsep := sep_ix c
  by_cases c3 : (0 : Int) ≤ Lib.indexByte [59, 44, 61, 34] c
  ·rw [if_pos c3]
   rw [decide_eq_true c3] at hsep
   exact hf (by unfold tokC; rw [← hsep]; simp)
  ·rw [if_neg c3]
   rw [decide_eq_false c3] at hsep
   refine ih _ ⟨rfl, rfl, ?_⟩
   rw [take_snoc hx, List.all_append, h]
   simp only [List.all_cons, List.all_nil, Bool.and_true, Bool.true_and]
   unfold tokC
   rw [← hsep, decide_eq_true (by omega)]; rfl
theorem l7Crumb_ok {n : Nat} (hn : 4194304 + 1 ≤ n) {s : Bs} (hs : s.length ≤ 4000000) : cs_l7Crumb n s = some (tokM s, ()) := by
 obtain ⟨m, rfl⟩ := sn hn
 rw [es_l7Crumb]; unfold ms_l7Crumb
 refine loopS s (fun _ i st r => r = (tokM s, ()) ∧ st = ((i : Int), ()) ∧ (s.take i).all tokC = true) ?_ ?_ ⟨rfl, rfl, by simp⟩ (by omega)
 ·rintro st r self ⟨rfl, rfl, h⟩
  unfold ms_l7Crumb.l0
  rw [List.take_length] at h
  simp only [bif_dec]
  rw [if_neg (by omega), tok_end h]
 ·rintro c L i st r self _ hi hx ⟨rfl, rfl, h⟩ ih
  unfold ms_l7Crumb.l0
  have hb := bt_get hx
  have i1 : (0 : Int) ≤ (i : Int) := by omega
  have i2 : (i : Int) < (s.length : Int) := by omega
  simp only [bif_dec, grd_dec, hb, i1, i2, if_true, w_i (show i ≤ 4000000 by omega)]
  have hf : tokC c = false → some (false, ()) = some (tokM s, ()) := fun k => by rw [tok_false hx k]
  have hin : ([59,44,61,34] : Bs).contains c = true → tokC c = false := fun k => by unfold tokC; rw [k]; simp
  by_cases c1 : (c.toNat : Int) ≤ 32
  ·rw [if_pos c1]; exact hf (by unfold tokC; rw [decide_eq_false (by omega)]; rfl)
  rw [if_neg c1]
  by_cases c2 : (126 : Int) < (c.toNat : Int)
  ·rw [if_pos c2]; exact hf (by unfold tokC; rw [decide_eq_false (by omega)]; rfl)
  rw [if_neg c2]
  by_cases k1 : (c.toNat : Int) = 59
  ·rw [if_pos k1]
   obtain rfl : c = 59 := (byte_is c 59 (by omega)).1 k1
   exact hf (hin (by decide))
  rw [if_neg k1]
  by_cases k2 : (c.toNat : Int) = 44
  ·rw [if_pos k2]
   obtain rfl : c = 44 := (byte_is c 44 (by omega)).1 k2
   exact hf (hin (by decide))
  rw [if_neg k2]
  by_cases k3 : (c.toNat : Int) = 61
  ·rw [if_pos k3]
   obtain rfl : c = 61 := (byte_is c 61 (by omega)).1 k3
   exact hf (hin (by decide))
  rw [if_neg k3]
  by_cases k4 : (c.toNat : Int) = 34
  ·rw [if_pos k4]
   obtain rfl : c = 34 := (byte_is c 34 (by omega)).1 k4
   exact hf (hin (by decide))
  rw [if_neg k4]
  refine ih _ ⟨rfl, rfl, ?_⟩
  rw [take_snoc hx, List.all_append, h]
  simp only [List.all_cons, List.all_nil, Bool.and_true, Bool.true_and]
  unfold tokC
  rw [decide_eq_true (by omega), Bool.true_and]
  have n1 : c ≠ 59 := fun e => k1 (by subst e; rfl)
  have n2 : c ≠ 44 := fun e => k2 (by subst e; rfl)
  have n3 : c ≠ 61 := fun e => k3 (by subst e; rfl)
  have n4 : c ≠ 34 := fun e => k4 (by subst e; rfl)
  simp [n1, n2, n3, n4]
theorem four_of (o : Option Int) (s : Bs) : (∀ v, o = some v → 0 ≤ v ∧ v ≤ 4294967295) → (bif (numR o).2.1 then (some ((putH (2, [], (numR o).1, ()) == s), ()) : Option (Bool × Unit)) else some (false, ())) = some ((match o with | some v => fourT v.toNat == s | none => false), ()) := by
 intro h
 cases o with
 | none => rfl
 | some v =>
  show some ((hostPutM 2 [] v == s), ()) = _
  rw [hostPut_four v (h v rfl)]
theorem isFour_ok {n : Nat} (hn : 4194304 + 23 ≤ n) {s : Bs} (hs : s.length ≤ 3000000) : ci_isFour n s = some (isFourM s, ()) := by
 obtain ⟨m, rfl⟩ := sn hn
 rw [ei_isFour]; unfold mi_isFour
 rw [impl_FourGet_ok (by omega) hs]
 simp only [Option.bind_some, impl_HostPut_ok (n := m) (h := (2, [], (numR (fourGetM s)).1, ())) (by omega) (by simp)]
 exact four_of (fourGetM s) s fun v h => fourGet_range s v h
theorem l7Four_ok {n : Nat} (hn : 4194304 + 23 ≤ n) {s : Bs} (hs : s.length ≤ 3000000) : cs_l7Four n s = some (isFourM s, ()) := by
 obtain ⟨m, rfl⟩ := sn hn
 rw [es_l7Four]; unfold ms_l7Four
 rw [spec_FourGet_ok (by omega) hs]
 simp only [Option.bind_some, spec_HostPut_ok (n := m) (h := (2, [], (numR (fourGetM s)).1, ())) (by omega) (by simp)]
 exact four_of (fourGetM s) s fun v h => fourGet_range s v h
theorem prefixOk_ok {n : Nat} (hn : 4194304 + 3 ≤ n) (c : TCookie) : ci_Cookie_prefixOk n c = some (prefM c, ()) := by
 obtain ⟨m, rfl⟩ := sn hn
 rw [ei_Cookie_prefixOk]; unfold mi_Cookie_prefixOk prefM
 simp only [strings_HasPrefix_ok (n := m) (by omega), Option.bind_some, beq_d]
 change (bif hostP.isPrefixOf c.1 then _ else (bif secP.isPrefixOf c.1 then _ else _)) = _
 cases hostP.isPrefixOf c.1 <;> cases secP.isPrefixOf c.1 <;> cases c.2.2.2.2.2.2.1 <;> cases c.2.2.2.1 <;> simp
theorem pre_short {p s : Bs} (h : s.length < p.length) : p.isPrefixOf s = false := by
 cases e : p.isPrefixOf s with
 | false => rfl
 | true => have := (List.isPrefixOf_iff_prefix.1 e).length_le; omega
theorem l7Prefix_ok {n : Nat} (hn : 4194304 + 1 ≤ n) (c : TCookie) : cs_l7Prefix n c = some (prefM c, ()) := by
 obtain ⟨m, rfl⟩ := sn hn
 rw [es_l7Prefix]; unfold ms_l7Prefix prefM
 have e7 : ((c.1.take ((7 : Int)).toNat).drop 0 == ([95,95,72,111,115,116,45] : Bs)) = hostP.isPrefixOf c.1 := prefix_eq c.1 hostP
 have e9 : ((c.1.take ((9 : Int)).toNat).drop 0 == ([95,95,83,101,99,117,114,101,45] : Bs)) = secP.isPrefixOf c.1 := prefix_eq c.1 secP
 simp only [e7, e9, bif_dec, grd_dec, show ((0 : Int) ≤ 7) = True by simp, show ((0 : Int) ≤ 9) = True by simp, if_true]
 have h7 : ¬ (7 : Int) ≤ (c.1.length : Int) → hostP.isPrefixOf c.1 = false := fun h => pre_short (by show c.1.length < 7; omega)
 have h9 : ¬ (9 : Int) ≤ (c.1.length : Int) → secP.isPrefixOf c.1 = false := fun h => pre_short (by show c.1.length < 9; omega)
 by_cases k7 : (7 : Int) ≤ (c.1.length : Int) <;> by_cases k9 : (9 : Int) ≤ (c.1.length : Int)
 ·simp only [k7, k9, if_true]
  cases hostP.isPrefixOf c.1 <;> cases secP.isPrefixOf c.1 <;> cases c.2.2.2.2.2.2.1 <;> cases c.2.2.2.1 <;> simp [beq_d]
 ·simp only [k7, k9, if_true, if_false, h9 k9]
  cases hostP.isPrefixOf c.1 <;> cases c.2.2.2.2.2.2.1 <;> cases c.2.2.2.1 <;> simp [beq_d]
 ·omega
 ·simp only [k7, k9, if_false, h7 k7, h9 k9]
  simp
structure BC (c : TCookie) : Prop where
 name : c.1.length ≤ 1000
 val : c.2.1.length ≤ 1000
 dom : c.2.2.1.length ≤ 1000
theorem head_bt (p : Bs) (h : 0 < p.length) : (bt p 0 = 47) = (p.head? = some 47) := by
 cases p with
 | nil => simp at h
 | cons c l => rw [bt_0, show ((c.toNat : Int) = 47) = (c = 47) from propext (byte_is c 47 (by omega))]; simp
theorem impl_CookieOk_ok {n : Nat} (hn : 4194304 + 24 ≤ n) {c : TCookie} (B : BC c) : ci_CookieOk n c = some (okCookie c, ()) := by
 obtain ⟨m, rfl⟩ := sn hn
 have b1 := B.name
 have b2 := B.val
 have b3 := B.dom
 rw [ei_CookieOk]; unfold mi_CookieOk okCookie homeM
 simp only [plainName_ok (n := m) (s := c.2.2.1) (by omega) (by omega), isFour_ok (n := m) (s := c.2.2.1) (by omega) (by omega), isToken_ok (n := m) (s := c.1) (by omega) (by omega), isToken_ok (n := m) (s := c.2.1) (by omega) (by omega), impl_in_ok (n := m) (by omega), prefixOk_ok (n := m) (by omega), Option.bind_some, beq_d, bif_ndec]
 have e1 : decide ((1 : Int) ≤ (c.2.2.2.2.1.length : Int) ∧ (c.2.2.2.2.1.length : Int) ≤ 200) = decide (1 ≤ c.2.2.2.2.1.length ∧ c.2.2.2.2.1.length ≤ 200) := by rw [decide_eq_decide]; omega
 simp only [e1]
 have key : (bif tokM c.1 then if c.1 = [] then some (false, ()) else bif tokM c.2.1 then bif decide (1 ≤ c.2.2.2.2.1.length ∧ c.2.2.2.2.1.length ≤ 200) then grd (decide (0 ≤ (0 : Int))) (grd (decide ((0 : Int) < (c.2.2.2.2.1.length : Int)))
   (bif decide (bt c.2.2.2.2.1 0 = 47) then bif prefM c then bif decide (0 ≤ c.2.2.2.2.2.1 ∧ c.2.2.2.2.2.1 ≤ 2000001) then bif decide (0 ≤ c.2.2.2.2.2.2.2.2.1 ∧ c.2.2.2.2.2.2.2.2.1 ≤ 1000000) then bif decide (0 ≤ c.2.2.2.2.2.2.2.1 ∧ c.2.2.2.2.2.2.2.1 ≤ 2) then
    if c.2.2.2.2.2.2.2.1 = 0 then some (c.2.2.2.2.2.2.1, ()) else some (true, ()) else some (false, ()) else some (false, ()) else some (false, ()) else some (false, ()) else some (false, ()))) else some (false, ()) else some (false, ()) else some (false, ())) =
   some ((tokM c.1 && (decide (c.1 ≠ []) && (tokM c.2.1 && (decide (1 ≤ c.2.2.2.2.1.length ∧ c.2.2.2.2.1.length ≤ 200) && (decide (c.2.2.2.2.1.head? = some 47) && (prefM c && (decide (0 ≤ c.2.2.2.2.2.1 ∧ c.2.2.2.2.2.1 ≤ 2000001) && (decide (0 ≤ c.2.2.2.2.2.2.2.2.1 ∧ c.2.2.2.2.2.2.2.2.1 ≤ 1000000) && (decide (0 ≤ c.2.2.2.2.2.2.2.1 ∧ c.2.2.2.2.2.2.2.1 ≤ 2) && (decide (c.2.2.2.2.2.2.2.1 ≠ 0) || c.2.2.2.2.2.2.1)))))))))), ()) := by
  cases tokM c.1 with
  | false => rfl
  | true =>
  by_cases k1 : c.1 = []
  ·simp [k1]
  cases tokM c.2.1 with
  | false => simp [k1]
  | true =>
  by_cases k2 : 1 ≤ c.2.2.2.2.1.length ∧ c.2.2.2.2.1.length ≤ 200
  case neg => simp [k1, k2]
  have k3 : (0 : Int) < (c.2.2.2.2.1.length : Int) := by omega
  simp only [k1, k2, k3, if_false, grd_dec, if_true, decide_true, cond_true, Bool.true_and, and_self, head_bt c.2.2.2.2.1 (by omega), Int.le_refl, ne_eq, not_false_eq_true]
  by_cases k4 : c.2.2.2.2.2.2.2.1 = 0 <;> cases decide (c.2.2.2.2.1.head? = some 47) <;> cases prefM c <;> cases decide (0 ≤ c.2.2.2.2.2.1 ∧ c.2.2.2.2.2.1 ≤ 2000001) <;> cases decide (0 ≤ c.2.2.2.2.2.2.2.2.1 ∧ c.2.2.2.2.2.2.2.2.1 ≤ 1000000) <;> cases decide (0 ≤ c.2.2.2.2.2.2.2.1 ∧ c.2.2.2.2.2.2.2.1 ≤ 2) <;> simp [k4, grd]
 simp only [key]
 cases nameOk c.2.2.1 with
 | true => rfl
 | false => cases c.2.2.2.1 <;> cases isFourM c.2.2.1 <;> rfl
theorem spec_CookieOk_ok {n : Nat} (hn : 4194304 + 24 ≤ n) {c : TCookie} (B : BC c) : cs_CookieOk n c = some (okCookie c, ()) := by
 obtain ⟨m, rfl⟩ := sn hn
 have b1 := B.name
 have b2 := B.val
 have b3 := B.dom
 rw [es_CookieOk]; unfold ms_CookieOk okCookie homeM
 simp only [l7Name_ok (n := m) (s := c.2.2.1) (by omega) (by omega), l7Four_ok (n := m) (s := c.2.2.1) (by omega) (by omega), l7Crumb_ok (n := m) (s := c.1) (by omega) (by omega), l7Crumb_ok (n := m) (s := c.2.1) (by omega) (by omega), spec_l1In_ok (n := m) (by omega), l7Prefix_ok (n := m) (by omega), Option.bind_some, beq_d, bif_ndec, bif_dec, grd_dec]
 have e1 : decide (1 ≤ c.2.2.2.2.1.length ∧ c.2.2.2.2.1.length ≤ 200) = (decide (¬ (c.2.2.2.2.1.length : Int) = 0) && decide (¬ (200 : Int) < (c.2.2.2.2.1.length : Int))) := by
  rw [Bool.eq_iff_iff]; simp only [Bool.and_eq_true, decide_eq_true_eq]; omega
 by_cases k1 : c.1 = []
 ·simp [k1]
 by_cases k2 : (c.2.2.2.2.1.length : Int) = 0
 ·have : decide (1 ≤ c.2.2.2.2.1.length ∧ c.2.2.2.2.1.length ≤ 200) = false := decide_eq_false (by omega)
  simp only [this, k2, if_true, if_false, k1]
  cases nameOk c.2.2.1 <;> cases isFourM c.2.2.1 <;> cases c.2.2.2.1 <;> cases tokM c.1 <;> cases tokM c.2.1 <;> simp
 have k3 : (0 : Int) < (c.2.2.2.2.1.length : Int) := by omega
 simp only [head_bt c.2.2.2.2.1 (by omega), k1, k2, k3, if_true, if_false, Int.le_refl]
 by_cases k4 : (200 : Int) < (c.2.2.2.2.1.length : Int)
 ·have : decide (1 ≤ c.2.2.2.2.1.length ∧ c.2.2.2.2.1.length ≤ 200) = false := decide_eq_false (by omega)
  simp only [this, k4, if_true]
  cases nameOk c.2.2.1 <;> cases isFourM c.2.2.1 <;> cases c.2.2.2.1 <;> cases tokM c.1 <;> cases tokM c.2.1 <;> simp
 have : decide (1 ≤ c.2.2.2.2.1.length ∧ c.2.2.2.2.1.length ≤ 200) = true := decide_eq_true (by omega)
 simp only [this, k4, if_false]
 by_cases k5 : c.2.2.2.2.1.head? = some 47
 case neg =>
  simp only [k5, if_false, decide_false]
  cases nameOk c.2.2.1 <;> cases isFourM c.2.2.1 <;> cases c.2.2.2.1 <;> cases tokM c.1 <;> cases tokM c.2.1 <;> simp
 simp only [k5, if_true, decide_true]
 by_cases k6 : 0 ≤ c.2.2.2.2.2.1 ∧ c.2.2.2.2.2.1 ≤ 2000001 <;> by_cases k7 : 0 ≤ c.2.2.2.2.2.2.2.2.1 ∧ c.2.2.2.2.2.2.2.2.1 ≤ 1000000 <;> by_cases k8 : 0 ≤ c.2.2.2.2.2.2.2.1 ∧ c.2.2.2.2.2.2.2.1 ≤ 2 <;> by_cases k9 : c.2.2.2.2.2.2.2.1 = 0
 all_goals
  simp only [k6, k7, k8, k9, if_true, if_false, decide_true, decide_false, and_self, ne_eq, not_true_eq_false, not_false_eq_true, k1]
  cases nameOk c.2.2.1 <;> cases isFourM c.2.2.1 <;> cases c.2.2.2.1 <;> cases tokM c.1 <;> cases tokM c.2.1 <;> cases prefM c <;> simp [k1, k6, k7, k8, k9]
end Go.VM.T
namespace Go.VM.T
open Go Go.VM
theorem suf_len {s p : Bs} (h : ¬ p.length ≤ s.length) : p.isSuffixOf s = false := by
 cases e : p.isSuffixOf s with
 | false => rfl
 | true => exact absurd (List.IsSuffix.length_le (List.isSuffixOf_iff_suffix.1 e)) h
theorem suf_eq (s p : Bs) : (s.drop (s.length - p.length) == p) = p.isSuffixOf s := by
 rw [Bool.eq_iff_iff, beq_iff_eq, List.isSuffixOf_iff_suffix, List.suffix_iff_eq_drop]; exact eq_comm
theorem ends_go {s p : Bs} (hs : s.length ≤ 4000000) : (bif (decide ((p.length : Int) ≤ (s.length : Int))) then (grd (decide (0 ≤ (IntKind.i64.wrap ((s.length : Int) - (p.length : Int))))) (grd (decide ((IntKind.i64.wrap ((s.length : Int) - (p.length : Int))) ≤ (s.length : Int))) (some ((((s.take s.length).drop (IntKind.i64.wrap ((s.length : Int) - (p.length : Int))).toNat) == p), ())))) else (some (false, ()) : Option (Bool × Unit))) = some (p.isSuffixOf s, ()) := by
 rw [bif_dec]
 by_cases h : (p.length : Int) ≤ (s.length : Int)
 ·have hw : IntKind.i64.wrap ((s.length : Int) - (p.length : Int)) = ((s.length - p.length : Nat) : Int) := by rw [w64 (by omega) (by omega)]; omega
  rw [if_pos h, hw, grd_dec, if_pos (by omega), grd_dec, if_pos (by omega), Int.toNat_natCast, List.take_length, suf_eq]
 ·rw [if_neg h, suf_len (by omega)]
theorem l7Ends_ok {n : Nat} (hn : 4194304 + 1 ≤ n) {s p : Bs} (hs : s.length ≤ 4000000) : cs_l7Ends n s p = some (p.isSuffixOf s, ()) := by
 obtain ⟨m, rfl⟩ := sn hn
 rw [es_l7Ends]; unfold ms_l7Ends
 exact ends_go hs
theorem HasSuffix_ok {n : Nat} (hn : 4194304 + 2 ≤ n) {s p : Bs} (hs : s.length ≤ 4000000) : c_strings_HasSuffix n s p = some (p.isSuffixOf s, ()) := by
 obtain ⟨m, rfl⟩ := sn hn
 rw [eq_strings_HasSuffix]; unfold m_strings_HasSuffix
 obtain ⟨k, rfl⟩ : ∃ k, m = k + 1 := ⟨m - 1, by omega⟩
 rw [eq_stringslite_HasSuffix]; unfold m_stringslite_HasSuffix
 rw [ends_go hs]; rfl
theorem CutPrefix_ok {n : Nat} (hn : 4194304 + 3 ≤ n) (s p : Bs) : c_strings_CutPrefix n s p = some (bif p.isPrefixOf s then s.drop p.length else s, p.isPrefixOf s, ()) := by
 obtain ⟨m, rfl⟩ := sn hn
 rw [eq_strings_CutPrefix]; unfold m_strings_CutPrefix
 obtain ⟨k, rfl⟩ : ∃ k, m = k + 1 := ⟨m - 1, by omega⟩
 rw [eq_stringslite_CutPrefix]; unfold m_stringslite_CutPrefix
 rw [stringslite_HasPrefix_ok (by omega)]
 simp only [Option.bind_some]
 cases h : p.isPrefixOf s with
 | false => rfl
 | true =>
  have hl := (List.isPrefixOf_iff_prefix.1 h).length_le
  simp only [Bool.not_true, cond_false, cond_true, grd_dec]
  rw [if_pos (by omega), if_pos (by omega), Int.toNat_natCast, List.take_length]; rfl
theorem suf_last (b : Bs) : ([47] : Bs).isSuffixOf b = decide (b.getLast? = some 47) := by
 rw [Bool.eq_iff_iff, decide_eq_true_eq, List.isSuffixOf_iff_suffix, List.getLast?_eq_some_iff]
 exact ⟨fun ⟨t, h⟩ => ⟨t, h.symm⟩, fun ⟨t, h⟩ => ⟨t, h.symm⟩⟩
theorem bt_47 {s : Bs} {i : Nat} (h : i < s.length) : decide (bt s (i : Int) = 47) = decide (s[i]? = some 47) := by
 obtain ⟨x, hx⟩ : ∃ x, s[i]? = some x := ⟨_, List.getElem?_eq_getElem h⟩
 rw [bt_get hx, hx, decide_eq_decide]; exact (byte_is x 47 (by omega)).trans (by simp)
theorem impl_PathIn_ok {n : Nat} (hn : 4194304 + 4 ≤ n) {p b : Bs} (hp : p.length ≤ 4000000) (hb : b.length ≤ 4000000) : ci_PathIn n p b = some (pathIn p b, ()) := by
 obtain ⟨m, rfl⟩ := sn hn
 rw [ei_PathIn]; unfold mi_PathIn pathIn
 rw [CutPrefix_ok (n := m) (by omega)]
 simp only [Option.bind_some]
 by_cases h1 : b = []
 ·simp [h1]
 rw [show (b == ([] : Bs)) = false by simpa using h1, decide_eq_true h1]
 simp only [Bool.not_false, cond_true, Bool.true_and]
 cases h2 : b.isPrefixOf p with
 | false => rfl
 | true =>
  have hl := (List.isPrefixOf_iff_prefix.1 h2).length_le
  simp only [cond_true, Bool.true_and, HasSuffix_ok (n := m) (by omega) hb, Option.bind_some, suf_last, grd_dec, Int.le_refl, if_true]
  by_cases h3 : p.length = b.length
  ·have e : p.drop b.length = [] := List.drop_eq_nil_of_le (by omega)
   rw [e, decide_eq_true h3]; rfl
  ·have e : p.drop b.length ≠ [] := fun e => by have := List.drop_eq_nil_iff.1 e; omega
   rw [show (p.drop b.length == ([] : Bs)) = false by simpa using e, decide_eq_false h3]
   have h4 : (0 : Int) < ((p.drop b.length).length : Int) := by rw [List.length_drop]; omega
   simp only [cond_false, Bool.false_or, h4, if_true]
   have := bt_47 (s := p.drop b.length) (i := 0) (by omega)
   rw [show ((0 : Int)) = ((0 : Nat) : Int) from rfl, this, List.getElem?_drop, Nat.add_zero]
   cases decide (b.getLast? = some 47) <;> rfl
theorem spec_PathIn_ok {n : Nat} (hn : 4194304 + 1 ≤ n) {p b : Bs} (hp : p.length ≤ 4000000) (hb : b.length ≤ 4000000) : cs_PathIn n p b = some (pathIn p b, ()) := by
 obtain ⟨m, rfl⟩ := sn hn
 rw [es_PathIn]; unfold ms_PathIn pathIn
 by_cases h1 : b = []
 ·simp [h1]
 have h0 : 0 < b.length := List.length_pos_iff.2 h1
 rw [decide_eq_true h1]
 simp only [bif_dec, grd_dec, Bool.true_and]
 rw [if_neg (by omega)]
 by_cases h2 : (p.length : Int) < (b.length : Int)
 ·rw [if_pos h2, pre_short (by omega)]; rfl
 rw [if_neg h2, if_pos (by omega), if_pos (by omega), Int.toNat_natCast]
 have e : ((p.take b.length).drop 0 == b) = b.isPrefixOf p := prefix_eq p b
 rw [e]
 cases h3 : b.isPrefixOf p with
 | false => rfl
 | true =>
  simp only [Bool.not_true, cond_false, Bool.true_and]
  by_cases h4 : p.length = b.length
  ·rw [if_pos (by omega), decide_eq_true h4]; rfl
  rw [if_neg (by omega), decide_eq_false h4, Bool.false_or]
  have hw : IntKind.i64.wrap ((b.length : Int) - 1) = ((b.length - 1 : Nat) : Int) := by rw [w64 (by omega) (by omega)]; omega
  have k1 : (0 : Int) ≤ ((b.length - 1 : Nat) : Int) := by omega
  have k2 : ((b.length - 1 : Nat) : Int) < (b.length : Int) := by omega
  have k3 : (0 : Int) ≤ (b.length : Int) := by omega
  have k4 : (b.length : Int) < (p.length : Int) := by omega
  simp only [hw, k1, k2, k3, k4, if_true, bt_47 (s := p) (i := b.length) (by omega)]
  have := bt_47 (s := b) (i := b.length - 1) (by omega)
  rw [← List.getLast?_eq_getElem?, decide_eq_decide] at this
  by_cases h5 : b.getLast? = some 47
  ·rw [if_pos (this.2 h5), decide_eq_true h5]; rfl
  ·rw [if_neg (fun k => h5 (this.1 k)), decide_eq_false h5]; rfl
theorem dom_go {h d : Bs} : (bif (!(h == ([] : Bs))) then (bif (!(d == ([] : Bs))) then (bif (h == d) then (some (true, ())) else (bif nameOk h then (some ((46 :: d).isSuffixOf h, ())) else (some (false, ())))) else (some (false, ()))) else (some (false, ()) : Option (Bool × Unit))) = some (domM h d, ()) := by
 unfold domM
 by_cases h1 : h = []
 ·simp [h1]
 by_cases h2 : d = []
 ·simp [h2]
 by_cases h3 : h = d
 ·subst h3
  rw [show (h == ([] : Bs)) = false by simpa using h1, show (h == h) = true by simp, decide_eq_true h1, decide_eq_true (rfl : h = h)]; rfl
 rw [show (h == ([] : Bs)) = false by simpa using h1, show (d == ([] : Bs)) = false by simpa using h2, show (h == d) = false by simpa using h3, decide_eq_true h1, decide_eq_true h2, decide_eq_false h3]
 cases nameOk h <;> rfl
theorem impl_DomainIn_ok {n : Nat} (hn : 4194304 + 7 ≤ n) {h d : Bs} (hh : h.length ≤ 3000000) (hd : d.length ≤ 3000000) : ci_DomainIn n h d = some (domM h d, ()) := by
 obtain ⟨m, rfl⟩ := sn hn
 rw [ei_DomainIn]; unfold mi_DomainIn
 have hl : ([46] : Bs).length + d.length ≤ 9223372036854775807 := by simp; omega
 simp only [plainName_ok (n := m) (s := h) (by omega) hh, HasSuffix_ok (n := m) (s := h) (by omega) (by omega), Option.bind_some, grd_dec, hl, if_true]
 exact dom_go
theorem spec_DomainIn_ok {n : Nat} (hn : 4194304 + 7 ≤ n) {h d : Bs} (hh : h.length ≤ 3000000) (hd : d.length ≤ 3000000) : cs_DomainIn n h d = some (domM h d, ()) := by
 obtain ⟨m, rfl⟩ := sn hn
 rw [es_DomainIn]; unfold ms_DomainIn
 have hl : ([46] : Bs).length + d.length ≤ 9223372036854775807 := by simp; omega
 simp only [l7Name_ok (n := m) (s := h) (by omega) hh, l7Ends_ok (n := m) (s := h) (by omega) (by omega), Option.bind_some, grd_dec, hl, if_true]
 rw [← dom_go]
 have : ∀ a b : Bool, (bif a then (some (b, ()) : Option (Bool × Unit)) else some (false, ())) = bif b then some (a, ()) else some (false, ()) := by decide
 rw [this]; rfl
def whyM (c : TCookie) (a b : Bool) : Bool := a || (decide (c.2.2.2.2.2.2.2.1 = 0) || (decide (c.2.2.2.2.2.2.2.1 = 1) && b))
def goesM (c : TCookie) (u : TUrl) (a b : Bool) (now : Int) : Bool := okCookie c && (okU u && (!decide (u.2.2.2.1.1 = 0) && (!overM c now && ((!c.2.2.2.2.2.2.1 || u.1 == httpsB) && ((bif c.2.2.2.1 then putH u.2.2.2.1 == c.2.2.1 else domM (putH u.2.2.2.1) c.2.2.1) && (pathIn (slashM u.2.2.2.2.2.1) c.2.2.2.2.1 && whyM c a b))))))
theorem over_go {c : TCookie} (h : okCookie c = true) (now : Int) : (bif (!decide (c.2.2.2.2.2.1 = (0 : Int))) then (some ((decide ((IntKind.i64.wrap (c.2.2.2.2.2.1 - (1 : Int))) ≤ now)), ())) else (some (false, ()) : Option (Bool × Unit))) = some (overM c now, ()) := by
 unfold overM
 simp only [okCookie, Bool.and_eq_true, decide_eq_true_eq] at h
 obtain ⟨_, _, _, _, _, _, _, ⟨h1, h2⟩, _⟩ := h
 by_cases h0 : c.2.2.2.2.2.1 = 0
 ·simp [h0]
 ·rw [w64 (by omega) (by omega)]; simp [h0]
theorem expired_ok {n : Nat} (hn : 4194304 + 1 ≤ n) {c : TCookie} (h : okCookie c = true) (now : Int) : ci_Cookie_expired n c now = some (overM c now, ()) := by
 obtain ⟨m, rfl⟩ := sn hn
 rw [ei_Cookie_expired]; unfold mi_Cookie_expired
 exact over_go h now
theorem l7Over_ok {n : Nat} (hn : 4194304 + 1 ≤ n) {c : TCookie} (h : okCookie c = true) (now : Int) : cs_l7Over n c now = some (overM c now, ()) := by
 obtain ⟨m, rfl⟩ := sn hn
 rw [es_l7Over]; unfold ms_l7Over
 exact over_go h now
theorem why_go (c : TCookie) (a b : Bool) : (bif a then (some (true, ())) else (bif decide (c.2.2.2.2.2.2.2.1 = 0) then (some (true, ())) else (bif decide (c.2.2.2.2.2.2.2.1 = 1) then (some (b, ())) else (some (false, ()) : Option (Bool × Unit))))) = some (whyM c a b, ()) := by
 unfold whyM
 cases a <;> cases decide (c.2.2.2.2.2.2.2.1 = 0) <;> cases decide (c.2.2.2.2.2.2.2.1 = 1) <;> rfl
theorem putH_b {u : TUrl} (hu : szU u ≤ 2000000) : (putH u.2.2.2.1).length ≤ 3000000 := by
 have := putH_len u.2.2.2.1
 unfold szU at hu
 omega
theorem host_b {u : TUrl} (hu : BU u) : u.2.2.2.1.2.1.length ≤ 3000000 := by
 have := hu.1
 unfold szU at this
 omega
theorem okC_path {c : TCookie} (h : okCookie c = true) : c.2.2.2.2.1.length ≤ 200 := by
 simp only [okCookie, Bool.and_eq_true, decide_eq_true_eq] at h
 exact h.2.2.2.2.1.2
theorem impl_CookieGoes_ok {n : Nat} (hn : 4194304 + 31 ≤ n) {c : TCookie} {u : TUrl} (B : BC c) (hu : BU u) (hz : szU u ≤ 2000000) (a b : Bool) (now : Int) : ci_CookieGoes n c u a b now = some (goesM c u a b now, ()) := by
 obtain ⟨m, rfl⟩ := sn hn
 rw [ei_CookieGoes]; unfold mi_CookieGoes goesM
 rw [impl_CookieOk_ok (by omega) B, Option.bind_some]
 cases hc : okCookie c with
 | false => rfl
 | true =>
 have hp := BU_pathM hu
 have hb3 := B.dom
 have hsl := slash_le (k := 4000000) hp (by omega)
 have hcp := okC_path hc
 simp only [impl_UrlOk_ok (n := m) (by omega) hu, expired_ok (n := m) (by omega) hc, Url_path_ok (n := m) (by omega) hp, impl_PathIn_ok (n := m) (p := slashM u.2.2.2.2.2.1) (b := c.2.2.2.2.1) (by omega) hsl (by omega), impl_HostPut_ok (n := m) (h := u.2.2.2.1) (by omega) (host_b hu), impl_DomainIn_ok (n := m) (d := c.2.2.1) (by omega) (putH_b hz) (by omega), Option.bind_some, why_go, Bool.true_and, Bool.not_true, cond_false]
 change (bif !okU u then _ else bif decide (u.2.2.2.1.1 = 0) then _ else bif overM c now then _ else bif c.2.2.2.2.2.2.1 then (bif !(u.1 == httpsB) then _ else _) else _) = _
 cases okU u
 ·rfl
 cases decide (u.2.2.2.1.1 = 0)
 case true => rfl
 cases overM c now
 case true => rfl
 cases c.2.2.2.2.2.2.1 <;> cases (u.1 == httpsB) <;> cases pathIn (slashM u.2.2.2.2.2.1) c.2.2.2.2.1 <;> cases c.2.2.2.1 <;> cases (putH u.2.2.2.1 == c.2.2.1) <;> cases domM (putH u.2.2.2.1) c.2.2.1 <;> rfl
theorem spec_CookieGoes_ok {n : Nat} (hn : 4194304 + 31 ≤ n) {c : TCookie} {u : TUrl} (B : BC c) (hu : BU u) (hz : szU u ≤ 2000000) (a b : Bool) (now : Int) : cs_CookieGoes n c u a b now = some (goesM c u a b now, ()) := by
 obtain ⟨m, rfl⟩ := sn hn
 rw [es_CookieGoes]; unfold ms_CookieGoes goesM
 rw [spec_CookieOk_ok (by omega) B, Option.bind_some]
 cases hc : okCookie c with
 | false => rfl
 | true =>
 have hp := BU_pathM hu
 have hb3 := B.dom
 have hsl := slash_le (k := 4000000) hp (by omega)
 have hcp := okC_path hc
 simp only [spec_UrlOk_ok (n := m) (by omega) hu, l7Over_ok (n := m) (by omega) hc, l7Path_ok (n := m) (by omega) hp, spec_PathIn_ok (n := m) (p := slashM u.2.2.2.2.2.1) (b := c.2.2.2.2.1) (by omega) hsl (by omega), spec_HostPut_ok (n := m) (h := u.2.2.2.1) (by omega) (host_b hu), spec_DomainIn_ok (n := m) (d := c.2.2.1) (by omega) (putH_b hz) (by omega), Option.bind_some, why_go, Bool.true_and, Bool.not_true, cond_false]
 change (bif !okU u then _ else bif decide (u.2.2.2.1.1 = 0) then _ else bif overM c now then _ else bif c.2.2.2.2.2.2.1 then (bif !(u.1 == httpsB) then _ else _) else _) = _
 cases okU u
 ·rfl
 cases decide (u.2.2.2.1.1 = 0)
 case true => rfl
 cases overM c now
 case true => rfl
 cases c.2.2.2.2.2.2.1 <;> cases (u.1 == httpsB) <;> cases pathIn (slashM u.2.2.2.2.2.1) c.2.2.2.2.1 <;> cases c.2.2.2.1 <;> cases (putH u.2.2.2.1 == c.2.2.1) <;> cases domM (putH u.2.2.2.1) c.2.2.1 <;> rfl
theorem dom_self {d : Bs} (h : d ≠ []) : domM d d = true := by unfold domM; simp [h]
theorem okC_dom {c : TCookie} (h : okCookie c = true) : c.2.2.1 ≠ [] := by
 simp only [okCookie, Bool.and_eq_true] at h
 have := h.1
 intro e
 unfold homeM at this
 rw [e] at this
 have h1 : nameOk [] = false := by decide
 have h2 : isFourM [] = false := by decide
 rw [h1, h2] at this
 simp at this
end Go.VM.T
namespace Go.VM.T
open Go Go.VM
def Tot {A : Type} (o : Option A) (Q : A → Prop) : Prop := ∃ a, o = some a ∧ Q a
theorem Tot.bind {A C : Type} {o : Option A} {Q : A → Prop} {f : A → Option C} {Q' : C → Prop} (h : Tot o Q) (hf : ∀ a, Q a → Tot (f a) Q') : Tot (o.bind f) Q' := by
 obtain ⟨a, rfl, ha⟩ := h
 exact hf a ha
theorem Tot.cond {A : Type} {p : Bool} {x y : Option A} {Q : A → Prop} (h1 : p = true → Tot x Q) (h2 : p = false → Tot y Q) : Tot (bif p then x else y) Q := by
 cases p
 ·exact h2 rfl
 ·exact h1 rfl
theorem Tot.grd {A : Type} {p : Prop} [Decidable p] {x : Option A} {Q : A → Prop} (hp : p) (h : Tot x Q) : Tot (Go.VM.grd (decide p) x) Q := by
 rw [grd_dec, if_pos hp]; exact h
theorem Tot.one {A : Type} {a : A} {Q : A → Prop} (h : Q a) : Tot (some a) Q := ⟨a, rfl, h⟩
theorem Tot.of {A : Type} {o : Option A} {a : A} {Q : A → Prop} (e : o = some a) (h : Q a) : Tot o Q := ⟨a, e, h⟩
theorem Tot.mono {A : Type} {o : Option A} {Q Q' : A → Prop} (h : Tot o Q) (k : ∀ a, Q a → Q' a) : Tot o Q' := by
 obtain ⟨a, e, ha⟩ := h
 exact ⟨a, e, k a ha⟩
theorem loop_tot {S R : Type} {F : (S → Option R) → S → Option R} (μ : S → Nat) (P : S → Prop) (Q : R → Prop) (h : ∀ s self, P s → (∀ s', μ s' < μ s → P s' → Tot (self s') Q) → Tot (F self s) Q) : ∀ n s, P s → μ s < n → Tot (loopR F n s) Q
 | 0, s, _, hm => absurd hm (Nat.not_lt_zero _)
 | n + 1, s, hp, hm => h s (loopR F n) hp fun s' h1 h2 => loop_tot μ P Q h n s' h2 (by omega)
theorem wsub {s : Bs} (h : 0 < (s.length : Int)) (hs : s.length ≤ 4000000) : IntKind.i64.wrap ((s.length : Int) - 1) = (s.length : Int) - 1 := w64 (by omega) (by omega)
theorem back_tot {n : Nat} {z : Nat} (hz : z ≤ 4000000) {F : ((Bs × Unit) → Option (Bs × Unit)) → (Bs × Unit) → Option (Bs × Unit)} (hF : F = ms_l7Trim.l0 n) (k : Nat) (s : Bs) (hs : s.length ≤ z) (hk : s.length < k) : Tot (loopR F k (s, ())) fun r => r.1.length ≤ z := by
 subst hF
 refine loop_tot (fun st => st.1.length) (fun st => st.1.length ≤ z) _ ?_ k (s, ()) hs hk
 rintro ⟨s, ⟨⟩⟩ self (hs : s.length ≤ z) ih
 unfold ms_l7Trim.l0
 refine Tot.cond (fun h0 => ?_) (fun _ => Tot.one hs)
 have h0 : (0 : Int) < (s.length : Int) := of_decide_eq_true h0
 have hw := wsub h0 (by omega)
 simp only [hw]
 refine Tot.grd (by omega) (Tot.grd (by omega) (Tot.cond (fun _ => ?_) (fun _ => Tot.one hs)))
 refine Tot.grd (by omega) (Tot.grd (by omega) ?_)
 exact ih _ (by simp; omega) (by simp; omega)
theorem trim_tot {n : Nat} (hn : 4194304 + 1 ≤ n) {s : Bs} (hs : s.length ≤ 4000000) : Tot (cs_l7Trim n s) fun r => r.1.length ≤ s.length := by
 obtain ⟨m, rfl⟩ := sn hn
 rw [es_l7Trim]; unfold ms_l7Trim
 refine loop_tot (fun st => st.1.length) (fun st => st.1.length ≤ s.length) _ ?_ m (s, ()) (Nat.le_refl _) (by simp; omega)
 rintro ⟨t, ⟨⟩⟩ self (ht : t.length ≤ s.length) ih
 unfold ms_l7Trim.l2
 refine Tot.cond (fun h0 => ?_) (fun _ => back_tot (n := m) (F := ms_l7Trim.l1 m) hs rfl m t ht (by omega))
 have h0 : (0 : Int) < (t.length : Int) := of_decide_eq_true h0
 refine Tot.grd (by omega) (Tot.grd h0 (Tot.cond (fun _ => ?_) (fun _ => back_tot (n := m) (F := ms_l7Trim.l0 m) hs rfl m t ht (by omega))))
 refine Tot.grd (by omega) (Tot.grd (show (1 : Int) ≤ (t.length : Int) by omega) ?_)
 exact ih _ (by simp; omega) (by simp; omega)
theorem pair_tot {n : Nat} (hn : 4194304 + 2 ≤ n) {s : Bs} (hs : s.length ≤ 4000000) : Tot (cs_l7Pair n s) fun r => r.1.length ≤ s.length ∧ r.2.1.length ≤ s.length := by
 obtain ⟨m, rfl⟩ := sn hn
 rw [es_l7Pair]; unfold ms_l7Pair
 refine loop_tot (fun st => s.length - st.1.toNat) (fun st => 0 ≤ st.1 ∧ st.1 ≤ (s.length : Int)) _ ?_ m ((0 : Int), ()) ⟨by simp, by simp⟩ (by simp; omega)
 rintro ⟨i, ⟨⟩⟩ self ⟨h1, h2⟩ ih
 have h1 : 0 ≤ i := h1
 have h2 : i ≤ (s.length : Int) := h2
 unfold ms_l7Pair.l0
 refine Tot.cond (fun h0 => ?_) (fun _ => ?_)
 ·have h0 : i < (s.length : Int) := of_decide_eq_true h0
  have hw : IntKind.i64.wrap (i + 1) = i + 1 := w64 (by omega) (by omega)
  simp only [hw]
  refine Tot.grd h1 (Tot.grd h0 (Tot.cond (fun _ => ?_) (fun _ => ih _ (by simp only; omega) ⟨by simp only; omega, by simp only; omega⟩)))
  refine Tot.grd h1 (Tot.grd h2 (Tot.bind (trim_tot (by omega) (by simp; omega)) fun y hy => ?_))
  refine Tot.grd (by omega) (Tot.grd (by omega) (Tot.bind (trim_tot (by omega) (by simp; omega)) fun z hz => ?_))
  exact Tot.one ⟨Nat.le_trans hy (by simp; omega), Nat.le_trans hz (by simp)⟩
 ·exact Tot.bind (trim_tot (by omega) hs) fun y hy => Tot.one ⟨hy, by simp⟩
theorem age_tot {n : Nat} (hn : 4194304 + 1 ≤ n) {s : Bs} (hs : s.length ≤ 4000000) : Tot (cs_l7Age n s) fun _ => True := by
 obtain ⟨m, rfl⟩ := sn hn
 rw [es_l7Age]; unfold ms_l7Age
 refine loop_tot (fun st => s.length - st.2.1.toNat) (fun st => 0 ≤ st.2.1 ∧ st.2.1 ≤ (s.length : Int)) _ ?_ m ((0 : Int), (0 : Int), ()) ⟨by simp, by simp⟩ (by simp; omega)
 rintro ⟨v, i, ⟨⟩⟩ self ⟨h1, h2⟩ ih
 have h1 : 0 ≤ i := h1
 have h2 : i ≤ (s.length : Int) := h2
 unfold ms_l7Age.l0
 refine Tot.cond (fun h0 => ?_) (fun _ => Tot.cond (fun _ => Tot.one trivial) (fun _ => Tot.cond (fun _ => Tot.one trivial) (fun _ => Tot.one trivial)))
 have h0 : i < (s.length : Int) := of_decide_eq_true h0
 have hw : IntKind.i64.wrap (i + 1) = i + 1 := w64 (by omega) (by omega)
 refine Tot.grd h1 (Tot.grd h0 (Tot.cond (fun _ => Tot.one trivial) (fun _ => Tot.grd h1 (Tot.grd h0 (Tot.cond (fun _ => Tot.one trivial) (fun _ => Tot.cond (fun _ => Tot.one trivial) (fun _ => Tot.grd h1 (Tot.grd h0 ?_))))))))
 simp only [hw]
 exact ih _ (by simp only; omega) ⟨by simp only; omega, by simp only; omega⟩
theorem part_tot {n : Nat} (hn : 4194304 + 2 ≤ n) {c : TCookie} (B : BC c) (now : Int) {k v : Bs} (hk : k.length ≤ 1000) (hv : v.length ≤ 1000) : Tot (cs_l7Part n c now k v) fun r => BC r.1 := by
 obtain ⟨m, rfl⟩ := sn hn
 rw [es_l7Part]; unfold ms_l7Part
 have same : ∀ x : TCookie, x.1 = c.1 → x.2.1 = c.2.1 → x.2.2.1 = c.2.2.1 → Tot (some (x, ())) fun r => BC r.1 := fun x h1 h2 h3 => Tot.one ⟨by show x.1.length ≤ _; rw [h1]; exact B.name, by show x.2.1.length ≤ _; rw [h2]; exact B.val, by show x.2.2.1.length ≤ _; rw [h3]; exact B.dom⟩
 rw [spec_Lower_ok (by omega) (by omega)]
 simp only [Option.bind_some]
 refine Tot.cond (fun _ => Tot.cond (fun h0 => ?_) (fun _ => same _ rfl rfl rfl)) (fun _ => Tot.cond (fun _ => Tot.cond (fun h0 => ?_) (fun _ => same _ rfl rfl rfl)) (fun _ => Tot.cond (fun _ => ?_) (fun _ => Tot.cond (fun _ => same _ rfl rfl rfl) (fun _ => Tot.cond (fun _ => ?_) (fun _ => same _ rfl rfl rfl)))))
 ·have hl : (0 : Int) < (v.length : Int) := by
   have : v ≠ [] := by simpa using h0
   have := List.length_pos_iff.2 this
   omega
  refine Tot.grd (by omega) (Tot.grd hl (Tot.cond (fun _ => Tot.grd (by omega) (Tot.grd (by omega) ?_)) (fun _ => ?_)))
  ·rw [spec_Lower_ok (by omega) (by simp; omega)]
   exact Tot.one ⟨B.name, B.val, by show (lowM _).length ≤ _; rw [lowM_len]; simp; omega⟩
  ·rw [spec_Lower_ok (by omega) (by omega)]
   exact Tot.one ⟨B.name, B.val, by show (lowM _).length ≤ _; rw [lowM_len]; omega⟩
 ·have hl : (0 : Int) < (v.length : Int) := by
   have : v ≠ [] := by simpa using h0
   have := List.length_pos_iff.2 this
   omega
  exact Tot.grd (by omega) (Tot.grd hl (Tot.cond (fun _ => same _ rfl rfl rfl) (fun _ => same _ rfl rfl rfl)))
 ·exact Tot.bind (age_tot (by omega) (by omega)) fun y _ => Tot.cond (fun _ => same _ rfl rfl rfl) (fun _ => same _ rfl rfl rfl)
 ·rw [spec_Lower_ok (by omega) (by omega)]
  exact Tot.cond (fun _ => same _ rfl rfl rfl) (fun _ => Tot.cond (fun _ => same _ rfl rfl rfl) (fun _ => same _ rfl rfl rfl))
theorem l7Cut_ok {n : Nat} (hn : 4194304 + 1 ≤ n) {s : Bs} (hs : s.length ≤ 4000000) (c : UInt8) : cs_l7Cut n s (c.toNat : Int) = some (cutM c s, ()) := by
 obtain ⟨m, rfl⟩ := sn hn
 have h := spec_l1Cut_ok hn hs c
 rw [es_l1Cut] at h
 rw [es_l7Cut]
 exact h
theorem getD_P {α : Type} {P : α → Prop} {l : List α} {d : α} (h : ∀ x ∈ l, P x) (hd : P d) (i : Nat) : P (l.getD i d) := by
 by_cases hi : i < l.length
 ·exact h _ (getD_mem d hi)
 ·rw [List.getD_eq_getElem?_getD, List.getElem?_eq_none (by omega)]; exact hd
theorem zero_bc : BC ([], [], [], false, [], 0, false, 0, 0, ()) := ⟨by simp, by simp, by simp⟩
theorem cookieGet_tot {n : Nat} (hn : 4194304 + 34 ≤ n) {u : TUrl} (hu : Sm0 u) (t : Bs) (now : Int) : Tot (cs_CookieGet n u t now) fun r => BC r.1 := by
 obtain ⟨m, rfl⟩ := sn hn
 rw [es_CookieGet]; unfold ms_CookieGet
 have hb := hu.sm.bu
 simp only [spec_UrlOk_ok (n := m) (by omega) hb, spec_l1In_ok (n := m) (by omega), Option.bind_some]
 refine Tot.cond (fun _ => Tot.one zero_bc) (fun _ => Tot.cond (fun _ => Tot.one zero_bc) (fun _ => Tot.cond (fun _ => Tot.one zero_bc) (fun _ => Tot.cond (fun _ => Tot.one zero_bc) (fun ht => ?_))))
 have ht : t.length ≤ 200 := by have := of_decide_eq_false ht; omega
 have h59 : cs_l7Cut m t 59 = some (cutM 59 t, ()) := l7Cut_ok (n := m) (by omega) (by omega) 59
 have hpl : (putH u.2.2.2.1).length ≤ 1000 := by
  have := putH_len u.2.2.2.1
  have := hu.1
  unfold szU at this
  omega
 rw [h59]
 simp only [Option.bind_some, spec_HostPut_ok (n := m) (h := u.2.2.2.1) (by omega) (host_b hb), spec_PathOf_ok (n := m) (by omega) hb]
 have hc := cut_len_pos 59 t
 have hcl := cutM_len 59 t
 have hel : ∀ i, ((cutM 59 t).getD i []).length ≤ 200 := fun i => getD_P (P := fun x : Bs => x.length ≤ 200) (fun x hx => Nat.le_trans (cutM_sub 59 t x hx) ht) (by simp) i
 refine Tot.grd (by omega) (Tot.grd (by omega) (Tot.bind (pair_tot (n := m) (by omega) (by have := hel 0; simpa using Nat.le_trans this (by omega))) fun y hy => ?_))
 have hel0 := hel 0
 refine loop_tot (fun st => (cutM 59 t).length - st.1.toNat) (fun st => 0 ≤ st.1 ∧ st.1 ≤ ((cutM 59 t).length : Int) ∧ BC st.2.1) _ ?_ m _ ⟨by simp, by simp only; omega, ⟨Nat.le_trans hy.1 (Nat.le_trans hel0 (by omega)), Nat.le_trans hy.2 (Nat.le_trans hel0 (by omega)), hpl⟩⟩ (by simp only; omega)
 rintro ⟨i, c, ⟨⟩⟩ self ⟨h1, h2, B⟩ ih
 have h1 : 0 ≤ i := h1
 have h2 : i ≤ ((cutM 59 t).length : Int) := h2
 have B : BC c := B
 have b1 := B.name
 have b2 := B.val
 have b3 := B.dom
 unfold ms_CookieGet.l0
 refine Tot.cond (fun h0 => ?_) (fun _ => ?_)
 ·have h0 : i < ((cutM 59 t).length : Int) := of_decide_eq_true h0
  have hw : IntKind.i64.wrap (i + 1) = i + 1 := w64 (by omega) (by omega)
  refine Tot.grd h1 (Tot.grd h0 (Tot.bind (pair_tot (n := m) (by omega) (Nat.le_trans (hel _) (by omega))) fun z hz => ?_))
  refine Tot.bind (part_tot (n := m) (by omega) B now (Nat.le_trans hz.1 (Nat.le_trans (hel _) (by omega))) (Nat.le_trans hz.2 (Nat.le_trans (hel _) (by omega)))) fun w hw2 => ?_
  simp only [hw]
  exact ih _ (by simp only; omega) ⟨by simp only; omega, by simp only; omega, hw2⟩
 ·simp only [l7Crumb_ok (n := m) (s := c.1) (by omega) (by omega), l7Crumb_ok (n := m) (s := c.2.1) (by omega) (by omega), spec_DomainIn_ok (n := m) (h := putH u.2.2.2.1) (d := c.2.2.1) (by omega) (by omega) (by omega), spec_l2Parts_ok (n := m) (s := c.2.2.1) (by omega) (by omega), l7Prefix_ok (n := m) (c := c) (by omega), spec_CookieOk_ok (n := m) (by omega) B, Option.bind_some]
  have hz : Tot (some ((([] : Bs), ([] : Bs), ([] : Bs), false, ([] : Bs), (0 : Int), false, (0 : Int), (0 : Int), ()), (1 : Int), ())) (fun r : TCookie × Int × Unit => BC r.1) := Tot.one zero_bc
  repeat' first
   | exact Tot.one zero_bc
   | exact Tot.one B
   | refine Tot.cond (fun _ => ?_) (fun _ => ?_)
theorem says_go {n : Nat} (hn : 4194304 + 2 ≤ n) {b : List Int} (B : RdOk b) : ∀ (k : Nat) (m : Nat) (acc : Bs) (p : Int), k < m → 0 ≤ p → p + k ≤ 1000000 → acc.length + 20 * k ≤ 1000 →
  Dr b p k (fun _ => True) (loopR (ms_l11Says.l0 n) m (acc, (k : Int), (b, p, ()), ()))
 | 0, m + 1, acc, p, _, h0, h1, h2 => by
  show Dr _ _ _ _ (ms_l11Says.l0 n (loopR (ms_l11Says.l0 n) m) _)
  generalize hG : loopR (ms_l11Says.l0 n) m = G
  unfold ms_l11Says.l0
  simp only [bif_dec]
  rw [if_neg (by omega)]
  exact Dr.mk (by omega) (by omega) trivial
 | k + 1, m + 1, acc, p, hm, h0, h1, h2 => by
  show Dr _ _ _ _ (ms_l11Says.l0 n (loopR (ms_l11Says.l0 n) m) _)
  generalize hG : loopR (ms_l11Says.l0 n) m = G
  unfold ms_l11Says.l0
  simp only [bif_dec, grd_dec]
  rw [if_pos (by omega)]
  refine Dr.bind (of_dr (P := fun s => s.length ≤ 17) (by omega) B h0 (by omega) (by simp) (by decide)) fun x q g1 g2 g3 => ?_
  dsimp only
  rw [if_pos (by omega), w64 (by omega) (by omega), show (((k + 1 : Nat) : Int) - 1) = (k : Int) by omega]
  obtain ⟨s, q3, e, g7, g8, g9⟩ := says_go hn B k m (acc ++ x) q (by omega) (by omega) (by omega) (by simp only [List.length_append]; omega)
  exact ⟨s, q3, by rw [← hG]; exact e, by omega, by omega, trivial⟩
 | 0, 0, _, _, h, _, _, _ => absurd h (Nat.not_lt_zero _)
 | _ + 1, 0, _, _, h, _, _, _ => absurd h (Nat.not_lt_zero _)
theorem says_dr {n : Nat} (hn : 4194304 + 3 ≤ n) {b : List Int} (B : RdOk b) {p : Int} (h0 : 0 ≤ p) (h1 : p ≤ 900000) : Dr b p 6 (fun _ => True) (cs_l11Says n (b, p, ())) := by
 obtain ⟨m, rfl⟩ := sn hn
 rw [es_l11Says]; unfold ms_l11Says
 refine Dr.bind (of_dr (P := fun s => s.length ≤ 12) (by omega) B h0 (by omega) (by simp) (by decide)) fun x q g1 g2 g3 => ?_
 refine Dr.bind (of_dr (P := fun s => s.length ≤ 12) (by omega) B (by omega) (by omega) (by simp) (by decide)) fun y q2 g4 g5 g6 => ?_
 simp only [grd_dec]
 rw [if_pos (by omega)]
 refine Dr.bind (pick_dr (c := 4) (by omega) B (by omega) (by omega) (by omega)) fun k q3 g7 g8 g9 => ?_
 dsimp only
 have := says_go (n := m) (by omega) B k.toNat m (x ++ y) q3 (by omega) (by omega) (by omega) (by simp only [List.length_append]; omega)
 rw [show ((k.toNat : Nat) : Int) = k by omega] at this
 obtain ⟨s, q4, e, a1, a2, a3⟩ := this
 exact ⟨s, q4, e, by omega, by omega, trivial⟩
theorem cookie_go {n : Nat} (hn : 4194304 + 34 ≤ n) {b : List Int} (B : RdOk b) (z : TCookie) : ∀ (k : Nat) (m : Nat) (p : Int), k ≤ 3 → k < m → 0 ≤ p → p + 10 * k ≤ 590000 →
  Dr b p (10 * k + 1) BC (loopR (ms_l11Cookie.l0 n) m (((3 - k : Nat) : Int), (b, p, ()), z, ()))
 | 0, m + 1, p, _, _, h0, h1 => by
  show Dr _ _ _ _ (ms_l11Cookie.l0 n (loopR (ms_l11Cookie.l0 n) m) _)
  generalize hG : loopR (ms_l11Cookie.l0 n) m = G
  unfold ms_l11Cookie.l0
  simp only [bif_dec]
  rw [if_neg (by omega)]
  refine Dr.bind (pick_dr (by omega) B h0 (by omega) (by omega)) fun x q g1 g2 g3 => ?_
  exact Dr.mk (by omega) (by omega) ⟨by simp, by simp, by simp⟩
 | k + 1, m + 1, p, hk, hm, h0, h1 => by
  show Dr _ _ _ _ (ms_l11Cookie.l0 n (loopR (ms_l11Cookie.l0 n) m) _)
  generalize hG : loopR (ms_l11Cookie.l0 n) m = G
  unfold ms_l11Cookie.l0
  simp only [bif_dec]
  rw [if_pos (by omega)]
  refine Dr.bind (home_dr (by omega) B h0 (by omega)) fun u q g1 g2 hu => ?_
  refine Dr.bind (says_dr (by omega) B (by omega) (by omega)) fun t q2 g3 g4 _ => ?_
  refine Dr.bind (one_dr (P := fun _ => True) (by omega) B (by omega) (by omega) (by simp) (fun _ _ => trivial)) fun now q3 g5 g6 _ => ?_
  obtain ⟨⟨c, st, ⟨⟩⟩, e, hc⟩ := cookieGet_tot (n := n) hn hu t now
  have hw : IntKind.i64.wrap (((3 - (k + 1) : Nat) : Int) + 1) = ((3 - k : Nat) : Int) := by rw [w64 (by omega) (by omega)]; omega
  simp only [e, Option.bind_some, hw]
  split
  ·exact Dr.mk (by omega) (by omega) hc
  ·obtain ⟨u, q4, e, g7, g8, g9⟩ := cookie_go hn B z k m q3 (by omega) (by omega) (by omega) (by omega)
   exact ⟨u, q4, by rw [← hG]; exact e, by omega, by omega, g9⟩
 | 0, 0, _, _, h, _, _ => absurd h (Nat.not_lt_zero _)
 | _ + 1, 0, _, _, h, _, _ => absurd h (Nat.not_lt_zero _)
theorem cookie_dr {n : Nat} (hn : 4194304 + 35 ≤ n) {b : List Int} (B : RdOk b) {p : Int} (h0 : 0 ≤ p) (h1 : p ≤ 580000) : Dr b p 40 BC (cs_l11Cookie n (b, p, ())) := by
 obtain ⟨m, rfl⟩ := sn hn
 rw [es_l11Cookie]; unfold ms_l11Cookie
 exact (cookie_go (n := m) (by omega) B _ 3 m p (by omega) (by omega) h0 (by omega)).mono (by omega) fun _ h => h
theorem anycookie_dr {n : Nat} (hn : 4194304 + 36 ≤ n) {b : List Int} (B : RdOk b) {p : Int} (h0 : 0 ≤ p) (h1 : p ≤ 580000) : Dr b p 50 BC (cs_l11AnyCookie n (b, p, ())) := by
 obtain ⟨m, rfl⟩ := sn hn
 rw [es_l11AnyCookie]; unfold ms_l11AnyCookie
 refine Dr.bind (cookie_dr (by omega) B h0 (by omega)) fun c q g1 g2 hc => ?_
 refine Dr.bind (pick_dr (by omega) B (by omega) (by omega) (by omega)) fun x q2 a1 a2 a3 => ?_
 simp only [bif_dec]
 split
 ·refine Dr.bind (of_dr (P := fun s => s.length ≤ 20) (by omega) B (by omega) (by omega) (by simp) (by decide)) fun y q3 b1 b2 b3 => ?_
  exact Dr.mk (by omega) (by omega) ⟨by simp only; omega, hc.val, hc.dom⟩
 split
 ·refine Dr.bind (of_dr (P := fun s => s.length ≤ 20) (by omega) B (by omega) (by omega) (by simp) (by decide)) fun y q3 b1 b2 b3 => ?_
  exact Dr.mk (by omega) (by omega) ⟨hc.name, hc.val, by simp only; omega⟩
 split
 ·refine Dr.bind (of_dr (P := fun s => s.length ≤ 20) (by omega) B (by omega) (by omega) (by simp) (by decide)) fun y q3 b1 b2 b3 => ?_
  exact Dr.mk (by omega) (by omega) ⟨hc.name, hc.val, hc.dom⟩
 split
 ·refine Dr.bind (one_dr (P := fun _ => True) (by omega) B (by omega) (by omega) (by simp) (fun _ _ => trivial)) fun y q3 b1 b2 b3 => ?_
  exact Dr.mk (by omega) (by omega) ⟨hc.name, hc.val, hc.dom⟩
 split
 ·refine Dr.bind (one_dr (P := fun _ => True) (by omega) B (by omega) (by omega) (by simp) (fun _ _ => trivial)) fun y q3 b1 b2 b3 => ?_
  exact Dr.mk (by omega) (by omega) ⟨hc.name, hc.val, hc.dom⟩
 ·exact Dr.mk (by omega) (by omega) hc
theorem now_dr {n : Nat} (hn : 4194304 + 3 ≤ n) {b : List Int} (B : RdOk b) {p : Int} (h0 : 0 ≤ p) (h1 : p ≤ 900000) : Dr b p 1 (fun _ => True) (cs_l11Now n (b, p, ())) := by
 obtain ⟨m, rfl⟩ := sn hn
 rw [es_l11Now]; unfold ms_l11Now
 refine Dr.bind (one_dr (P := fun _ => True) (by omega) B (by omega) (by omega) (by simp) (fun _ _ => trivial)) fun y q3 b1 b2 b3 => ?_
 exact Dr.mk (by omega) (by omega) trivial
end Go.VM.T
namespace Go.VM.T
open Go Go.VM
theorem DrawCookieGoes_ok {n : Nat} (hn : 4194304 + 40 ≤ n) {code : List Int} (hl : code.length ≤ 1048576) (hc : ∀ x ∈ code, 0 ≤ x ∧ x ≤ 255) : ∃ c u a b now, cs_DrawCookieGoes n code = some (c, u, a, b, now, ()) ∧ BC c ∧ Sm u := by
 obtain ⟨m, rfl⟩ := sn hn
 rw [es_DrawCookieGoes]; unfold ms_DrawCookieGoes
 obtain ⟨b, B, e0⟩ := open_ok (n := m) (by omega) hl hc
 obtain ⟨c, q, e1, a1, a2, hC⟩ := anycookie_dr (n := m) (p := 0) (by omega) B (by omega) (by omega)
 obtain ⟨u, q2, e2, b1, b2, hU⟩ := anyhome_dr (n := m) (p := q) (by omega) B (by omega) (by omega)
 obtain ⟨x, q3, e3, c1, c2, _⟩ := pick_dr (n := m) (p := q2) (c := 2) (by omega) B (by omega) (by omega) (by omega)
 obtain ⟨y, q4, e4, d1, d2, _⟩ := pick_dr (n := m) (p := q3) (c := 2) (by omega) B (by omega) (by omega) (by omega)
 obtain ⟨now, q5, e5, f1, f2, _⟩ := now_dr (n := m) (p := q4) (by omega) B (by omega) (by omega)
 refine ⟨c, u, decide (x = 0), decide (y = 0), now, ?_, hC, hU.sm⟩
 simp only [e0, e1, e2, e3, e4, e5, Option.bind_some]
theorem law_FnCookieGoes {n : Nat} (hn : 4194304 + 60 ≤ n) {code : List Int} (hc : ∀ x ∈ code, 0 ≤ x ∧ x ≤ 255) : cl_FnCookieGoes n code = some (true, ()) := by
 obtain ⟨m, rfl⟩ := sn hn
 rw [el_FnCookieGoes]; unfold ml_FnCookieGoes
 rw [bif_dec]
 split
 ·rfl
 rename_i hl
 obtain ⟨c, u, a, b, now, ed, hC, hU⟩ := DrawCookieGoes_ok (n := m) (code := code) (by omega) (by omega) hc
 have hb3 := hC.dom
 have hz : szU u ≤ 2000000 := by have := hU.1; omega
 replace hU := hU.bu
 simp only [ed, Option.bind_some, impl_CookieGoes_ok (n := m) (by omega) hC hU hz, spec_CookieGoes_ok (n := m) (by omega) hC hU hz, impl_CookieOk_ok (n := m) (by omega) hC, spec_CookieOk_ok (n := m) (by omega) hC, impl_HostPut_ok (n := m) (h := u.2.2.2.1) (by omega) (host_b hU), impl_DomainIn_ok (n := m) (d := c.2.2.1) (by omega) (putH_b hz) (by omega), beq_self_eq_true, Bool.not_true, cond_false]
 cases hg : goesM c u a b now with
 | false => rfl
 | true =>
 have hg2 := hg
 unfold goesM at hg
 simp only [Bool.and_eq_true] at hg
 obtain ⟨g1, g2, g3, g4, g5, g6, g7, g8⟩ := hg
 have k1 : goesM c u true true now = true := by unfold goesM whyM; rw [g1, g2, g3, g4, g5, g6, g7]; rfl
 have hd : domM (putH u.2.2.2.1) c.2.2.1 = true := by
  cases hal : c.2.2.2.1 with
  | false => rw [hal] at g6; exact g6
  | true =>
   rw [hal] at g6
   rw [show putH u.2.2.2.1 = c.2.2.1 from beq_iff_eq.1 g6]
   exact dom_self (okC_dom g1)
 have hself : c.2.2.2.1 = true → (putH u.2.2.2.1 == c.2.2.1) = true := fun h => by rw [h] at g6; exact g6
 have hsec : c.2.2.2.2.2.2.1 = true → (u.1 == httpsB) = true := fun h => by rw [h] at g5; exact g5
 have h2 : a = false → decide (c.2.2.2.2.2.2.2.1 = 2) = false := fun h => by
  rw [h] at g8
  unfold whyM at g8
  simp only [Bool.false_or, Bool.or_eq_true, Bool.and_eq_true, decide_eq_true_eq] at g8
  exact decide_eq_false (by omega)
 have h0 : a = false → b = false → decide (c.2.2.2.2.2.2.2.1 = 0) = true := fun h k => by
  rw [h, k] at g8
  unfold whyM at g8
  simpa using g8
 simp only [k1, hd, Bool.not_true, cond_false, cond_true]
 change (bif !c.2.2.2.2.2.2.1 then _ else bif u.1 == httpsB then _ else _) = _
 cases e1 : c.2.2.2.2.2.2.1 <;> cases e2 : c.2.2.2.1 <;> cases e3 : a <;> cases e4 : b <;> simp_all
end Go.VM.T
