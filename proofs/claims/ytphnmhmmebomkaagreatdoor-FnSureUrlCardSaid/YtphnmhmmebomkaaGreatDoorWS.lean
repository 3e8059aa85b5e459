/- The plain law: what the models compute answers as the statement says. -/
import Derived.Test.YtphnmhmmebomkaaGreatDoorW7
import Derived.Test.YtphnmhmmebomkaaGreatDoorW4
set_option linter.unusedVariables false
set_option linter.unusedSimpArgs false
namespace Go.VM.T
open Go Go.VM
theorem plainName_ok {n : Nat} (hn : 4194304 + 5 ≤ n) {s : Bs} (hs : s.length ≤ 3000000) : ci_plainName n s = some (nameOk s, ()) := by
 obtain ⟨m, rfl⟩ := sn hn
 rw [ei_plainName]; unfold mi_plainName nameOk
 rw [impl_isHostName_ok (by omega) hs]
 simp only [Option.bind_some]
 cases isNameM s with
 | false => rfl
 | true => simp only [cond_true, impl_endsInNumber_ok (n := m) (by omega) hs, Option.bind_some, Bool.true_and]
theorem l7Name_ok {n : Nat} (hn : 4194304 + 6 ≤ n) {s : Bs} (hs : s.length ≤ 3000000) : cs_l7Name n s = some (nameOk s, ()) := by
 obtain ⟨m, rfl⟩ := sn hn
 rw [es_l7Name]; unfold ms_l7Name
 rw [spec_HostOk_ok (by omega) (h := (1, s, 0, ())) hs]
 have : okH (1, s, 0, ()) = nameOk s := by unfold okH hostOkM nameOk; simp
 rw [this]; rfl
structure BC (c : TCookie) : Prop where
 name : c.1.length ≤ 1000
 val : c.2.1.length ≤ 1000
 dom : c.2.2.1.length ≤ 1000
end Go.VM.T
namespace Go.VM.T
open Go Go.VM
theorem suf_len {s p : Bs} (h : ¬ p.length ≤ s.length) : p.isSuffixOf s = false := by
 cases e : p.isSuffixOf s with
 | false => rfl
 | true => exact absurd (List.IsSuffix.length_le (List.isSuffixOf_iff_suffix.1 e)) h
theorem suf_eq (s p : Bs) : (s.drop (s.length - p.length) == p) = p.isSuffixOf s := by
 rw [Bool.eq_iff_iff, beq_iff_eq, List.isSuffixOf_iff_suffix, List.suffix_iff_eq_drop]; exact eq_comm
theorem ends_go {s p : Bs} (hs : s.length ≤ 4000000) : (bif (decide ((p.length : Int) ≤ (s.length : Int))) then (grd (decide (0 ≤ (IntKind.i64.wrap ((s.length : Int) - (p.length : Int))))) (grd (decide ((IntKind.i64.wrap ((s.length : Int) - (p.length : Int))) ≤ (s.length : Int))) (some ((((s.take s.length).drop (IntKind.i64.wrap ((s.length : Int) - (p.length : Int))).toNat) == p), ())))) else (some (false, ()) : Option (Bool × Unit))) = some (p.isSuffixOf s, ()) := by
 rw [bif_dec]
 by_cases h : (p.length : Int) ≤ (s.length : Int)
 ·have hw : IntKind.i64.wrap ((s.length : Int) - (p.length : Int)) = ((s.length - p.length : Nat) : Int) := by rw [w64 (by omega) (by omega)]; omega
  rw [if_pos h, hw, grd_dec, if_pos (by omega), grd_dec, if_pos (by omega), Int.toNat_natCast, List.take_length, suf_eq]
 ·rw [if_neg h, suf_len (by omega)]
theorem l7Ends_ok {n : Nat} (hn : 4194304 + 1 ≤ n) {s p : Bs} (hs : s.length ≤ 4000000) : cs_l7Ends n s p = some (p.isSuffixOf s, ()) := by
 obtain ⟨m, rfl⟩ := sn hn
 rw [es_l7Ends]; unfold ms_l7Ends
 exact ends_go hs
theorem HasSuffix_ok {n : Nat} (hn : 4194304 + 2 ≤ n) {s p : Bs} (hs : s.length ≤ 4000000) : c_strings_HasSuffix n s p = some (p.isSuffixOf s, ()) := by
 obtain ⟨m, rfl⟩ := sn hn
 rw [eq_strings_HasSuffix]; unfold m_strings_HasSuffix
 obtain ⟨k, rfl⟩ : ∃ k, m = k + 1 := ⟨m - 1, by omega⟩
 rw [eq_stringslite_HasSuffix]; unfold m_stringslite_HasSuffix
 rw [ends_go hs]; rfl
theorem dom_go {h d : Bs} : (bif (!(h == ([] : Bs))) then (bif (!(d == ([] : Bs))) then (bif (h == d) then (some (true, ())) else (bif nameOk h then (some ((46 :: d).isSuffixOf h, ())) else (some (false, ())))) else (some (false, ()))) else (some (false, ()) : Option (Bool × Unit))) = some (domM h d, ()) := by
 unfold domM
 by_cases h1 : h = []
 ·simp [h1]
 by_cases h2 : d = []
 ·simp [h2]
 by_cases h3 : h = d
 ·subst h3
  rw [show (h == ([] : Bs)) = false by simpa using h1, show (h == h) = true by simp, decide_eq_true h1, decide_eq_true (rfl : h = h)]; rfl
 rw [show (h == ([] : Bs)) = false by simpa using h1, show (d == ([] : Bs)) = false by simpa using h2, show (h == d) = false by simpa using h3, decide_eq_true h1, decide_eq_true h2, decide_eq_false h3]
 cases nameOk h <;> rfl
theorem impl_DomainIn_ok {n : Nat} (hn : 4194304 + 7 ≤ n) {h d : Bs} (hh : h.length ≤ 3000000) (hd : d.length ≤ 3000000) : ci_DomainIn n h d = some (domM h d, ()) := by
 obtain ⟨m, rfl⟩ := sn hn
 rw [ei_DomainIn]; unfold mi_DomainIn
 have hl : ([46] : Bs).length + d.length ≤ 9223372036854775807 := by simp; omega
 simp only [plainName_ok (n := m) (s := h) (by omega) hh, HasSuffix_ok (n := m) (s := h) (by omega) (by omega), Option.bind_some, grd_dec, hl, if_true]
 exact dom_go
theorem spec_DomainIn_ok {n : Nat} (hn : 4194304 + 7 ≤ n) {h d : Bs} (hh : h.length ≤ 3000000) (hd : d.length ≤ 3000000) : cs_DomainIn n h d = some (domM h d, ()) := by
 obtain ⟨m, rfl⟩ := sn hn
 rw [es_DomainIn]; unfold ms_DomainIn
 have hl : ([46] : Bs).length + d.length ≤ 9223372036854775807 := by simp; omega
 simp only [l7Name_ok (n := m) (s := h) (by omega) hh, l7Ends_ok (n := m) (s := h) (by omega) (by omega), Option.bind_some, grd_dec, hl, if_true]
 rw [← dom_go]
 have : ∀ a b : Bool, (bif a then (some (b, ()) : Option (Bool × Unit)) else some (false, ())) = bif b then some (a, ()) else some (false, ()) := by decide
 rw [this]; rfl
theorem putH_b {u : TUrl} (hu : szU u ≤ 2000000) : (putH u.2.2.2.1).length ≤ 3000000 := by
 have := putH_len u.2.2.2.1
 unfold szU at hu
 omega
theorem host_b {u : TUrl} (hu : BU u) : u.2.2.2.1.2.1.length ≤ 3000000 := by
 have := hu.1
 unfold szU at this
 omega
end Go.VM.T
namespace Go.VM.T
open Go Go.VM
def Tot {A : Type} (o : Option A) (Q : A → Prop) : Prop := ∃ a, o = some a ∧ Q a
theorem Tot.bind {A C : Type} {o : Option A} {Q : A → Prop} {f : A → Option C} {Q' : C → Prop} (h : Tot o Q) (hf : ∀ a, Q a → Tot (f a) Q') : Tot (o.bind f) Q' := by
 obtain ⟨a, rfl, ha⟩ := h
 exact hf a ha
theorem Tot.cond {A : Type} {p : Bool} {x y : Option A} {Q : A → Prop} (h1 : p = true → Tot x Q) (h2 : p = false → Tot y Q) : Tot (bif p then x else y) Q := by
 cases p
 ·exact h2 rfl
 ·exact h1 rfl
theorem Tot.grd {A : Type} {p : Prop} [Decidable p] {x : Option A} {Q : A → Prop} (hp : p) (h : Tot x Q) : Tot (Go.VM.grd (decide p) x) Q := by
 rw [grd_dec, if_pos hp]; exact h
theorem Tot.one {A : Type} {a : A} {Q : A → Prop} (h : Q a) : Tot (some a) Q := ⟨a, rfl, h⟩
theorem Tot.of {A : Type} {o : Option A} {a : A} {Q : A → Prop} (e : o = some a) (h : Q a) : Tot o Q := ⟨a, e, h⟩
theorem Tot.mono {A : Type} {o : Option A} {Q Q' : A → Prop} (h : Tot o Q) (k : ∀ a, Q a → Q' a) : Tot o Q' := by
 obtain ⟨a, e, ha⟩ := h
 exact ⟨a, e, k a ha⟩
theorem loop_tot {S R : Type} {F : (S → Option R) → S → Option R} (μ : S → Nat) (P : S → Prop) (Q : R → Prop) (h : ∀ s self, P s → (∀ s', μ s' < μ s → P s' → Tot (self s') Q) → Tot (F self s) Q) : ∀ n s, P s → μ s < n → Tot (loopR F n s) Q
 | 0, s, _, hm => absurd hm (Nat.not_lt_zero _)
 | n + 1, s, hp, hm => h s (loopR F n) hp fun s' h1 h2 => loop_tot μ P Q h n s' h2 (by omega)
end Go.VM.T
namespace Go.VM.T
open Go Go.VM
structure BS (l : List Bs) : Prop where
 len : l.length ≤ 1000
 el : ∀ s ∈ l, s.length ≤ 1000
theorem BS.get {l : List Bs} (B : BS l) {i : Nat} {c : Bs} (h : l[i]? = some c) : c.length ≤ 1000 := B.el c (List.mem_of_getElem? h)
def prevS (l : List Bs) (i : Nat) : Option Bs := if i = 0 then none else l[i - 1]?
theorem prev_next {l : List Bs} {i : Nat} {c : Bs} (h : l[i]? = some c) : prevS l (i + 1) = some c := by
 unfold prevS; rw [if_neg (by omega), Nat.add_sub_cancel]; exact h
theorem spec_SureOk_ok {n : Nat} (hn : 4194304 + 8 ≤ n) {l : List Bs} (B : BS l) : cs_SureOk n (l, ()) = some (okSure l, ()) := by
 obtain ⟨m, rfl⟩ := sn hn
 rw [es_SureOk]; unfold ms_SureOk
 have hlen := B.len
 refine loopS l (fun L i st r => r = (okSure l, ()) ∧ st = ((i : Int), ()) ∧ okSure l = (upGo nameOk id (prevS l i) L && decide (l.length ≤ 6))) ?_ ?_ ⟨rfl, rfl, rfl⟩ (by omega)
 ·rintro st r self ⟨rfl, rfl, e⟩
  unfold ms_SureOk.l0
  simp only [bif_dec]
  rw [if_neg (by omega), e]
  simp only [upGo, Bool.true_and]
  congr 2
  rw [decide_eq_decide]; omega
 ·rintro c L i st r self _ hi hx ⟨rfl, rfl, e⟩ ih
  unfold ms_SureOk.l0
  have k1 : (0 : Int) ≤ (i : Int) := by omega
  have k2 : (i : Int) < (l.length : Int) := by omega
  simp only [bif_dec, grd_dec, Int.toNat_natCast, getD_get [] hx, k1, k2, if_true, l7Name_ok (n := m) (s := c) (by omega) (by have := B.get hx; omega), Option.bind_some]
  simp only [upGo, id] at e
  cases hc : nameOk c with
  | false => rw [hc] at e; rw [e]; rfl
  | true =>
  rw [hc] at e
  simp only [Bool.not_true, cond_false, Bool.true_and] at e ⊢
  by_cases hz : i = 0
  ·rw [if_neg (by omega), w_i (by omega)]
   refine ih _ ⟨rfl, rfl, ?_⟩
   rw [prev_next hx, e]
   simp [prevS, hz]
  ·obtain ⟨p, hp⟩ : ∃ p, l[i - 1]? = some p := ⟨_, List.getElem?_eq_getElem (by omega)⟩
   have hw : IntKind.i64.wrap ((i : Int) - 1) = ((i - 1 : Nat) : Int) := by rw [w64 (by omega) (by omega)]; omega
   have k3 : (0 : Int) ≤ ((i - 1 : Nat) : Int) := by omega
   have k4 : ((i - 1 : Nat) : Int) < (l.length : Int) := by omega
   rw [if_pos (by omega)]
   simp only [hw, k3, k4, if_true, Int.toNat_natCast, getD_get [] hp]
   have hpr : prevS l i = some p := by unfold prevS; rw [if_neg hz]; exact hp
   rw [hpr] at e
   simp only at e
   cases hb : bless p c with
   | false => rw [hb] at e; rw [e]; rfl
   | true =>
    rw [hb] at e
    simp only [Bool.not_true, cond_false, Bool.true_and, w_i (show i ≤ 4000000 by omega)] at e ⊢
    exact ih _ ⟨rfl, rfl, by rw [prev_next hx, e]⟩
theorem impl_SureOk_ok {n : Nat} (hn : 4194304 + 8 ≤ n) {l : List Bs} (B : BS l) : ci_SureOk n (l, ()) = some (okSure l, ()) := by
 obtain ⟨m, rfl⟩ := sn hn
 rw [ei_SureOk]; unfold mi_SureOk
 have hlen := B.len
 refine loopS l (fun L i st r => r = (okSure l, ()) ∧ st = ((i : Int), ()) ∧ okSure l = (upGo nameOk id (prevS l i) L && decide (l.length ≤ 6))) ?_ ?_ ⟨rfl, rfl, rfl⟩ (by omega)
 ·rintro st r self ⟨rfl, rfl, e⟩
  unfold mi_SureOk.l0
  simp only [bif_dec]
  rw [if_neg (by omega), e]
  simp only [upGo, Bool.true_and]
  congr 2
  rw [decide_eq_decide]; omega
 ·rintro c L i st r self _ hi hx ⟨rfl, rfl, e⟩ ih
  unfold mi_SureOk.l0
  have k1 : (0 : Int) ≤ (i : Int) := by omega
  have k2 : (i : Int) < (l.length : Int) := by omega
  simp only [bif_dec, grd_dec, Int.toNat_natCast, getD_get [] hx, k1, k2, if_true, plainName_ok (n := m) (s := c) (by omega) (by have := B.get hx; omega), Option.bind_some]
  simp only [upGo, id] at e
  cases hc : nameOk c with
  | false => rw [hc] at e; rw [e]; rfl
  | true =>
  rw [hc] at e
  simp only [Bool.not_true, cond_false, Bool.true_and] at e ⊢
  by_cases hz : i = 0
  ·rw [if_neg (by omega), w_i (by omega)]
   refine ih _ ⟨rfl, rfl, ?_⟩
   rw [prev_next hx, e]
   simp [prevS, hz]
  ·obtain ⟨p, hp⟩ : ∃ p, l[i - 1]? = some p := ⟨_, List.getElem?_eq_getElem (by omega)⟩
   have hw : IntKind.i64.wrap ((i : Int) - 1) = ((i - 1 : Nat) : Int) := by rw [w64 (by omega) (by omega)]; omega
   have k3 : (0 : Int) ≤ ((i - 1 : Nat) : Int) := by omega
   have k4 : ((i - 1 : Nat) : Int) < (l.length : Int) := by omega
   rw [if_pos (by omega)]
   simp only [hw, k3, k4, if_true, Int.toNat_natCast, getD_get [] hp, bless_le]
   have hpr : prevS l i = some p := by unfold prevS; rw [if_neg hz]; exact hp
   rw [hpr] at e
   simp only at e
   cases hb : bless p c with
   | false => rw [hb] at e; rw [e]; rfl
   | true =>
    rw [hb] at e
    simp only [Bool.not_true, cond_false, Bool.true_and, w_i (show i ≤ 4000000 by omega)] at e ⊢
    exact ih _ ⟨rfl, rfl, by rw [prev_next hx, e]⟩
def SmU (u : TUrl) : Prop := szU u ≤ 1000000 ∧ u.2.2.2.2.1 ≤ 70000
theorem SmU.bu {u : TUrl} (h : SmU u) : BU u := ⟨by have := h.1; omega, by have := h.2; omega⟩
theorem safe_bu {u : TUrl} (h : SmU u) : BU (safeU u) := by
 have h1 := h.1
 have h2 := h.2
 refine ⟨?_, ?_⟩
 ·unfold szU at h1 ⊢
  simp only [safeU, httpsB, List.length_cons, List.length_nil]
  omega
 ·simp only [safeU]
  split <;> omega
theorem upgrade1_ok {n : Nat} (hn : 4194304 + 23 ≤ n) {d : Bs} {u : TUrl} (hu : SmU u) (hd : d.length ≤ 1000) : ci_Sure_upgrade_1 n d u = some (domM (putH u.2.2.2.1) d, ()) := by
 obtain ⟨m, rfl⟩ := sn hn
 have hz : szU u ≤ 2000000 := by have := hu.1; omega
 rw [ei_Sure_upgrade_1]; unfold mi_Sure_upgrade_1
 rw [impl_HostPut_ok (by omega) (host_b hu.bu), Option.bind_some, impl_DomainIn_ok (by omega) (putH_b hz) (by omega)]
 rfl
theorem upM_cases (l : List Bs) (u : TUrl) : upM l u = (bif (u.1 == httpB) then (bif (l.any fun d => domM (putH u.2.2.2.1) d) then (bif okU (safeU u) then safeU u else u) else u) else u) := by
 unfold upM
 by_cases h1 : u.1 = httpB
 ·have e : (u.1 == httpB) = true := by simpa using h1
  rw [e]
  cases l.any fun d => domM (putH u.2.2.2.1) d <;> cases okU (safeU u) <;> simp [h1]
 ·have e : (u.1 == httpB) = false := by simpa using h1
  rw [e, if_neg (fun h => h1 h.1)]; rfl
theorem upgrade_ok {n : Nat} (hn : 4194304 + 31 ≤ n) {l : List Bs} {u : TUrl} (B : BS l) (hu : SmU u) : ci_Sure_upgrade n (l, ()) u = some (upM l u, ()) := by
 obtain ⟨m, rfl⟩ := sn hn
 have hlen := B.len
 have hs := safe_bu hu
 rw [ei_Sure_upgrade]; unfold mi_Sure_upgrade
 simp only [impl_copyOf_ok (n := m) (u := u) (by omega) (BU_path4 hu.bu), Option.bind_some]
 rw [upM_cases]
 change (bif !(u.1 == httpB) then _ else _) = _
 cases u.1 == httpB with
 | false => rfl
 | true =>
 simp only [Bool.not_true, cond_false, cond_true]
 rw [grd_dec, if_pos (by omega), idxM_all (f := fun d => domM (putH u.2.2.2.1) d) (fun z hz => by rw [upgrade1_ok (by omega) hu (B.el z hz)]; rfl)]
 simp only [Option.bind_some, List.findIdx?_isSome]
 cases l.any fun d => domM (putH u.2.2.2.1) d with
 | false => rfl
 | true =>
 simp only [Bool.not_true, cond_false, cond_true, bif_dec]
 by_cases h443 : u.2.2.2.2.1 = 443
 ·have e : safeU u = (httpsB, u.2.1, u.2.2.1, u.2.2.2.1, -1, u.2.2.2.2.2.1, u.2.2.2.2.2.2) := by unfold safeU; rw [if_pos h443]
  rw [if_pos h443]
  rw [e] at hs ⊢
  have := impl_UrlOk_ok (n := m) (by omega) hs
  refine (?_ : (ci_UrlOk m (httpsB, u.2.1, u.2.2.1, u.2.2.2.1, -1, u.2.2.2.2.2.1, u.2.2.2.2.2.2)).bind _ = _)
  rw [this]
  simp only [Option.bind_some]
  cases okU (httpsB, u.2.1, u.2.2.1, u.2.2.2.1, -1, u.2.2.2.2.2.1, u.2.2.2.2.2.2) <;> rfl
 ·have e : safeU u = (httpsB, u.2.1, u.2.2.1, u.2.2.2.1, u.2.2.2.2.1, u.2.2.2.2.2.1, u.2.2.2.2.2.2) := by unfold safeU; rw [if_neg h443]
  rw [if_neg h443]
  rw [e] at hs ⊢
  have := impl_UrlOk_ok (n := m) (by omega) hs
  refine (?_ : (ci_UrlOk m (httpsB, u.2.1, u.2.2.1, u.2.2.2.1, u.2.2.2.2.1, u.2.2.2.2.2.1, u.2.2.2.2.2.2)).bind _ = _)
  rw [this]
  simp only [Option.bind_some]
  cases okU (httpsB, u.2.1, u.2.2.1, u.2.2.2.1, u.2.2.2.2.1, u.2.2.2.2.2.1, u.2.2.2.2.2.2) <;> rfl
theorem impl_SureUrl_ok {n : Nat} (hn : 4194304 + 32 ≤ n) {l : List Bs} {u : TUrl} (B : BS l) (hu : SmU u) : ci_SureUrl n (l, ()) u = some (sureU l u, ()) := by
 obtain ⟨m, rfl⟩ := sn hn
 rw [ei_SureUrl]; unfold mi_SureUrl sureU
 simp only [impl_SureOk_ok (n := m) (by omega) B, impl_UrlOk_ok (n := m) (by omega) hu.bu, upgrade_ok (n := m) (by omega) B hu, Option.bind_some]
 cases okSure l <;> cases okU u <;> rfl
theorem l8Sure_ok {n : Nat} (hn : 4194304 + 23 ≤ n) {l : List Bs} {u : TUrl} (B : BS l) (hu : SmU u) : cs_l8Sure n (l, ()) u = some (l.any fun d => domM (putH u.2.2.2.1) d, ()) := by
 obtain ⟨m, rfl⟩ := sn hn
 have hz : szU u ≤ 2000000 := by have := hu.1; omega
 rw [es_l8Sure]; unfold ms_l8Sure
 have hlen := B.len
 refine loopS l (fun L i st r => r = (l.any fun d => domM (putH u.2.2.2.1) d, ()) ∧ st = ((i : Int), ()) ∧ (l.any fun d => domM (putH u.2.2.2.1) d) = L.any fun d => domM (putH u.2.2.2.1) d) ?_ ?_ ⟨rfl, rfl, rfl⟩ (by omega)
 ·rintro st r self ⟨rfl, rfl, e⟩
  unfold ms_l8Sure.l0
  simp only [bif_dec]
  rw [if_neg (by omega), e]; rfl
 ·rintro c L i st r self _ hi hx ⟨rfl, rfl, e⟩ ih
  unfold ms_l8Sure.l0
  have k1 : (0 : Int) ≤ (i : Int) := by omega
  have k2 : (i : Int) < (l.length : Int) := by omega
  simp only [bif_dec, grd_dec, Int.toNat_natCast, getD_get [] hx, k1, k2, if_true, spec_HostPut_ok (n := m) (h := u.2.2.2.1) (by omega) (host_b hu.bu), spec_DomainIn_ok (n := m) (d := c) (by omega) (putH_b hz) (by have := B.get hx; omega), Option.bind_some]
  rw [List.any_cons] at e
  cases hd : domM (putH u.2.2.2.1) c with
  | true => rw [hd] at e; rw [e]; rfl
  | false =>
   rw [hd, Bool.false_or] at e
   simp only [cond_false, w_i (show i ≤ 4000000 by omega)]
   exact ih _ ⟨rfl, rfl, e⟩
theorem l8Copy_ok {n : Nat} (hn : 4194304 + 1 ≤ n) {u : TUrl} (hu : BU u) : cs_l8Copy n u = some (u, ()) := by
 obtain ⟨m, rfl⟩ := sn hn
 rw [es_l8Copy]; unfold ms_l8Copy
 rw [grd_dec, if_pos (ap_le (by have := BU_path4 hu; simp; omega))]; rfl
theorem l8Safe_ok {n : Nat} (hn : 4194304 + 1 ≤ n) (u : TUrl) : cs_l8Safe n u = some (safeU u, ()) := by
 obtain ⟨m, rfl⟩ := sn hn
 rw [es_l8Safe]; unfold ms_l8Safe safeU
 rw [bif_dec]
 split <;> rfl
theorem spec_SureUrl_ok {n : Nat} (hn : 4194304 + 32 ≤ n) {l : List Bs} {u : TUrl} (B : BS l) (hu : SmU u) : cs_SureUrl n (l, ()) u = some (sureU l u, ()) := by
 obtain ⟨m, rfl⟩ := sn hn
 rw [es_SureUrl]; unfold ms_SureUrl sureU
 simp only [spec_SureOk_ok (n := m) (by omega) B, spec_UrlOk_ok (n := m) (by omega) hu.bu, l8Sure_ok (n := m) (by omega) B hu, l8Copy_ok (n := m) (by omega) hu.bu, l8Safe_ok (n := m) (by omega), spec_UrlOk_ok (n := m) (by omega) (safe_bu hu), Option.bind_some]
 rw [upM_cases]
 change (bif !okSure l then _ else bif !okU u then _ else bif !(u.1 == httpB) then _ else _) = _
 cases okSure l <;> cases okU u <;> cases (u.1 == httpB) <;> cases (l.any fun d => domM (putH u.2.2.2.1) d) <;> cases okU (safeU u) <;> rfl
end Go.VM.T
namespace Go.VM.T
open Go Go.VM
theorem BS.snoc {l : List Bs} (B : BS l) {c : Bs} (hc : c.length ≤ 1000) (hl : l.length ≤ 999) : BS (l ++ [c]) := ⟨by simp; omega, fun x hx => by
 rcases List.mem_append.1 hx with hx | hx
 ·exact B.el x hx
 ·rw [List.mem_singleton.1 hx]; exact hc⟩
theorem BS.ins {l : List Bs} (B : BS l) {c : Bs} (hc : c.length ≤ 1000) (hl : l.length ≤ 6) (k : Nat) : BS ((l.take k ++ [c]) ++ l.drop k) ∧ ((l.take k ++ [c]) ++ l.drop k).length ≤ 7 := by
 have : ((l.take k ++ [c]) ++ l.drop k).length ≤ 7 := by simp; omega
 refine ⟨⟨by omega, fun x hx => ?_⟩, this⟩
 simp only [List.mem_append, List.mem_singleton] at hx
 rcases hx with (hx | rfl) | hx
 ·exact B.el x (List.mem_of_mem_take hx)
 ·exact hc
 ·exact B.el x (List.mem_of_mem_drop hx)
theorem SurePut_tot {n : Nat} (hn : 4194304 + 9 ≤ n) {l : List Bs} (B : BS l) {x : Bs} (hx : x.length ≤ 1000) : Tot (cs_SurePut n (l, ()) x) fun r => BS r.1.1 ∧ r.1.1.length ≤ 7 := by
 obtain ⟨m, rfl⟩ := sn hn
 rw [es_SurePut]; unfold ms_SurePut
 rw [spec_SureOk_ok (by omega) B]
 simp only [Option.bind_some]
 cases hok : okSure l with
 | false => exact Tot.one ⟨⟨by simp, by simp⟩, by simp⟩
 | true =>
 have hl : l.length ≤ 6 := by
  simp only [okSure, Bool.and_eq_true, decide_eq_true_eq] at hok
  exact hok.2
 simp only [Bool.not_true, cond_false]
 refine loop_tot (fun st => l.length - st.1.toNat) (fun st => 0 ≤ st.1 ∧ st.1 ≤ (l.length : Int)) _ ?_ m ((0 : Int), ()) ⟨by simp, by simp⟩ (by simp; omega)
 rintro ⟨k, ⟨⟩⟩ self ⟨h1, h2⟩ ih
 have h1 : 0 ≤ k := h1
 have h2 : k ≤ (l.length : Int) := h2
 unfold ms_SurePut.l0
 have same : ∀ b : Bool, Tot (some ((l, ()), b, ())) (fun r : TSure × Bool × Unit => BS r.1.1 ∧ r.1.1.length ≤ 7) := fun b => Tot.one ⟨B, by show l.length ≤ 7; omega⟩
 have put : Tot (some ((((l.take k.toNat).drop 0 ++ [x]) ++ (l.take l.length).drop k.toNat, ()), true, ())) (fun r : TSure × Bool × Unit => BS r.1.1 ∧ r.1.1.length ≤ 7) := by
  refine Tot.one ?_
  simp only [List.drop_zero, List.take_length]
  exact B.ins hx hl k.toNat
 simp only [List.nil_append, l7Name_ok (n := m) (s := x) (by omega) (by omega), Option.bind_some]
 refine Tot.cond (fun h0 => ?_) (fun h0 => ?_)
 ·have h0 : k < (l.length : Int) := of_decide_eq_true h0
  have hw : IntKind.i64.wrap (k + 1) = k + 1 := w64 (by omega) (by omega)
  refine Tot.grd h1 (Tot.grd h0 (Tot.cond (fun _ => ?_) (fun _ => ?_)))
  ·simp only [hw]
   exact ih _ (by simp only; omega) ⟨by simp only; omega, by simp only; omega⟩
  ·repeat' first
    | exact same _
    | exact put
    | exact Tot.grd (by first | omega | exact ap_le (by simp; omega)) (by assumption)
    | refine Tot.grd (by first | omega | exact ap_le (by simp; omega)) ?_
    | refine Tot.cond (fun _ => ?_) (fun _ => ?_)
 ·have h0 : decide (k < (l.length : Int)) = false := h0
  simp only [h0, cond_false]
  repeat' first
   | exact same _
   | exact put
   | refine Tot.grd (by first | omega | exact ap_le (by simp; omega)) ?_
   | refine Tot.cond (fun _ => ?_) (fun _ => ?_)
theorem sure_go {n : Nat} (hn : 4194304 + 10 ≤ n) {b : List Int} (B : RdOk b) : ∀ (k : Nat) (m : Nat) (l : List Bs) (p : Int), k < m → 0 ≤ p → p + k ≤ 600000 → BS l → l.length ≤ 7 →
  Dr b p (k + 3) (fun s : TSure => BS s.1) (loopR (ms_l11Sure.l0 n) m ((k : Int), (b, p, ()), (l, ()), ()))
 | 0, m + 1, l, p, _, h0, h1, hS, hl => by
  show Dr _ _ _ _ (ms_l11Sure.l0 n (loopR (ms_l11Sure.l0 n) m) _)
  generalize hG : loopR (ms_l11Sure.l0 n) m = G
  unfold ms_l11Sure.l0
  simp only [bif_dec]
  rw [if_neg (by omega)]
  have big : BS [[97], [98], [99], [100], [101], [102]] := ⟨by simp, by decide⟩
  refine Dr.bind (pick_dr (by omega) B h0 (by omega) (by omega)) fun x q g1 g2 g3 => ?_
  dsimp only
  split
  ·refine Dr.bind (of_dr (P := fun s => s.length ≤ 10) (by omega) B (by omega) (by omega) (by simp) (by decide)) fun y q2 g4 g5 g6 => ?_
   simp only [grd_dec]
   rw [if_pos (ap_le (by simp; omega))]
   refine Dr.bind (pick_dr (by omega) B (by omega) (by omega) (by omega)) fun z q3 g7 g8 g9 => ?_
   dsimp only
   split
   ·exact Dr.mk (by omega) (by omega) big
   ·exact Dr.mk (by omega) (by omega) (hS.snoc (by omega) (by omega))
  ·refine Dr.bind (pick_dr (by omega) B (by omega) (by omega) (by omega)) fun z q3 g7 g8 g9 => ?_
   dsimp only
   split
   ·exact Dr.mk (by omega) (by omega) big
   ·exact Dr.mk (by omega) (by omega) hS
 | k + 1, m + 1, l, p, hm, h0, h1, hS, hl => by
  show Dr _ _ _ _ (ms_l11Sure.l0 n (loopR (ms_l11Sure.l0 n) m) _)
  generalize hG : loopR (ms_l11Sure.l0 n) m = G
  unfold ms_l11Sure.l0
  simp only [bif_dec]
  rw [if_pos (by omega)]
  refine Dr.bind (of_dr (P := fun s => s.length ≤ 10) (by omega) B h0 (by omega) (by simp) (by decide)) fun y q g1 g2 g3 => ?_
  obtain ⟨⟨⟨r, ⟨⟩⟩, ok, ⟨⟩⟩, e, r1, r2⟩ := SurePut_tot (n := n) (by omega) hS (x := y) (by omega)
  have hw : IntKind.i64.wrap (((k + 1 : Nat) : Int) - 1) = (k : Int) := by rw [w64 (by omega) (by omega)]; omega
  simp only [e, Option.bind_some, hw]
  obtain ⟨u, q4, e, g7, g8, g9⟩ := sure_go hn B k m r q (by omega) (by omega) (by omega) r1 r2
  exact ⟨u, q4, by rw [← hG]; exact e, by omega, by omega, g9⟩
 | 0, 0, _, _, h, _, _, _, _ => absurd h (Nat.not_lt_zero _)
 | _ + 1, 0, _, _, h, _, _, _, _ => absurd h (Nat.not_lt_zero _)
theorem sure_dr {n : Nat} (hn : 4194304 + 11 ≤ n) {b : List Int} (B : RdOk b) {p : Int} (h0 : 0 ≤ p) (h1 : p ≤ 590000) : Dr b p 10 (fun s : TSure => BS s.1) (cs_l11Sure n (b, p, ())) := by
 obtain ⟨m, rfl⟩ := sn hn
 rw [es_l11Sure]; unfold ms_l11Sure
 refine Dr.bind (pick_dr (c := 3) (by omega) B h0 (by omega) (by omega)) fun k q g1 g2 g3 => ?_
 dsimp only
 have := sure_go (n := m) (by omega) B k.toNat m [] q (by omega) (by omega) (by omega) ⟨by simp, by simp⟩ (by simp)
 rw [show ((k.toNat : Nat) : Int) = k by omega] at this
 obtain ⟨s, q3, e, g7, g8, g9⟩ := this
 exact ⟨s, q3, e, by omega, by omega, g9⟩
theorem DrawSureUrl_ok {n : Nat} (hn : 4194304 + 40 ≤ n) {code : List Int} (hl : code.length ≤ 1048576) (hc : ∀ x ∈ code, 0 ≤ x ∧ x ≤ 255) : ∃ l u, cs_DrawSureUrl n code = some ((l, ()), u, ()) ∧ BS l ∧ Sm1 u := by
 obtain ⟨m, rfl⟩ := sn hn
 rw [es_DrawSureUrl]; unfold ms_DrawSureUrl
 obtain ⟨b, B, e0⟩ := open_ok (n := m) (by omega) hl hc
 obtain ⟨u, q, e1, a1, a2, hU⟩ := anyhome_dr (n := m) (p := 0) (by omega) B (by omega) (by omega)
 obtain ⟨x, q2, e2, b1, b2, _⟩ := pick_dr (n := m) (p := q) (c := 6) (by omega) B (by omega) (by omega) (by omega)
 simp only [e0, e1, e2, Option.bind_some, bif_dec]
 split
 ·obtain ⟨y, q3, e3, c1, c2, hy⟩ := one_dr (n := m) (p := q2) (P := fun x => -10 ≤ x ∧ x ≤ 70000) (l := [443, 81]) (by omega) B (by omega) (by omega) (by simp) (by decide)
  obtain ⟨⟨l, ⟨⟩⟩, q4, e4, d1, d2, hS⟩ := sure_dr (n := m) (p := q3) (by omega) B (by omega) (by omega)
  refine ⟨l, (u.1, u.2.1, u.2.2.1, u.2.2.2.1, y, u.2.2.2.2.2), ?_, hS, ⟨hU.1, hy.1, hy.2⟩⟩
  simp only [e3, e4, Option.bind_some]
 ·obtain ⟨⟨l, ⟨⟩⟩, q4, e4, d1, d2, hS⟩ := sure_dr (n := m) (p := q2) (by omega) B (by omega) (by omega)
  exact ⟨l, u, by simp only [e4, Option.bind_some], hS, hU⟩
end Go.VM.T
namespace Go.VM.T
open Go Go.VM
theorem up_sm {l : List Bs} {u : TUrl} (h : Sm1 u) : SmU (upM l u) := by
 have h1 := h.1
 have h2 := h.2.2
 have hs : SmU (safeU u) := by
  refine ⟨?_, ?_⟩
  ·unfold szU at h1 ⊢
   simp only [safeU, httpsB, List.length_cons, List.length_nil]
   omega
  ·simp only [safeU]
   split <;> omega
 have hu : SmU u := ⟨by omega, h2⟩
 unfold upM
 split
 ·split
  ·exact hs
  ·exact hu
 ·exact hu
theorem sure_bu {l : List Bs} {u : TUrl} (h : Sm1 u) : BU (sureU l u) := by
 unfold sureU
 split
 ·exact (up_sm h).bu
 ·exact zero_sm.sm.bu
theorem law_FnSureUrl {n : Nat} (hn : 4194304 + 60 ≤ n) {code : List Int} (hc : ∀ x ∈ code, 0 ≤ x ∧ x ≤ 255) : cl_FnSureUrl n code = some (true, ()) := by
 obtain ⟨m, rfl⟩ := sn hn
 rw [el_FnSureUrl]; unfold ml_FnSureUrl
 rw [bif_dec]
 split
 ·rfl
 rename_i hl
 obtain ⟨l, u, ed, B, hU⟩ := DrawSureUrl_ok (n := m) (code := code) (by omega) (by omega) hc
 have hu : SmU u := ⟨by have := hU.1; omega, hU.2.2⟩
 have hb := sure_bu (l := l) hU
 rw [ed, Option.bind_some]
 dsimp only
 simp only [impl_SureUrl_ok (n := m) (by omega) B hu, spec_SureUrl_ok (n := m) (by omega) B hu, Option.bind_some, guUrl_refl (n := m) (by omega) hb, spec_SureOk_ok (n := m) (by omega) B, spec_UrlOk_ok (n := m) (by omega) hu.bu, Bool.not_true, cond_false]
 cases h1 : okSure l with
 | false => rfl
 | true =>
 cases h2 : okU u with
 | false => rfl
 | true =>
 simp only [Bool.not_true, cond_false]
 have e : sureU l u = upM l u := by unfold sureU; rw [if_pos ⟨h1, h2⟩]
 have hx := up_sm (l := l) hU
 have hok : okU (upM l u) = true := up_ok h2
 have e2 : sureU l (upM l u) = upM l u := by unfold sureU; rw [if_pos ⟨h1, hok⟩, up_up]
 obtain ⟨p1, p2, p3, p4, p5⟩ := up_parts l u
 rw [e]
 simp only [impl_UrlOk_ok (n := m) (by omega) hx.bu, hok, impl_SureUrl_ok (n := m) (by omega) B hx, e2, guUrl_refl (n := m) (by omega) hx.bu, Option.bind_some, cond_true, p1, p2, p3, p4, beq_self_eq_true, Bool.and_self, guTexts_ok (n := m) (a := u.2.2.2.2.2.1) (b := u.2.2.2.2.2.1) (by omega) (BU_path4 hu.bu), decide_true]
 rcases p5 with p5 | ⟨p5, p6⟩
 ·rw [p5]; simp
 ·rw [p6, p5]; rfl
end Go.VM.T
