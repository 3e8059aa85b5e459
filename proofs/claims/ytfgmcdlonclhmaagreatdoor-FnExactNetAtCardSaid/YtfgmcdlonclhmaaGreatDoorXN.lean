/- The plain law: what the models compute answers as the statement says. -/
import Derived.Test.YtfgmcdlonclhmaaGreatDoorX7
import Derived.Test.YtfgmcdlonclhmaaGreatDoorX4
set_option linter.unusedVariables false
set_option linter.unusedSimpArgs false
namespace Go.VM.T
open Go Go.VM
theorem bu_base {u : TUrl} (h : BU u) : BU (baseU u) := by
 refine ⟨?_, h.2⟩
 have := h.1
 unfold szU at this ⊢
 simp only [baseU, List.length_nil]
 omega
theorem bu_path {u : TUrl} (hu : BU u) : u.2.2.2.2.2.1.length ≤ 4000000 := by
 have h1 := hu.1
 have h2 := pathM_len u.2.2.2.2.2.1
 unfold szU at h1
 omega
theorem impl_key_ok {n : Nat} (hn : 4194304 + 25 ≤ n) {u : TUrl} (hu : BU u) : ci_Url_key n u = some (keyU u, ()) := by
 obtain ⟨m, rfl⟩ := sn hn
 rw [ei_Url_key]; unfold mi_Url_key
 rw [impl_base_ok (by omega) (bu_path hu), Option.bind_some, impl_Url_text_ok (by omega) (bu_base hu)]
 rfl
theorem spec_key_ok {n : Nat} (hn : 4194304 + 25 ≤ n) {u : TUrl} (hu : BU u) : cs_l8Key n u = some (keyU u, ()) := by
 obtain ⟨m, rfl⟩ := sn hn
 rw [es_l8Key]; unfold ms_l8Key
 have := spec_l3Put_ok (n := m) (by omega) (bu_base hu)
 refine (?_ : (cs_l3Put m (baseU u)).bind _ = _)
 rw [this]; rfl
structure BN (l : List TPage) : Prop where
 len : l.length ≤ 2000000
 url : ∀ p ∈ l, BU p.1
 dest : ∀ p ∈ l, p.2.2.1.length ≤ 2000000
 says : ∀ p ∈ l, p.2.2.2.1.length ≤ 2000000
theorem all200 (l : List Bs) : (!(l.any fun s => decide ((200 : Int) < (s.length : Int)))) = l.all fun s => decide (s.length ≤ 200) := by
 induction l with
 | nil => rfl
 | cons s l ih =>
  rw [List.any_cons, List.all_cons, Bool.not_or, ih]
  congr 1
  rw [← decide_not, decide_eq_decide]; omega
theorem page_go {K1 K2 T0 T2 A : Bool} (h : K1 = true → K2 = false) : (bif K1 then (bif T0 then (some (A, ())) else (bif K2 then (bif T2 then (some (A, ())) else (some (false, ()))) else (some (false, ())))) else (bif K2 then (bif T2 then (some (A, ())) else (some (false, ()))) else (some (false, ()) : Option (Bool × Unit)))) = some ((((K1 && T0) || (K2 && T2)) && A), ()) := by
 cases K1
 ·cases K2 <;> cases T2 <;> simp
 ·rw [h rfl]; cases T0 <;> simp
theorem impl_Page_ok_ok {n : Nat} (hn : 4194304 + 30 ≤ n) {p : TPage} (hu : BU p.1) (hs : p.2.2.2.1.length ≤ 2000000) : ci_Page_ok n p = some (okPage p, ()) := by
 obtain ⟨m, rfl⟩ := sn hn
 rw [ei_Page_ok]; unfold mi_Page_ok okPage
 have hidx : idxM (fun z => (ci_Page_ok_1 m z).map fun o => o.1) p.2.2.2.1 = some (p.2.2.2.1.findIdx? fun s => decide ((200 : Int) < (s.length : Int))) := idxM_all (fun z _ => by
  obtain ⟨k, rfl⟩ : ∃ k, m = k + 1 := ⟨m - 1, by omega⟩
  rw [ei_Page_ok_1]; rfl)
 have g1 : decide (p.2.2.2.1.length ≤ 9223372036854775807) = true := decide_eq_true (by omega)
 have g2 : ∀ o : Option (Bool × Unit), grd true o = o := fun o => rfl
 simp only [impl_UrlOk_ok (n := m) (by omega) hu, hidx, g1, g2, Option.bind_some, List.findIdx?_isSome, all200]
 have e2 : decide ((p.2.2.2.1.length : Int) ≤ 2) = decide (p.2.2.2.1.length ≤ 2) := by rw [decide_eq_decide]; omega
 have e3 : decide ((p.2.2.1.length : Int) ≤ 200) = decide (p.2.2.1.length ≤ 200) := by rw [decide_eq_decide]; omega
 rw [e2, e3, page_go (fun h => by rw [decide_eq_true_eq] at h; rw [h]; rfl)]
 have e4 : (p.2.2.1 == ([] : Bs)) = decide (p.2.2.1 = []) := beq_d _ _
 rw [e4]
 have e5 : decide (p.1.2.2.2.1.1 ≠ 0) = !decide (p.1.2.2.2.1.1 = 0) := by simp
 rw [e5]
 cases okU p.1 <;> cases decide (p.1.2.2.2.1.1 = 0) <;> cases p.1.2.2.2.2.2.2.2.2.2.1 <;> cases decide (p.2.2.2.1.length ≤ 2) <;> rfl
theorem spec_page_ok {n : Nat} (hn : 4194304 + 30 ≤ n) {p : TPage} (hu : BU p.1) (hs : p.2.2.2.1.length ≤ 2000000) : cs_l8Page n p = some (okPage p, ()) := by
 obtain ⟨m, rfl⟩ := sn hn
 rw [es_l8Page]; unfold ms_l8Page
 have e2 : decide ((2 : Int) < (p.2.2.2.1.length : Int)) = !decide (p.2.2.2.1.length ≤ 2) := by rw [← decide_not, decide_eq_decide]; omega
 have e3 : decide ((p.2.2.1.length : Int) ≤ 200) = decide (p.2.2.1.length ≤ 200) := by rw [decide_eq_decide]; omega
 have e4 : (p.2.2.1 == ([] : Bs)) = decide (p.2.2.1 = []) := beq_d _ _
 have e5 : decide (p.1.2.2.2.1.1 ≠ 0) = !decide (p.1.2.2.2.1.1 = 0) := by simp
 refine loopS p.2.2.2.1 (fun L i st r => r = (okPage p, ()) ∧ st = ((i : Int), ()) ∧ (p.2.2.2.1.all fun s => decide (s.length ≤ 200)) = L.all fun s => decide (s.length ≤ 200)) ?_ ?_ ⟨rfl, rfl, rfl⟩ (by omega)
 ·rintro st r self ⟨rfl, rfl, e⟩
  unfold ms_l8Page.l0
  simp only [List.all_nil] at e
  rw [bif_dec, if_neg (by simp only; omega), spec_UrlOk_ok (by omega) hu]
  simp only [Option.bind_some]
  unfold okPage
  rw [e, e2, e3, e4, e5]
  have hK : decide (p.2.1 = 1) = true → decide (p.2.1 = 2) = false := fun h => by rw [decide_eq_true_eq] at h; rw [h]; rfl
  cases h1 : decide (p.2.1 = 1)
  ·cases okU p.1 <;> cases p.1.2.2.2.2.2.2.2.2.2.1 <;> cases decide (p.1.2.2.2.1.1 = 0) <;> cases decide (p.2.2.2.1.length ≤ 2) <;> cases decide (p.2.2.1 = []) <;> cases decide (p.2.1 = 2) <;> cases decide (p.2.2.1.length ≤ 200) <;> rfl
  ·rw [hK h1]
   cases okU p.1 <;> cases p.1.2.2.2.2.2.2.2.2.2.1 <;> cases decide (p.1.2.2.2.1.1 = 0) <;> cases decide (p.2.2.2.1.length ≤ 2) <;> cases decide (p.2.2.1 = []) <;> cases decide (p.2.2.1.length ≤ 200) <;> rfl
 ·rintro s L i st r self _ hi hx ⟨rfl, rfl, e⟩ ih
  unfold ms_l8Page.l0
  have k1 : (0 : Int) ≤ (i : Int) := by omega
  have k2 : (i : Int) < (p.2.2.2.1.length : Int) := by omega
  simp only [bif_dec, grd_dec, Int.toNat_natCast, getD_get [] hx, k1, k2, if_true]
  rw [List.all_cons] at e
  by_cases h : s.length ≤ 200
  ·rw [decide_eq_true h, Bool.true_and] at e
   rw [if_neg (by omega), w_i (by omega)]
   exact ih _ ⟨rfl, rfl, e⟩
  ·rw [decide_eq_false h, Bool.false_and] at e
   rw [if_pos (by omega)]
   unfold okPage
   rw [e]
   simp
def prevP (l : List TPage) (i : Nat) : Option Bs := if i = 0 then none else (l[i - 1]?).map fun p => keyU p.1
theorem prevP_next {l : List TPage} {i : Nat} {c : TPage} (h : l[i]? = some c) : prevP l (i + 1) = some (keyU c.1) := by
 unfold prevP; rw [if_neg (by omega), Nat.add_sub_cancel, h]; rfl
theorem impl_NetOk_ok {n : Nat} (hn : 4194304 + 31 ≤ n) {l : List TPage} (B : BN l) : ci_NetOk n l = some (okNet l, ()) := by
 obtain ⟨m, rfl⟩ := sn hn
 rw [ei_NetOk]; unfold mi_NetOk
 have hlen := B.len
 refine loopS l (fun L i st r => r = (okNet l, ()) ∧ st = ((i : Int), ()) ∧ okNet l = (upGo okPage (fun p => keyU p.1) (prevP l i) L && decide (l.length ≤ 10))) ?_ ?_ ⟨rfl, rfl, rfl⟩ (by omega)
 ·rintro st r self ⟨rfl, rfl, e⟩
  unfold mi_NetOk.l0
  simp only [bif_dec]
  rw [if_neg (by omega), e]
  simp only [upGo, Bool.true_and]
  congr 2
  rw [decide_eq_decide]; omega
 ·rintro c L i st r self _ hi hx ⟨rfl, rfl, e⟩ ih
  have hm := List.mem_of_getElem? hx
  unfold mi_NetOk.l0
  have k1 : (0 : Int) ≤ (i : Int) := by omega
  have k2 : (i : Int) < (l.length : Int) := by omega
  simp only [bif_dec, grd_dec, Int.toNat_natCast, getD_get dPage hx, k1, k2, if_true, impl_Page_ok_ok (n := m) (p := c) (by omega) (B.url c hm) (B.says c hm), impl_key_ok (n := m) (u := c.1) (by omega) (B.url c hm), Option.bind_some]
  simp only [upGo] at e
  cases hc : okPage c with
  | false => rw [hc] at e; rw [e]; rfl
  | true =>
  rw [hc] at e
  simp only [Bool.not_true, cond_false, Bool.true_and] at e ⊢
  by_cases hz : i = 0
  ·rw [if_neg (by omega), w_i (by omega)]
   refine ih _ ⟨rfl, rfl, ?_⟩
   rw [prevP_next hx, e]
   simp [prevP, hz]
  ·obtain ⟨p, hp⟩ : ∃ p, l[i - 1]? = some p := ⟨_, List.getElem?_eq_getElem (by omega)⟩
   have hpm := List.mem_of_getElem? hp
   have hw : IntKind.i64.wrap ((i : Int) - 1) = ((i - 1 : Nat) : Int) := by rw [w64 (by omega) (by omega)]; omega
   have k3 : (0 : Int) ≤ ((i - 1 : Nat) : Int) := by omega
   have k4 : ((i - 1 : Nat) : Int) < (l.length : Int) := by omega
   rw [if_pos (by omega)]
   simp only [hw, k3, k4, if_true, Int.toNat_natCast, getD_get dPage hp, impl_key_ok (n := m) (u := p.1) (by omega) (B.url p hpm), Option.bind_some, bless_le]
   have hpr : prevP l i = some (keyU p.1) := by unfold prevP; rw [if_neg hz, hp]; rfl
   rw [hpr] at e
   simp only at e
   cases hb : bless (keyU p.1) (keyU c.1) with
   | false => rw [hb] at e; rw [e]; rfl
   | true =>
    rw [hb] at e
    simp only [Bool.not_true, cond_false, Bool.true_and, w_i (show i ≤ 4000000 by omega)] at e ⊢
    exact ih _ ⟨rfl, rfl, by rw [prevP_next hx, e]⟩
theorem spec_NetOk_ok {n : Nat} (hn : 4194304 + 31 ≤ n) {l : List TPage} (B : BN l) : cs_NetOk n l = some (okNet l, ()) := by
 obtain ⟨m, rfl⟩ := sn hn
 rw [es_NetOk]; unfold ms_NetOk
 have hlen := B.len
 refine loopS l (fun L i st r => r = (okNet l, ()) ∧ st = ((i : Int), ()) ∧ okNet l = (upGo okPage (fun p => keyU p.1) (prevP l i) L && decide (l.length ≤ 10))) ?_ ?_ ⟨rfl, rfl, rfl⟩ (by omega)
 ·rintro st r self ⟨rfl, rfl, e⟩
  unfold ms_NetOk.l0
  simp only [bif_dec]
  rw [if_neg (by omega), e]
  simp only [upGo, Bool.true_and]
  congr 2
  rw [decide_eq_decide]; omega
 ·rintro c L i st r self _ hi hx ⟨rfl, rfl, e⟩ ih
  have hm := List.mem_of_getElem? hx
  unfold ms_NetOk.l0
  have k1 : (0 : Int) ≤ (i : Int) := by omega
  have k2 : (i : Int) < (l.length : Int) := by omega
  simp only [bif_dec, grd_dec, Int.toNat_natCast, getD_get dPage hx, k1, k2, if_true, spec_page_ok (n := m) (p := c) (by omega) (B.url c hm) (B.says c hm), spec_key_ok (n := m) (u := c.1) (by omega) (B.url c hm), Option.bind_some]
  simp only [upGo] at e
  cases hc : okPage c with
  | false => rw [hc] at e; rw [e]; rfl
  | true =>
  rw [hc] at e
  simp only [Bool.not_true, cond_false, Bool.true_and] at e ⊢
  by_cases hz : i = 0
  ·rw [if_neg (by omega), w_i (by omega)]
   refine ih _ ⟨rfl, rfl, ?_⟩
   rw [prevP_next hx, e]
   simp [prevP, hz]
  ·obtain ⟨p, hp⟩ : ∃ p, l[i - 1]? = some p := ⟨_, List.getElem?_eq_getElem (by omega)⟩
   have hpm := List.mem_of_getElem? hp
   have hw : IntKind.i64.wrap ((i : Int) - 1) = ((i - 1 : Nat) : Int) := by rw [w64 (by omega) (by omega)]; omega
   have k3 : (0 : Int) ≤ ((i - 1 : Nat) : Int) := by omega
   have k4 : ((i - 1 : Nat) : Int) < (l.length : Int) := by omega
   rw [if_pos (by omega)]
   simp only [hw, k3, k4, if_true, Int.toNat_natCast, getD_get dPage hp, spec_key_ok (n := m) (u := p.1) (by omega) (B.url p hpm), Option.bind_some]
   have hpr : prevP l i = some (keyU p.1) := by unfold prevP; rw [if_neg hz, hp]; rfl
   rw [hpr] at e
   simp only at e
   cases hb : bless (keyU p.1) (keyU c.1) with
   | false => rw [hb] at e; rw [e]; rfl
   | true =>
    rw [hb] at e
    simp only [Bool.not_true, cond_false, Bool.true_and, w_i (show i ≤ 4000000 by omega)] at e ⊢
    exact ih _ ⟨rfl, rfl, by rw [prevP_next hx, e]⟩
theorem impl_pageAt_ok {n : Nat} (hn : 4194304 + 27 ≤ n) {l : List TPage} (B : BN l) {u : TUrl} (hu : BU u) : ci_pageAt n l u = some (pageM l u, ()) := by
 obtain ⟨m, rfl⟩ := sn hn
 rw [ei_pageAt]; unfold mi_pageAt
 have hlen := B.len
 rw [grd_dec, if_pos (by omega), idxM_all (f := fun p => keyU p.1 == keyU u) (fun z hz => ?_)]
 ·rfl
 ·obtain ⟨k, rfl⟩ : ∃ k, m = k + 1 := ⟨m - 1, by omega⟩
  rw [ei_pageAt_1]; unfold mi_pageAt_1
  rw [impl_key_ok (by omega) (B.url z hz), Option.bind_some]
  have := impl_key_ok (n := k) (by omega) hu
  refine (?_ : Option.map _ ((ci_Url_key k u).bind _) = _)
  rw [this]; rfl
theorem l8At_ok {n : Nat} (hn : 4194304 + 26 ≤ n) {l : List TPage} (B : BN l) {u : TUrl} (hu : BU u) : cs_l8At n l u = some (pageM l u, ()) := by
 obtain ⟨m, rfl⟩ := sn hn
 rw [es_l8At]; unfold ms_l8At
 have hlen := B.len
 refine loopS l (fun L i st r => r = (pageM l u, ()) ∧ st = ((i : Int), ()) ∧ ∀ p ∈ l.take i, (keyU p.1 == keyU u) = false) ?_ ?_ ⟨rfl, rfl, by simp⟩ (by omega)
 ·rintro st r self ⟨rfl, rfl, h⟩
  rw [List.take_length] at h
  unfold ms_l8At.l0 pageM
  simp only [bif_dec]
  rw [if_neg (by omega), List.findIdx?_eq_none_iff.2 h]; rfl
 ·rintro c L i st r self _ hi hx ⟨rfl, rfl, h⟩ ih
  have hm := List.mem_of_getElem? hx
  unfold ms_l8At.l0
  have k1 : (0 : Int) ≤ (i : Int) := by omega
  have k2 : (i : Int) < (l.length : Int) := by omega
  simp only [bif_dec, grd_dec, Int.toNat_natCast, getD_get dPage hx, k1, k2, if_true, spec_key_ok (n := m) (u := c.1) (by omega) (B.url c hm), spec_key_ok (n := m) (u := u) (by omega) hu, Option.bind_some]
  cases hk : keyU c.1 == keyU u with
  | true =>
   have : pageM l u = (i : Int) := by
    unfold pageM
    have hf : l.findIdx? (fun p => keyU p.1 == keyU u) = some i := by
     obtain ⟨hil, rfl⟩ := List.getElem?_eq_some_iff.1 hx
     rw [List.findIdx?_eq_some_iff_getElem]
     refine ⟨hil, by simpa using hk, fun j hj => ?_⟩
     have := h l[j] (mem_take.2 ⟨j, hj, List.getElem?_eq_getElem (by omega)⟩)
     simpa using this
    rw [hf]; rfl
   rw [this]; rfl
  | false =>
   simp only [cond_false, w_i (show i ≤ 4000000 by omega)]
   refine ih _ ⟨rfl, rfl, fun p hp => ?_⟩
   rw [take_snoc hx] at hp
   rcases List.mem_append.1 hp with hp | hp
   ·exact h p hp
   ·rw [List.mem_singleton.1 hp]; exact hk
theorem impl_NetAt_ok {n : Nat} (hn : 4194304 + 32 ≤ n) {l : List TPage} (B : BN l) {u : TUrl} (hu : BU u) : ci_NetAt n l u = some (netAtM l u, ()) := by
 obtain ⟨m, rfl⟩ := sn hn
 rw [ei_NetAt]; unfold mi_NetAt netAtM
 simp only [impl_NetOk_ok (n := m) (by omega) B, impl_UrlOk_ok (n := m) (by omega) hu, impl_pageAt_ok (n := m) (by omega) B hu, Option.bind_some]
 cases okNet l <;> cases okU u <;> rfl
theorem spec_NetAt_ok {n : Nat} (hn : 4194304 + 32 ≤ n) {l : List TPage} (B : BN l) {u : TUrl} (hu : BU u) : cs_NetAt n l u = some (netAtM l u, ()) := by
 obtain ⟨m, rfl⟩ := sn hn
 rw [es_NetAt]; unfold ms_NetAt netAtM
 simp only [spec_NetOk_ok (n := m) (by omega) B, spec_UrlOk_ok (n := m) (by omega) hu, l8At_ok (n := m) (by omega) B hu, Option.bind_some]
 cases okNet l <;> cases okU u <;> rfl
end Go.VM.T
namespace Go.VM.T
open Go Go.VM
structure WP (p : TPage) : Prop where
 url : WU p.1
 dest : p.2.2.1.length ≤ big64
 says : p.2.2.2.1.length ≤ big64
 say : ∀ x ∈ p.2.2.2.1, x.length ≤ big64
structure WN (l : List TPage) : Prop where
 len : l.length ≤ big64
 pg : ∀ p ∈ l, WP p
def szP (p : TPage) : Nat := szU p.1 + p.2.2.1.length + (p.2.2.2.1.length + sumL p.2.2.2.1)
def sumP : List TPage → Nat
 | [] => 0
 | p :: l => szP p + sumP l
theorem sumP_mem : ∀ {l : List TPage} {p : TPage}, p ∈ l → szP p ≤ sumP l
 | q :: l, p, h => by
  unfold sumP
  rcases List.mem_cons.1 h with rfl | h
  ·omega
  ·have := sumP_mem h; omega
theorem szPage_ok {n : Nat} (hn : 4194304 + 3 ≤ n) {p : TPage} (W : WP p) {left : Int} (h0 : 0 ≤ left) (h1 : left ≤ 1048576) : cl_szPage n p left = some (leftM left (szP p), ()) := by
 obtain ⟨m, rfl⟩ := sn hn
 obtain ⟨w1, w2, w3, w4⟩ := W
 have b : big64 = 9223372036854775807 := rfl
 rw [el_szPage]; unfold ml_szPage szP
 rw [szUrl_ok (by omega) w1 h0 h1]
 simp only [Option.bind_some]
 by_cases g1 : (szU p.1 : Int) ≤ left
 case neg => rw [leftM_neg g1, bif_dec, if_pos (by omega), leftM_neg (by omega)]
 rw [leftM_pos g1, bif_dec, if_neg (by omega), w64 (x := left - (szU p.1 : Int) - (p.2.2.1.length : Int)) (by omega) (by omega), bif_dec]
 by_cases g2 : left - (szU p.1 : Int) - (p.2.2.1.length : Int) < 0
 ·rw [if_pos g2, leftM_neg (by omega)]
 rw [if_neg g2, szS_ok (by omega) w3 w4 (by omega) (by omega)]
 simp only [Option.bind_some]
 by_cases g3 : ((p.2.2.2.1.length + sumL p.2.2.2.1 : Nat) : Int) ≤ left - (szU p.1 : Int) - (p.2.2.1.length : Int)
 case neg => rw [leftM_neg g3, bif_dec, if_pos (by omega), leftM_neg (by omega)]
 rw [leftM_pos g3, bif_dec, if_neg (by omega), leftM_pos (by omega)]
 congr 2; omega
theorem szPageS_ok {n : Nat} (hn : 4194304 + 4 ≤ n) {l : List TPage} (W : WN l) {left : Int} (h0 : 0 ≤ left) (h1 : left ≤ 1048576) : cl_szPageS n l left = some (leftM left (l.length + sumP l), ()) := by
 obtain ⟨m, rfl⟩ := sn hn
 have hl := W.len
 unfold big64 at hl
 rw [el_szPageS]; unfold ml_szPageS
 rw [w64 (by omega) (by omega), bif_dec]
 by_cases g : (l.length : Int) ≤ left
 ·rw [if_neg (by omega)]
  have e : leftM left (l.length + sumP l) = leftM (left - l.length) (sumP l) := by
   unfold leftM
   by_cases q : ((l.length + sumP l : Nat) : Int) ≤ left
   ·rw [if_pos q, if_pos (by omega)]; omega
   ·rw [if_neg q, if_neg (by omega)]
  rw [e]
  refine loopS l (fun r i st q => st.2.1 = (i : Int) ∧ 0 ≤ st.1 ∧ st.1 ≤ 1048576 ∧ q = (leftM st.1 (sumP r), ())) ?_ ?_ ⟨rfl, by dsimp only; omega, by dsimp only; omega, rfl⟩ (by omega)
  ·rintro ⟨v, i0, ⟨⟩⟩ q self ⟨hi0, hv, hv2, rfl⟩
   dsimp only at hi0 hv hv2; subst hi0
   unfold ml_szPageS.l0
   dsimp only
   rw [bif_dec, if_neg (by omega)]
   unfold leftM sumP
   rw [if_pos (by omega)]; simp
  ·rintro x r i ⟨v, i0, ⟨⟩⟩ q self hd hi hx ⟨hi0, hv, hv2, rfl⟩ ih
   dsimp only at hi0 hv hv2; subst hi0
   have hxl := W.pg x (List.mem_of_getElem? hx)
   unfold ml_szPageS.l0
   dsimp only
   rw [toNat_nat, getD_get _ hx, szPage_ok (by omega) hxl hv hv2, bif_dec, if_pos (by omega), grd_dec, if_pos (by omega), grd_dec, if_pos (by omega)]
   simp only [Option.bind_some]
   rw [bif_dec]
   by_cases q : (szP x : Int) ≤ v
   ·rw [leftM_pos q, if_neg (by omega)]
    refine ih _ ⟨w_i (by omega), by dsimp only; omega, by dsimp only; omega, ?_⟩
    dsimp only
    unfold leftM
    rw [show sumP (x :: r) = szP x + sumP r from rfl]
    by_cases q2 : ((szP x + sumP r : Nat) : Int) ≤ v
    ·rw [if_pos q2, if_pos (by omega)]
     congr 1; omega
    ·rw [if_neg q2, if_neg (by omega)]
   ·rw [leftM_neg q, if_pos (by omega)]
    unfold sumP
    rw [leftM_neg (by omega)]
 ·rw [if_pos (by omega), leftM_neg (by omega)]
theorem toPage_ok {n : Nat} (hn : 4194304 + 3 ≤ n) {p : TPage} (hu : BU p.1) (hs : p.2.2.2.1.length ≤ 2000000) : cl_toPage n p = some (p, ()) := by
 obtain ⟨m, rfl⟩ := sn hn
 rw [el_toPage]; unfold ml_toPage
 rw [toUrl_ok (by omega) (bu_path hu), Option.bind_some, toS_ok (by omega) (by omega)]; rfl
theorem toPageS_ok {n : Nat} (hn : 4194304 + 4 ≤ n) {l : List TPage} (B : BN l) : cl_toPageS n l = some (l, ()) := by
 obtain ⟨m, rfl⟩ := sn hn
 have hl := B.len
 rw [el_toPageS]; unfold ml_toPageS
 rw [grd_dec, if_pos (by omega), grd_dec, if_pos (by omega), grd_dec, if_pos (by omega), toNat_nat]
 refine loopS l (fun r i st q => st.1 = (i : Int) ∧ st.2.1 = l.take i ++ List.replicate r.length dPage ∧ q = (l, ())) ?_ ?_ ⟨rfl, by simp, rfl⟩ (by omega)
 ·rintro ⟨i0, row, ⟨⟩⟩ q self ⟨hi0, hr, rfl⟩
  dsimp only at hi0 hr; subst hi0; subst hr
  unfold ml_toPageS.l0
  dsimp only
  rw [bif_dec, if_neg (by omega)]; simp
 ·rintro x r i ⟨i0, row, ⟨⟩⟩ q self hd hi hx ⟨hi0, hr, rfl⟩ ih
  dsimp only at hi0 hr; subst hi0
  have hm := List.mem_of_getElem? hx
  have hlen : row.length = l.length := by rw [hr]; have := congrArg List.length hd; simp at this ⊢; omega
  unfold ml_toPageS.l0
  dsimp only
  rw [toNat_nat, getD_get _ hx, toPage_ok (by omega) (B.url x hm) (B.says x hm), bif_dec, if_pos (by omega), grd_dec, if_pos (by omega), grd_dec, if_pos (by omega)]
  simp only [Option.bind_some]
  rw [grd_dec, if_pos (by omega), grd_dec, if_pos (by omega), grd_dec, if_pos (by omega)]
  refine ih _ ⟨w_i (by omega), ?_, rfl⟩
  dsimp only
  rw [hr, take_succ' hx, List.length_cons, List.replicate_succ, set_app _ _ _ _ i (by simp; omega)]
  simp
theorem eqPage_refl {n : Nat} (hn : 4194304 + 3 ≤ n) {p : TPage} (hu : BU p.1) (hs : p.2.2.2.1.length ≤ 2000000) : cl_eqPage n p p = some (true, ()) := by
 obtain ⟨m, rfl⟩ := sn hn
 rw [el_eqPage]; unfold ml_eqPage
 rw [eqUrl_refl (by omega) (bu_path hu), eqS_ok (by omega) (by omega)]
 simp
theorem eqPageS_refl {n : Nat} (hn : 4194304 + 4 ≤ n) {l : List TPage} (B : BN l) : cl_eqPageS n l l = some (true, ()) := by
 obtain ⟨m, rfl⟩ := sn hn
 have hl := B.len
 rw [el_eqPageS]; unfold ml_eqPageS
 rw [bif_ndec, if_pos rfl]
 refine loopS l (fun _ i st q => q = (true, ()) ∧ st = ((i : Int), ())) ?_ ?_ ⟨rfl, rfl⟩ (by omega)
 ·rintro st q self ⟨rfl, rfl⟩
  unfold ml_eqPageS.l0
  simp only [bif_dec]
  rw [if_neg (by omega)]
 ·rintro x r i st q self hd hi hx ⟨rfl, rfl⟩ ih
  have hm := List.mem_of_getElem? hx
  unfold ml_eqPageS.l0
  have k1 : (0 : Int) ≤ (i : Int) := by omega
  have k2 : (i : Int) < (l.length : Int) := by omega
  simp only [bif_dec, grd_dec, toNat_nat, getD_get dPage hx, k1, k2, if_true, eqPage_refl (n := m) (by omega) (B.url x hm) (B.says x hm), Option.bind_some, Bool.not_true, cond_false, w_i (show i ≤ 4000000 by omega)]
  exact ih _ ⟨rfl, rfl⟩
theorem WN_BN {l : List TPage} (W : WN l) (h : ¬ leftM 1048576 (l.length + sumP l) < 0) : BN l ∧ 0 ≤ leftM 1048576 (l.length + sumP l) ∧ leftM 1048576 (l.length + sumP l) ≤ 1048576 := by
 unfold leftM at *
 split at h
 ·rename_i q
  have hp : ∀ p ∈ l, szP p ≤ 1048576 := fun p hp => by have := sumP_mem hp; omega
  refine ⟨⟨by omega, fun p h => ⟨?_, (W.pg p h).url.p⟩, fun p h => ?_, fun p h => ?_⟩, by omega, by omega⟩
  ·have := hp p h; unfold szP at this; omega
  ·have := hp p h; unfold szP at this; omega
  ·have := hp p h; unfold szP at this; omega
 ·omega
theorem law_NetOk {n : Nat} (hn : 4194304 + 40 ≤ n) {l : List TPage} (W : WN l) : cl_FnExactNetOk n l = some (true, ()) := by
 obtain ⟨m, rfl⟩ := sn hn
 rw [el_FnExactNetOk]; unfold ml_FnExactNetOk
 rw [szPageS_ok (by omega) W (by omega) (by omega)]
 simp only [Option.bind_some]
 rw [bif_dec]
 by_cases g1 : leftM 1048576 (l.length + sumP l) < 0
 ·rw [if_pos g1]
 rw [if_neg g1]
 obtain ⟨B, _, _⟩ := WN_BN W g1
 rw [toPageS_ok (by omega) B]
 simp only [Option.bind_some]
 rw [spec_NetOk_ok (by omega) B, impl_NetOk_ok (by omega) B, eqPageS_refl (by omega) B]
 simp
theorem law_NetAt {n : Nat} (hn : 4194304 + 40 ≤ n) {l : List TPage} {u : TUrl} (W : WN l) (U : WU u) : cl_FnExactNetAt n l u = some (true, ()) := by
 obtain ⟨m, rfl⟩ := sn hn
 rw [el_FnExactNetAt]; unfold ml_FnExactNetAt
 rw [szPageS_ok (by omega) W (by omega) (by omega)]
 simp only [Option.bind_some]
 rw [bif_dec]
 by_cases g1 : leftM 1048576 (l.length + sumP l) < 0
 ·rw [if_pos g1]
 rw [if_neg g1]
 obtain ⟨B, k0, k1⟩ := WN_BN W g1
 rw [szUrl_ok (by omega) U k0 k1]
 simp only [Option.bind_some]
 rw [bif_dec]
 generalize leftM 1048576 (l.length + sumP l) = k at *
 by_cases g2 : leftM k (szU u) < 0
 ·rw [if_pos g2]
 rw [if_neg g2]
 obtain ⟨bu, _, _, pu⟩ := WU_BU U k1 g2
 rw [toPageS_ok (by omega) B, toUrl_ok (by omega) pu]
 simp only [Option.bind_some]
 rw [spec_NetAt_ok (by omega) B bu, impl_NetAt_ok (by omega) B bu, eqPageS_refl (by omega) B, eqUrl_refl (by omega) pu]
 simp
end Go.VM.T
namespace Go.VM.T
open Go Go.VM
abbrev tPage : Ty := .pair tUrl (.pair (.int .i64) (.pair .str (.pair (.lst .str) .unit)))
theorem WN_of {l : List TPage} (h : Wf (.lst tPage) l) : WN l := by
 obtain ⟨h0, h1⟩ := h
 refine ⟨h0, fun p hp => ?_⟩
 obtain ⟨g1, _, g2, ⟨g3, g4⟩, _⟩ := h1 p hp
 exact ⟨WU_of g1, g2, g3, g4⟩
end Go.VM.T
