/- The plain law: what the models compute answers as the statement says. -/
import Derived.Test.YtphnmhmmebomkaaGreatDoorX7
import Derived.Test.YtphnmhmmebomkaaGreatDoorX4
set_option linter.unusedVariables false
set_option linter.unusedSimpArgs false
namespace Go.VM.T
open Go Go.VM
structure BH (l : List TEntry) : Prop where
 len : l.length ≤ 1000
 url : ∀ e ∈ l, BU e.2.1
theorem BH.get {l : List TEntry} (B : BH l) {i : Nat} {e : TEntry} (h : l[i]? = some e) : BU e.2.1 := B.url e (List.mem_of_getElem? h)
theorem BH.take {l : List TEntry} (B : BH l) (i : Nat) : BH (l.take i) := ⟨by have := B.len; simp; omega, fun e he => B.url e (List.mem_of_mem_take he)⟩
theorem BH.drop {l : List TEntry} (B : BH l) (i : Nat) : BH (l.drop i) := ⟨by have := B.len; simp; omega, fun e he => B.url e (List.mem_of_mem_drop he)⟩
theorem BH.snoc {l : List TEntry} (B : BH l) {e : TEntry} (he : BU e.2.1) (hl : l.length ≤ 999) : BH (l ++ [e]) := ⟨by simp; omega, fun x hx => by
 rcases List.mem_append.1 hx with hx | hx
 ·exact B.url x hx
 ·rw [List.mem_singleton.1 hx]; exact he⟩
theorem BH.set {l : List TEntry} (B : BH l) {e : TEntry} (he : BU e.2.1) (j : Nat) : BH (l.set j e) := ⟨by have := B.len; simp; omega, fun x hx => by
 rcases List.mem_or_eq_of_mem_set hx with hx | rfl
 ·exact B.url x hx
 ·exact he⟩
theorem keyAt_ok {n : Nat} (hn : 4194304 + 2 ≤ n) {l : List TEntry} (hl : l.length ≤ 1000) (k : Int) : ci_keyAt n l k = some (idxV (l.findIdx? fun x => decide (x.2.2.2.1 = k)), ()) := by
 obtain ⟨m, rfl⟩ := sn hn
 rw [ei_keyAt]; unfold mi_keyAt
 rw [grd_dec, if_pos (by omega), idxM_all (f := fun x => decide (x.2.2.2.1 = k)) (fun z _ => ?_)]
 ·rfl
 ·obtain ⟨j, rfl⟩ : ∃ j, m = j + 1 := ⟨m - 1, by omega⟩
  rw [ei_keyAt_1]; rfl
theorem key_first {l : List TEntry} {i : Nat} {e : TEntry} (h : l[i]? = some e) : idxV (l.findIdx? fun x => decide (x.2.2.2.1 = e.2.2.2.1)) = (i : Int) ↔ ∀ a ∈ l.take i, a.2.2.2.1 ≠ e.2.2.2.1 := by
 obtain ⟨hi, rfl⟩ := List.getElem?_eq_some_iff.1 h
 constructor
 ·intro hk a ha
  cases hf : l.findIdx? (fun x => decide (x.2.2.2.1 = l[i].2.2.2.1)) with
  | none => rw [hf] at hk; simp only [idxV] at hk; omega
  | some j =>
   rw [hf] at hk
   simp only [idxV] at hk
   obtain rfl : j = i := by omega
   obtain ⟨_, _, h3⟩ := List.findIdx?_eq_some_iff_getElem.1 hf
   obtain ⟨k, h4, h5⟩ := mem_take.1 ha
   obtain ⟨h6, rfl⟩ := List.getElem?_eq_some_iff.1 h5
   simpa using h3 k h4
 ·intro ha
  have : l.findIdx? (fun x => decide (x.2.2.2.1 = l[i].2.2.2.1)) = some i := by
   rw [List.findIdx?_eq_some_iff_getElem]
   refine ⟨hi, by simp, fun k hk => ?_⟩
   simpa using ha l[k] (mem_take.2 ⟨k, hk, List.getElem?_eq_getElem (by omega)⟩)
  rw [this]; rfl
theorem okHist_pre {l : List TEntry} (P : PreH l) : okHist l = decide (l.length ≤ 20) := by
 by_cases h : l.length ≤ 20
 ·rw [decide_eq_true h, (okHist_iff l).2 ⟨P, h⟩]
 ·rw [decide_eq_false h, (okHist_false l).2 (fun k => h k.2)]
theorem okHist_bad {l : List TEntry} {i : Nat} (h : ¬ PreH (l.take i)) : okHist l = false := (okHist_false l).2 fun k => h (k.1.take i)
theorem oneE_iff (e : TEntry) : oneE e = true ↔ (0 ≤ e.1 ∧ e.1 ≤ 60) ∧ okU e.2.1 = true ∧ (0 ≤ e.2.2.1 ∧ e.2.2.1 ≤ 9999) ∧ (0 ≤ e.2.2.2.1 ∧ e.2.2.2.1 ≤ 9999) ∧ e.2.2.2.2.1.length ≤ 20 := by
 unfold oneE; simp only [Bool.and_eq_true, decide_eq_true_eq]
theorem impl_HistOk_ok {n : Nat} (hn : 4194304 + 31 ≤ n) {l : List TEntry} (B : BH l) : ci_HistOk n l = some (okHist l, ()) := by
 obtain ⟨m, rfl⟩ := sn hn
 rw [ei_HistOk]; unfold mi_HistOk
 have hlen := B.len
 refine loopS l (fun _ i st r => PreH (l.take i) ∧ r = (okHist l, ()) ∧ ∃ last : Int, st = (last, (i : Int), ()) ∧ -1 ≤ last ∧ last ≤ 60 ∧ (∀ a ∈ l.take i, a.1 ≤ last) ∧ (last = -1 ∨ ∃ a ∈ l.take i, a.1 = last)) ?_ ?_
  ⟨by simpa using preH_nil, rfl, -1, rfl, by omega, by omega, by simp, .inl rfl⟩ (by omega)
 ·rintro st r self ⟨P, rfl, last, rfl, _⟩
  rw [List.take_length] at P
  unfold mi_HistOk.l0
  simp only [bif_dec]
  rw [if_neg (by omega), okHist_pre P]
  congr 2
  rw [decide_eq_decide]; omega
 ·rintro e L i st r self _ hi hx ⟨P, rfl, last, rfl, h1, h2, h3, h4⟩ ih
  unfold mi_HistOk.l0
  have hN := preH_next hx P
  have hbad : ¬ (oneE e = true ∧ (∀ a ∈ l.take i, a.1 < e.1) ∧ ∀ a ∈ l.take i, a.2.2.2.1 ≠ e.2.2.2.1) → some (false, ()) = some (okHist l, ()) := fun h => by rw [okHist_bad (fun k => h (hN.1 k))]
  simp only [bif_dec, grd_dec, Int.toNat_natCast, getD_get dEntry hx]
  rw [if_pos (by omega), if_pos (by omega), if_pos (by omega), w64 (by omega) (by omega)]
  simp only [impl_in_ok (n := m) (by omega), impl_UrlOk_ok (n := m) (by omega) (B.get hx), keyAt_ok (n := m) (by omega) hlen, Option.bind_some, bif_ndec]
  have hs : (last + 1 ≤ e.1 ∧ e.1 ≤ 60) ↔ (0 ≤ e.1 ∧ e.1 ≤ 60) ∧ ∀ a ∈ l.take i, a.1 < e.1 := by
   constructor
   ·rintro ⟨g1, g2⟩
    exact ⟨by omega, fun a ha => by have := h3 a ha; omega⟩
   ·rintro ⟨⟨g1, g2⟩, g3⟩
    rcases h4 with h4 | ⟨a, ha, h4⟩
    ·omega
    ·have := g3 a ha; omega
  by_cases c1 : last + 1 ≤ e.1 ∧ e.1 ≤ 60
  case neg => rw [if_neg c1]; exact hbad fun ⟨g1, g2, _⟩ => c1 (hs.2 ⟨((oneE_iff e).1 g1).1, g2⟩)
  rw [if_pos c1]
  cases c2 : okU e.2.1 with
  | false => exact hbad fun ⟨g1, _⟩ => by rw [((oneE_iff e).1 g1).2.1] at c2; cases c2
  | true =>
  simp only [Bool.not_true, cond_false]
  by_cases c3 : 0 ≤ e.2.2.1 ∧ e.2.2.1 ≤ 9999
  case neg => rw [if_neg c3]; exact hbad fun ⟨g1, _⟩ => c3 ((oneE_iff e).1 g1).2.2.1
  rw [if_pos c3]
  by_cases c4 : 0 ≤ e.2.2.2.1 ∧ e.2.2.2.1 ≤ 9999
  case neg => rw [if_neg c4]; exact hbad fun ⟨g1, _⟩ => c4 ((oneE_iff e).1 g1).2.2.2.1
  rw [if_pos c4]
  by_cases c5 : idxV (l.findIdx? fun x => decide (x.2.2.2.1 = e.2.2.2.1)) = (i : Int)
  case neg => rw [if_neg c5]; exact hbad fun ⟨_, _, g3⟩ => c5 ((key_first hx).2 g3)
  rw [if_pos c5]
  by_cases c6 : (20 : Int) < (e.2.2.2.2.1.length : Int)
  case pos => rw [if_pos c6]; exact hbad fun ⟨g1, _⟩ => by have := ((oneE_iff e).1 g1).2.2.2.2; omega
  rw [if_neg c6, w_i (by omega)]
  have hC : oneE e = true ∧ (∀ a ∈ l.take i, a.1 < e.1) ∧ ∀ a ∈ l.take i, a.2.2.2.1 ≠ e.2.2.2.1 := ⟨(oneE_iff e).2 ⟨(hs.1 c1).1, c2, c3, c4, by omega⟩, (hs.1 c1).2, (key_first hx).1 c5⟩
  refine ih _ ⟨hN.2 hC, rfl, e.1, rfl, by omega, by omega, fun a ha => ?_, .inr ⟨e, mem_take.2 ⟨i, by omega, hx⟩, rfl⟩⟩
  rw [take_snoc hx] at ha
  rcases List.mem_append.1 ha with ha | ha
  ·have := hC.2.1 a ha; omega
  ·rw [List.mem_singleton.1 ha]; exact Int.le_refl _
theorem l5One_ok {n : Nat} (hn : 4194304 + 30 ≤ n) {e : TEntry} (B : BU e.2.1) : cs_l5One n e = some (oneE e, ()) := by
 obtain ⟨m, rfl⟩ := sn hn
 rw [es_l5One]; unfold ms_l5One oneE
 simp only [spec_l1In_ok (n := m) (by omega), spec_UrlOk_ok (n := m) (by omega) B, Option.bind_some]
 have e20 : decide ((e.2.2.2.2.1.length : Int) ≤ 20) = decide (e.2.2.2.2.1.length ≤ 20) := by rw [decide_eq_decide]; omega
 rw [e20]
 cases decide (0 ≤ e.1 ∧ e.1 ≤ 60) <;> cases okU e.2.1 <;> cases decide (0 ≤ e.2.2.1 ∧ e.2.2.1 ≤ 9999) <;> cases decide (0 ≤ e.2.2.2.1 ∧ e.2.2.2.1 ≤ 9999) <;> rfl
theorem keys_in {m : Nat} {l : List TEntry} {i : Nat} {e : TEntry} (hx : l[i]? = some e) (hl : l.length ≤ 1000) (hm : 4194304 ≤ m) (f : (Int × Unit) → Option (Bool × Unit)) (r : Bool × Unit)
  {F : ((Int × Unit) → Option (Bool × Unit)) → (Int × Unit) → Option (Bool × Unit)} (hF : F = ms_HistOk.l0 m ((i : Int), ()) l f)
  (h1 : (∃ a ∈ l.take i, a.2.2.2.1 = e.2.2.2.1) → r = (false, ())) (h2 : (∀ a ∈ l.take i, a.2.2.2.1 ≠ e.2.2.2.1) → f (((i + 1 : Nat) : Int), ()) = some r) : loopR F m ((0 : Int), ()) = some r := by
 have hi := (List.getElem?_eq_some_iff.1 hx).1
 subst hF
 refine loopS (l.take i) (fun _ j st r' => r' = r ∧ st = ((j : Int), ()) ∧ ∀ a ∈ l.take j, a.2.2.2.1 ≠ e.2.2.2.1) ?_ ?_ ⟨rfl, rfl, by simp⟩ (by simp; omega)
 ·rintro st r' self ⟨rfl, rfl, h⟩
  have hli : (l.take i).length = i := by simp; omega
  rw [hli] at h ⊢
  unfold ms_HistOk.l0
  simp only [bif_dec]
  rw [if_neg (by omega), w_i (by omega)]
  exact h2 h
 ·rintro a L j st r' self _ hj hy ⟨rfl, rfl, h⟩ ih
  have hji : j < i := by simp at hj; omega
  have hy' : l[j]? = some a := by rw [List.getElem?_take, if_pos hji] at hy; exact hy
  unfold ms_HistOk.l0
  simp only [bif_dec, grd_dec, Int.toNat_natCast, getD_get dEntry hx, getD_get dEntry hy']
  rw [if_pos (by omega), if_pos (by omega), if_pos (by omega), if_pos (by omega), if_pos (by omega)]
  by_cases c : a.2.2.2.1 = e.2.2.2.1
  ·rw [if_pos c, h1 ⟨a, mem_take.2 ⟨j, hji, hy'⟩, c⟩]
  ·rw [if_neg c, w_i (by omega)]
   refine ih _ ⟨rfl, rfl, fun b hb => ?_⟩
   rw [take_snoc hy'] at hb
   rcases List.mem_append.1 hb with hb | hb
   ·exact h b hb
   ·rw [List.mem_singleton.1 hb]; exact c
theorem spec_HistOk_ok {n : Nat} (hn : 4194304 + 31 ≤ n) {l : List TEntry} (B : BH l) : cs_HistOk n l = some (okHist l, ()) := by
 obtain ⟨m, rfl⟩ := sn hn
 rw [es_HistOk]; unfold ms_HistOk
 have hlen := B.len
 refine loopS l (fun _ i st r => PreH (l.take i) ∧ r = (okHist l, ()) ∧ st = ((i : Int), ())) ?_ ?_ ⟨by simpa using preH_nil, rfl, rfl⟩ (by omega)
 ·rintro st r self ⟨P, rfl, rfl⟩
  rw [List.take_length] at P
  unfold ms_HistOk.l2
  simp only [bif_dec]
  rw [if_neg (by omega), okHist_pre P]
  congr 2
  rw [decide_eq_decide]; omega
 ·rintro e L i st r self _ hi hx ⟨P, rfl, rfl⟩ ih
  unfold ms_HistOk.l2
  have hN := preH_next hx P
  have hbad : ¬ (oneE e = true ∧ (∀ a ∈ l.take i, a.1 < e.1) ∧ ∀ a ∈ l.take i, a.2.2.2.1 ≠ e.2.2.2.1) → okHist l = false := fun h => okHist_bad (fun k => h (hN.1 k))
  simp only [bif_dec, grd_dec, Int.toNat_natCast, getD_get dEntry hx]
  rw [if_pos (by omega), if_pos (by omega), if_pos (by omega), l5One_ok (n := m) (by omega) (B.get hx)]
  simp only [Option.bind_some]
  cases c1 : oneE e with
  | false =>
   rw [hbad (fun k => by rw [k.1] at c1; cases c1)]; rfl
  | true =>
  simp only [Bool.not_true, cond_false]
  have last : (∀ a ∈ l.take i, a.1 < e.1) → loopR (ms_HistOk.l0 m ((i : Int), ()) l self) m ((0 : Int), ()) = some (okHist l, ()) := fun hs =>
   keys_in hx hlen (by omega) self _ rfl (fun ⟨a, ha, hk⟩ => by rw [hbad (fun k => k.2.2 a ha hk)]) (fun hk => ih _ ⟨hN.2 ⟨c1, hs, hk⟩, rfl, rfl⟩)
  by_cases c2 : (0 : Int) < (i : Int)
  ·obtain ⟨j, rfl⟩ : ∃ j, i = j + 1 := ⟨i - 1, by omega⟩
   obtain ⟨z, hz⟩ : ∃ z, l[j]? = some z := ⟨_, List.getElem?_eq_getElem (by omega)⟩
   have ej : IntKind.i64.wrap (((j + 1 : Nat) : Int) - 1) = (j : Int) := by rw [w64 (by omega) (by omega)]; omega
   have hb := below_last (s := e.1) P hz
   rw [if_pos c2, ej]
   simp only [Int.toNat_natCast, getD_get dEntry hz]
   rw [if_pos (by omega), if_pos (by omega), if_pos (by omega), if_pos (by omega)]
   by_cases c3 : e.1 ≤ z.1
   ·rw [if_pos c3, hbad (fun k => by have := hb.1 k.2.1; omega)]
   ·rw [if_neg c3]
    exact last (hb.2 (by omega))
  ·rw [if_neg c2]
   have : i = 0 := by omega
   subst this
   exact last (by simp)
theorem histAt_go {m : Nat} {l : List TEntry} (hl : l.length ≤ 1000) (hm : 4194304 ≤ m) (P : PreH l) (s : Int) {F : ((Int × Int × Unit) → Option (Int × Unit)) → (Int × Int × Unit) → Option (Int × Unit)} (hF : F = mi_histAt.l0 m l s) :
  loopR F m ((-1 : Int), (0 : Int), ()) = some (atH l s, ()) := by
 subst hF
 refine loopS l (fun _ i st r => r = (atH l s, ()) ∧ st = (atH (l.take i) s, (i : Int), ())) ?_ ?_ ⟨rfl, by simp [atH, cutH]⟩ (by omega)
 ·rintro st r self ⟨rfl, rfl⟩
  unfold mi_histAt.l0
  simp only [bif_dec]
  rw [if_neg (by omega), List.take_length]
 ·rintro e L i st r self _ hi hx ⟨rfl, rfl⟩ ih
  unfold mi_histAt.l0
  simp only [bif_dec, grd_dec, Int.toNat_natCast, getD_get dEntry hx]
  rw [if_pos (by omega), if_pos (by omega), if_pos (by omega), w_i (by omega)]
  have hn := atH_next hx P s
  split
  ·rename_i c
   rw [if_pos c] at hn
   exact ih _ ⟨rfl, by rw [hn]⟩
  ·rename_i c
   rw [if_neg c] at hn
   exact ih _ ⟨rfl, by rw [hn]⟩
theorem impl_histAt_ok {n : Nat} (hn : 4194304 + 1 ≤ n) {l : List TEntry} (hl : l.length ≤ 1000) (P : PreH l) (s : Int) : ci_histAt n l s = some (atH l s, ()) := by
 obtain ⟨m, rfl⟩ := sn hn
 rw [ei_histAt]; unfold mi_histAt
 exact histAt_go hl (by omega) P s rfl
theorem l5At_ok {n : Nat} (hn : 4194304 + 1 ≤ n) {l : List TEntry} (hl : l.length ≤ 1000) (P : PreH l) (s : Int) : cs_l5At n l s = some (atH l s, ()) := by
 obtain ⟨m, rfl⟩ := sn hn
 rw [es_l5At]; unfold ms_l5At
 exact histAt_go hl (by omega) P s rfl
noncomputable def histAtR (l : List TEntry) (s : Int) : Int := if okHist l = true then atH l s else -1
theorem impl_HistAt_ok {n : Nat} (hn : 4194304 + 32 ≤ n) {l : List TEntry} (B : BH l) (s : Int) : ci_HistAt n l s = some (histAtR l s, ()) := by
 obtain ⟨m, rfl⟩ := sn hn
 rw [ei_HistAt]; unfold mi_HistAt histAtR
 rw [impl_HistOk_ok (by omega) B]
 simp only [Option.bind_some]
 cases h : okHist l with
 | false => rfl
 | true => rw [impl_histAt_ok (by omega) B.len ((okHist_iff l).1 h).1]; rfl
theorem spec_HistAt_ok {n : Nat} (hn : 4194304 + 32 ≤ n) {l : List TEntry} (B : BH l) (s : Int) : cs_HistAt n l s = some (histAtR l s, ()) := by
 obtain ⟨m, rfl⟩ := sn hn
 rw [es_HistAt]; unfold ms_HistAt histAtR
 rw [spec_HistOk_ok (by omega) B]
 simp only [Option.bind_some]
 cases h : okHist l with
 | false => rfl
 | true => rw [l5At_ok (by omega) B.len ((okHist_iff l).1 h).1]; rfl
theorem impl_HistKey_ok {n : Nat} (hn : 4194304 + 32 ≤ n) {l : List TEntry} (B : BH l) (k : Int) : ci_HistKey n l k = some (if okHist l = true then idxV (l.findIdx? fun x => decide (x.2.2.2.1 = k)) else -1, ()) := by
 obtain ⟨m, rfl⟩ := sn hn
 rw [ei_HistKey]; unfold mi_HistKey
 rw [impl_HistOk_ok (by omega) B]
 simp only [Option.bind_some]
 cases h : okHist l with
 | false => rfl
 | true => rw [keyAt_ok (by omega) B.len]; rfl
theorem Entry_copyOf_ok {n : Nat} (hn : 4194304 + 3 ≤ n) {e : TEntry} (B : BU e.2.1) : ci_Entry_copyOf n e = some (e, ()) := by
 obtain ⟨m, rfl⟩ := sn hn
 rw [ei_Entry_copyOf]; unfold mi_Entry_copyOf
 rw [impl_copyOf_ok (by omega) (BU_path4 B)]; rfl
theorem l5Entry_ok {n : Nat} (hn : 4194304 + 2 ≤ n) {e : TEntry} (B : BU e.2.1) : cs_l5Entry n e = some (e, ()) := by
 obtain ⟨m, rfl⟩ := sn hn
 rw [es_l5Entry]; unfold ms_l5Entry
 rw [spec_l3Copy_ok (by omega) (BU_path4 B)]; rfl
theorem copyHist_ok {n : Nat} (hn : 4194304 + 4 ≤ n) {l : List TEntry} (B : BH l) : ci_copyHist n l = some (l, ()) := by
 obtain ⟨m, rfl⟩ := sn hn
 have hlen := B.len
 rw [ei_copyHist]; unfold mi_copyHist
 simp only [grd_dec]
 rw [if_pos (by omega), if_pos (by omega), if_pos (by omega)]
 refine loopS l (fun L i st r => r = (l, ()) ∧ st = ((i : Int), l.take i ++ List.replicate (l.length - i) dEntry, ())) ?_ ?_ ⟨rfl, by simp⟩ (by omega)
 ·rintro st r self ⟨rfl, rfl⟩
  unfold mi_copyHist.l0
  simp only [bif_dec]
  rw [if_neg (by omega)]
  simp
 ·rintro e L i st r self _ hi hx ⟨rfl, rfl⟩ ih
  unfold mi_copyHist.l0
  have hll : (l.take i ++ List.replicate (l.length - i) dEntry).length = l.length := by simp; omega
  simp only [bif_dec, grd_dec, Int.toNat_natCast, getD_get dEntry hx, hll]
  rw [if_pos (by omega), if_pos (by omega), if_pos (by omega), Entry_copyOf_ok (by omega) (B.get hx)]
  simp only [Option.bind_some]
  rw [if_pos (by omega), if_pos (by omega), if_pos (by omega), w_i (by omega)]
  refine ih _ ⟨rfl, ?_⟩
  rw [take_snoc hx, show l.length - i = (l.length - (i + 1)) + 1 by omega, List.replicate_succ, set_app _ _ _ _ i (by simp; omega)]
  simp
theorem l5Copy_ok {n : Nat} (hn : 4194304 + 3 ≤ n) {l : List TEntry} (B : BH l) : cs_l5Copy n l = some (l, ()) := by
 obtain ⟨m, rfl⟩ := sn hn
 have hlen := B.len
 rw [es_l5Copy]; unfold ms_l5Copy
 refine loopS l (fun L i st r => r = (l, ()) ∧ st = (l.take i, (i : Int), ())) ?_ ?_ ⟨rfl, by simp⟩ (by omega)
 ·rintro st r self ⟨rfl, rfl⟩
  unfold ms_l5Copy.l0
  simp only [bif_dec]
  rw [if_neg (by omega), List.take_length]
 ·rintro e L i st r self _ hi hx ⟨rfl, rfl⟩ ih
  unfold ms_l5Copy.l0
  simp only [bif_dec, grd_dec, Int.toNat_natCast, getD_get dEntry hx]
  rw [if_pos (by omega), if_pos (by omega), if_pos (by omega), l5Entry_ok (by omega) (B.get hx)]
  simp only [Option.bind_some]
  rw [if_pos (ap_le (by simp; omega)), w_i (by omega)]
  exact ih _ ⟨rfl, by rw [take_snoc hx]⟩
theorem guEntry_ok {n : Nat} (hn : 4194304 + 3 ≤ n) {a b : TEntry} (B : BU a.2.1) : ∃ v, cl_guEntry n a b = some (v, ()) ∧ (v = true ↔ a = b) := by
 obtain ⟨m, rfl⟩ := sn hn
 rw [el_guEntry]; unfold ml_guEntry
 rw [guUrl_ok (by omega) (BU_path4 B)]
 obtain ⟨a1, a2, a3, a4, a5, ⟨⟩⟩ := a
 obtain ⟨b1, b2, b3, b4, b5, ⟨⟩⟩ := b
 simp only [Option.bind_some, bif_dec, Prod.mk.injEq, and_true]
 by_cases h1 : a1 = b1
 case neg => exact ⟨false, by rw [if_neg h1], by simp [h1]⟩
 rw [if_pos h1]
 cases h2 : eqU a2 b2 with
 | false => exact ⟨false, rfl, by
   have : ¬ a2 = b2 := fun e => by rw [(eqU_iff a2 b2).2 e] at h2; cases h2
   simp [this]⟩
 | true =>
 have e2 := (eqU_iff a2 b2).1 h2
 simp only [cond_true]
 by_cases h3 : a3 = b3
 case neg => exact ⟨false, by rw [if_neg h3], by simp [h3]⟩
 rw [if_pos h3]
 by_cases h4 : a4 = b4
 case neg => exact ⟨false, by rw [if_neg h4], by simp [h4]⟩
 rw [if_pos h4]
 exact ⟨a5 == b5, rfl, by simp [h1, e2, h3, h4]⟩
theorem guEntry_same {n : Nat} (hn : 4194304 + 3 ≤ n) {a : TEntry} (B : BU a.2.1) : cl_guEntry n a a = some (true, ()) := by
 obtain ⟨v, h1, h2⟩ := guEntry_ok hn (a := a) (b := a) B
 rw [h1, h2.2 rfl]
theorem guHist_same {n : Nat} (hn : 4194304 + 4 ≤ n) {l : List TEntry} (B : BH l) : cl_guHist n l l = some (true, ()) := by
 obtain ⟨m, rfl⟩ := sn hn
 have hlen := B.len
 rw [el_guHist]; unfold ml_guHist
 rw [bif_ndec, if_pos rfl]
 refine loopS l (fun L i st r => r = (true, ()) ∧ st = ((i : Int), ())) ?_ ?_ ⟨rfl, rfl⟩ (by omega)
 ·rintro st r self ⟨rfl, rfl⟩
  unfold ml_guHist.l0
  simp only [bif_dec]
  rw [if_neg (by omega)]
 ·rintro e L i st r self _ hi hx ⟨rfl, rfl⟩ ih
  unfold ml_guHist.l0
  simp only [bif_dec, grd_dec, Int.toNat_natCast, getD_get dEntry hx]
  rw [if_pos (by omega), if_pos (by omega), if_pos (by omega), if_pos (by omega), if_pos (by omega), guEntry_same (by omega) (B.get hx)]
  simp only [Option.bind_some, Bool.not_true, cond_false]
  rw [w_i (by omega)]
  exact ih _ ⟨rfl, rfl⟩
end Go.VM.T
namespace Go.VM.T
open Go Go.VM
def SmE (e : TEntry) : Prop := Sm e.2.1 ∧ -10 ≤ e.1 ∧ e.1 ≤ 1000
structure SH (l : List TEntry) : Prop where
 len : l.length ≤ 30
 one : ∀ e ∈ l, SmE e
theorem SH.bh {l : List TEntry} (S : SH l) : BH l := ⟨by have := S.len; omega, fun e he => (S.one e he).1.bu⟩
theorem SH.get {l : List TEntry} (S : SH l) {i : Nat} (hi : i < l.length) : SmE (l.getD i dEntry) := S.one _ (getD_mem _ hi)
theorem SH.snoc {l : List TEntry} (S : SH l) {e : TEntry} (he : SmE e) (hl : l.length ≤ 29) : SH (l ++ [e]) := ⟨by simp; omega, fun x hx => by
 rcases List.mem_append.1 hx with hx | hx
 ·exact S.one x hx
 ·rw [List.mem_singleton.1 hx]; exact he⟩
theorem SH.set {l : List TEntry} (S : SH l) {e : TEntry} (he : SmE e) (j : Nat) : SH (l.set j e) := ⟨by have := S.len; simp; omega, fun x hx => by
 rcases List.mem_or_eq_of_mem_set hx with hx | rfl
 ·exact S.one x hx
 ·exact he⟩
theorem fill_go {n : Nat} (hn : 4194304 + 30 ≤ n) {b : List Int} (B : RdOk b) : ∀ (j : Nat) (m : Nat) (acc : List TEntry) (s p : Int), acc.length + j = 20 → j < m → SH acc → 0 ≤ s → s + j ≤ 100 → 0 ≤ p → p + 2 * j ≤ 500000 →
  Dr b p (2 * j) SH (loopR (ms_l11Hist.l0 n) m (acc, s, (b, p, ()), ()))
 | 0, m + 1, acc, s, p, hl, _, hS, _, _, h0, h1 => by
  show Dr _ _ _ _ (ms_l11Hist.l0 n (loopR (ms_l11Hist.l0 n) m) _)
  generalize hG : loopR (ms_l11Hist.l0 n) m = G
  unfold ms_l11Hist.l0
  simp only [bif_dec]
  rw [if_neg (by omega)]
  exact Dr.mk (by omega) (by omega) hS
 | j + 1, m + 1, acc, s, p, hl, hm, hS, s0, s1, h0, h1 => by
  show Dr _ _ _ _ (ms_l11Hist.l0 n (loopR (ms_l11Hist.l0 n) m) _)
  generalize hG : loopR (ms_l11Hist.l0 n) m = G
  unfold ms_l11Hist.l0
  simp only [bif_dec]
  rw [if_pos (by omega)]
  refine Dr.bind (near_dr (by omega) B h0 (by omega)) fun u q g1 g2 hu => ?_
  dsimp only
  rw [grd_dec, if_pos (ap_le (by simp only [List.length_singleton]; omega)), show IntKind.i64.wrap (s + 1) = s + 1 from w64 (by omega) (by omega)]
  obtain ⟨x, q2, e, g3, g4, g5⟩ := fill_go hn B j m (acc ++ [(s, u, 1, IntKind.i64.wrap (100 + (acc.length : Int)), [], ())]) (s + 1) q (by simp; omega) (by omega) (hS.snoc ⟨hu.sm, by simp only; omega, by simp only; omega⟩ (by omega)) (by omega) (by omega) (by omega) (by omega)
  exact ⟨x, q2, by rw [← hG]; exact e, by omega, by omega, g5⟩
 | 0, 0, _, _, _, _, h, _, _, _, _, _ => absurd h (Nat.not_lt_zero _)
 | _ + 1, 0, _, _, _, _, h, _, _, _, _, _ => absurd h (Nat.not_lt_zero _)
theorem hist_go {n : Nat} (hn : 4194304 + 30 ≤ n) {b : List Int} (B : RdOk b) : ∀ (k : Nat) (m : Nat) (acc : List TEntry) (s p : Int), acc.length + k ≤ 6 → k < m → SH acc → 0 ≤ s → s + 3 * k ≤ 50 → 0 ≤ p → p + 5 * k ≤ 400000 →
  Dr b p (5 * k + 50) SH (loopR (ms_l11Hist.l1 n) m (acc, s, (k : Int), (b, p, ()), ()))
 | 0, m + 1, acc, s, p, hl, _, hS, s0, s1, h0, h1 => by
  show Dr _ _ _ _ (ms_l11Hist.l1 n (loopR (ms_l11Hist.l1 n) m) _)
  generalize hG : loopR (ms_l11Hist.l1 n) m = G
  unfold ms_l11Hist.l1
  simp only [bif_dec]
  rw [if_neg (by omega)]
  refine Dr.bind (pick_dr (by omega) B h0 (by omega) (by omega)) fun x q g1 g2 g3 => ?_
  dsimp only
  split
  ·obtain ⟨y, q2, e, a1, a2, a3⟩ := fill_go hn B (20 - acc.length) n acc s q (by omega) (by omega) hS s0 (by omega) (by omega) (by omega)
   exact ⟨y, q2, e, by omega, by omega, a3⟩
  ·exact Dr.mk (by omega) (by omega) hS
 | k + 1, m + 1, acc, s, p, hl, hm, hS, s0, s1, h0, h1 => by
  show Dr _ _ _ _ (ms_l11Hist.l1 n (loopR (ms_l11Hist.l1 n) m) _)
  generalize hG : loopR (ms_l11Hist.l1 n) m = G
  unfold ms_l11Hist.l1
  simp only [bif_dec]
  rw [if_pos (by omega)]
  refine Dr.bind (near_dr (by omega) B h0 (by omega)) fun u q1 a1 b1 hu => ?_
  dsimp only
  refine Dr.bind (pick_dr (by omega) B (by omega) (by omega) (by omega)) fun x2 q2 a2 b2 c2 => ?_
  dsimp only
  refine Dr.bind (pick_dr (by omega) B (by omega) (by omega) (by omega)) fun x3 q3 a3 b3 c3 => ?_
  dsimp only
  refine Dr.bind (of_dr (P := fun s => s.length ≤ 5) (by omega) B (by omega) (by omega) (by simp) (by decide)) fun x4 q4 a4 b4 c4 => ?_
  dsimp only
  rw [grd_dec, if_pos (ap_le (by simp only [List.length_singleton]; omega))]
  refine Dr.bind (pick_dr (by omega) B (by omega) (by omega) (by omega)) fun x5 q5 a5 b5 c5 => ?_
  dsimp only
  rw [show IntKind.i64.wrap (IntKind.i64.wrap (s + 1) + x5) = s + 1 + x5 by rw [w64 (x := s + 1) (by omega) (by omega), w64 (by omega) (by omega)], show IntKind.i64.wrap (((k + 1 : Nat) : Int) - 1) = (k : Int) by rw [w64 (by omega) (by omega)]; omega]
  obtain ⟨x, q6, e, g3, g4, g5⟩ := hist_go hn B k m (acc ++ [(s, u, IntKind.i64.wrap (1 + x2), IntKind.i64.wrap (IntKind.i64.wrap (10 * (acc.length : Int)) + x3), x4, ())]) (s + 1 + x5) q5 (by simp; omega) (by omega) (hS.snoc ⟨hu.sm, by simp only; omega, by simp only; omega⟩ (by omega)) (by omega) (by omega) (by omega) (by omega)
  exact ⟨x, q6, by rw [← hG]; exact e, by omega, by omega, g5⟩
 | 0, 0, _, _, _, _, h, _, _, _, _, _ => absurd h (Nat.not_lt_zero _)
 | _ + 1, 0, _, _, _, _, h, _, _, _, _, _ => absurd h (Nat.not_lt_zero _)
theorem hist_dr {n : Nat} (hn : 4194304 + 31 ≤ n) {b : List Int} (B : RdOk b) {p : Int} (h0 : 0 ≤ p) (h1 : p ≤ 300000) : Dr b p 100 SH (cs_l11Hist n (b, p, ())) := by
 obtain ⟨m, rfl⟩ := sn hn
 rw [es_l11Hist]; unfold ms_l11Hist
 refine Dr.bind (pick_dr (c := 2) (by omega) B h0 (by omega) (by omega)) fun x q g1 g2 g3 => ?_
 dsimp only
 refine Dr.bind (pick_dr (c := 6) (by omega) B (by omega) (by omega) (by omega)) fun y q2 a1 a2 a3 => ?_
 dsimp only
 have := hist_go (n := m) (by omega) B y.toNat m [] x q2 (by simp; omega) (by omega) ⟨by simp, by simp⟩ (by omega) (by omega) (by omega) (by omega)
 rw [show ((y.toNat : Nat) : Int) = y by omega] at this
 obtain ⟨l, q3, e, b1, b2, b3⟩ := this
 exact ⟨l, q3, e, by omega, by omega, b3⟩
theorem many_go {n : Nat} : ∀ (k m : Nat) (a c : Bs) (v : Int), k < m → 0 ≤ v → v < ((2 ^ k : Nat) : Int) → k ≤ 10 → a.length * 2 ^ k ≤ 1000000 → c.length ≤ a.length → ∃ r, loopR (ms_l1Many.l0 n) m (a, v, c, ()) = some (r, ())
 | 0, m + 1, a, c, v, _, h0, h1, _, _, _ => by
  show ∃ r, ms_l1Many.l0 n (loopR (ms_l1Many.l0 n) m) _ = _
  unfold ms_l1Many.l0
  simp only [bif_dec]
  rw [if_neg (by simp at h1; omega)]
  exact ⟨_, rfl⟩
 | k + 1, m + 1, a, c, v, hm, h0, h1, hk, h2, h3 => by
  show ∃ r, ms_l1Many.l0 n (loopR (ms_l1Many.l0 n) m) _ = _
  generalize hG : loopR (ms_l1Many.l0 n) m = G
  unfold ms_l1Many.l0
  have hp : (2 : Nat) ^ (k + 1) = 2 ^ k * 2 := Nat.pow_succ ..
  have hpos : 1 ≤ 2 ^ k := Nat.one_le_two_pow
  have h11 : 2 ^ (k + 1) ≤ 2 ^ 11 := Nat.pow_le_pow_right (by omega) (by omega)
  have ha : a.length ≤ a.length * 2 ^ (k + 1) := Nat.le_mul_of_pos_right _ (by omega)
  have hd : v.tdiv 2 = v / 2 := Int.tdiv_eq_ediv_of_nonneg h0
  have hq : (a ++ a).length * 2 ^ k = a.length * 2 ^ (k + 1) := by rw [List.length_append, hp, ← Nat.two_mul, Nat.mul_comm 2, Nat.mul_assoc, Nat.mul_comm 2]
  rw [hp] at h1 h11
  have hv : v / 2 < ((2 ^ k : Nat) : Int) := by omega
  have hb : v < 2048 := by omega
  have ih : ∀ c' : Bs, c'.length ≤ a.length + a.length → ∃ r, G (a ++ a, v / 2, c', ()) = some (r, ()) := fun c' hc => by
   rw [← hG]
   exact many_go k m (a ++ a) c' (v / 2) (by omega) (by omega) hv (by omega) (by rw [hq]; exact h2) (by rw [List.length_append]; exact hc)
  simp only [bif_dec, grd_dec, grd_ndec, hd]
  by_cases hv0 : 0 < v
  ·rw [if_pos hv0]
   rw [show IntKind.i64.wrap (v / 2) = v / 2 from w64 (by omega) (by omega)]
   simp only [show ((2 : Int) = 0) = False by simp, if_false]
   split
   ·rw [if_pos (by omega), if_pos (by omega)]
    exact ih _ (by rw [List.length_append]; omega)
   ·rw [if_pos (by omega)]
    exact ih _ (by omega)
  ·rw [if_neg hv0]; exact ⟨_, rfl⟩
 | 0, 0, _, _, _, h, _, _, _, _, _ => absurd h (Nat.not_lt_zero _)
 | _ + 1, 0, _, _, _, h, _, _, _, _, _ => absurd h (Nat.not_lt_zero _)
theorem many_ok {n : Nat} (hn : 4194304 + 1 ≤ n) {v : Int} (h0 : 0 ≤ v) (h1 : v ≤ 1000) {a : Bs} (ha : a.length ≤ 10) : ∃ r, cs_l1Many n a v = some (r, ()) := by
 obtain ⟨m, rfl⟩ := sn hn
 rw [es_l1Many]; unfold ms_l1Many
 exact many_go 10 m a [] v (by omega) h0 (by omega) (Nat.le_refl _) (by omega) (by simp)
theorem anyhist_dr {n : Nat} (hn : 4194304 + 32 ≤ n) {b : List Int} (B : RdOk b) {p : Int} (h0 : 0 ≤ p) (h1 : p ≤ 100000) : Dr b p 2000 SH (cs_l11AnyHist n (b, p, ())) := by
 obtain ⟨m, rfl⟩ := sn hn
 rw [es_l11AnyHist]; unfold ms_l11AnyHist
 refine Dr.bind (hist_dr (by omega) B h0 (by omega)) fun l q g1 g2 hS => ?_
 simp only [bif_dec, grd_dec]
 split
 ·exact Dr.mk (by omega) (by omega) hS
 rename_i hl
 have hlen := hS.len
 refine Dr.bind (pick_dr (by omega) B (by omega) (by omega) (by omega)) fun x q2 a1 a2 a3 => ?_
 dsimp only
 refine Dr.bind (pick_dr (by omega) B (by omega) (by omega) (by omega)) fun y q3 b1 b2 b3 => ?_
 dsimp only
 have hx : x.toNat < l.length := by omega
 have hg := hS.get hx
 split
 ·refine Dr.bind (one_dr (P := fun v => -10 ≤ v ∧ v ≤ 1000) (by omega) B (by omega) (by omega) (by simp) (by decide)) fun v q4 c1 c2 c3 => ?_
  dsimp only
  simp only [a3.1, a3.2, hx, if_true]
  refine Dr.mk (by omega) (by omega) (hS.set ?_ _)
  exact ⟨hg.1, c3.1, c3.2⟩
 split
 ·refine Dr.bind (anyurl_dr (by omega) B (by omega) (by omega)) fun u q4 c1 c2 hu => ?_
  dsimp only
  simp only [a3.1, a3.2, hx, if_true]
  refine Dr.mk (by omega) (by omega) (hS.set ?_ _)
  exact ⟨hu.sm, hg.2⟩
 split
 ·rw [if_pos (by omega), if_pos (by omega)]
  simp only [a3.1, a3.2, hx, if_true]
  refine Dr.mk (by omega) (by omega) (hS.set ?_ _)
  exact ⟨hg.1, hg.2⟩
 split
 ·refine Dr.bind (pick_dr (by omega) B (by omega) (by omega) (by omega)) fun v q4 c1 c2 c3 => ?_
  dsimp only
  obtain ⟨r, hr⟩ := many_ok (n := m) (v := IntKind.i64.wrap (20 + v)) (a := [115]) (by omega) (by rw [w64 (by omega) (by omega)]; omega) (by rw [w64 (by omega) (by omega)]; omega) (by simp)
  rw [hr]
  simp only [Option.bind_some]
  simp only [a3.1, a3.2, hx, if_true]
  refine Dr.mk (by omega) (by omega) (hS.set ?_ _)
  exact ⟨hg.1, hg.2⟩
 ·exact Dr.mk (by omega) (by omega) hS
theorem DrawHistAt_ok {n : Nat} (hn : 4194304 + 34 ≤ n) {code : List Int} (C : Code code) : ∃ l s, cs_DrawHistAt n code = some (l, s, ()) ∧ SH l ∧ -1 ≤ s ∧ s ≤ 100 := by
 obtain ⟨m, rfl⟩ := sn hn
 rw [es_DrawHistAt]; unfold ms_DrawHistAt
 obtain ⟨b, B, e⟩ := open_ok (n := m) (by omega) C.len C.byte
 obtain ⟨l, q, e2, a1, a2, hS⟩ := anyhist_dr (n := m) (p := 0) (by omega) B (by omega) (by omega)
 obtain ⟨x, q2, e3, b1, b2, b3⟩ := pick_dr (n := m) (p := q) (c := 12) (by omega) B (by omega) (by omega) (by omega)
 simp only [e, e2, e3, Option.bind_some]
 exact ⟨_, _, rfl, hS, by rw [w64 (by omega) (by omega)]; omega, by rw [w64 (by omega) (by omega)]; omega⟩
theorem DrawHistCut_ok {n : Nat} (hn : 4194304 + 35 ≤ n) {code : List Int} (C : Code code) : ∃ l s, cs_DrawHistCut n code = some (l, s, ()) ∧ SH l ∧ -1 ≤ s ∧ s ≤ 100 := by
 obtain ⟨m, rfl⟩ := sn hn
 rw [es_DrawHistCut]; unfold ms_DrawHistCut
 obtain ⟨l, s, e, h⟩ := DrawHistAt_ok (n := m) (by omega) C
 rw [e]
 exact ⟨l, s, rfl, h⟩
theorem DrawHistNear_ok {n : Nat} (hn : 4194304 + 35 ≤ n) {code : List Int} (C : Code code) : ∃ l s, cs_DrawHistNear n code = some (l, s, ()) ∧ SH l ∧ -1 ≤ s ∧ s ≤ 100 := by
 obtain ⟨m, rfl⟩ := sn hn
 rw [es_DrawHistNear]; unfold ms_DrawHistNear
 obtain ⟨l, s, e, h⟩ := DrawHistAt_ok (n := m) (by omega) C
 rw [e]
 exact ⟨l, s, rfl, h⟩
end Go.VM.T
namespace Go.VM.T
open Go Go.VM
noncomputable def cutR (l : List TEntry) (s : Int) : List TEntry := if okHist l = true then cutH l s else []
theorem cutR_bh {l : List TEntry} (B : BH l) (s : Int) : BH (cutR l s) := by
 unfold cutR
 split
 ·rw [← take_atH]; exact B.take _
 ·exact ⟨by simp, by simp⟩
theorem impl_HistCut_ok {n : Nat} (hn : 4194304 + 33 ≤ n) {l : List TEntry} (B : BH l) (s : Int) : ci_HistCut n l s = some (cutR l s, ()) := by
 obtain ⟨m, rfl⟩ := sn hn
 rw [ei_HistCut]; unfold mi_HistCut cutR
 rw [impl_HistOk_ok (by omega) B]
 simp only [Option.bind_some]
 cases h : okHist l with
 | false => rfl
 | true =>
  have hr := atH_range l s
  have hl := B.len
  rw [impl_histAt_ok (by omega) B.len ((okHist_iff l).1 h).1]
  simp only [Option.bind_some, Bool.not_true, cond_false, grd_dec]
  rw [w64 (by omega) (by omega), if_pos (by omega), if_pos (by omega), List.drop_zero, copyHist_ok (by omega) (B.take _), take_atH]; rfl
theorem spec_HistCut_ok {n : Nat} (hn : 4194304 + 33 ≤ n) {l : List TEntry} (B : BH l) (s : Int) : cs_HistCut n l s = some (cutR l s, ()) := by
 obtain ⟨m, rfl⟩ := sn hn
 rw [es_HistCut]; unfold ms_HistCut cutR
 rw [spec_HistOk_ok (by omega) B]
 simp only [Option.bind_some]
 cases h : okHist l with
 | false => rfl
 | true =>
  have hr := atH_range l s
  have hl := B.len
  rw [l5At_ok (by omega) B.len ((okHist_iff l).1 h).1]
  simp only [Option.bind_some, Bool.not_true, cond_false, grd_dec]
  rw [w64 (by omega) (by omega), if_pos (by omega), if_pos (by omega), List.drop_zero, l5Copy_ok (by omega) (B.take _), take_atH]; rfl
noncomputable def putF (l : List TEntry) (e : TEntry) : List TEntry × Bool := if okHist l = true then putR l e else ([], false)
theorem clone_Entry_ok {n : Nat} (hn : 4194304 + 2 ≤ n) {l : List TEntry} (h0 : 0 < l.length) (hl : l.length ≤ 1000000) : ci_clone_Entry n l = some (l, ()) := by
 obtain ⟨m, rfl⟩ := sn hn
 obtain ⟨j, rfl⟩ : ∃ j, m = j + 1 := ⟨m - 1, by omega⟩
 rw [ei_clone_Entry]; unfold mi_clone_Entry
 rw [eq_slices_Clone_Entry]; unfold m_slices_Clone_Entry
 simp only [grd_dec]
 rw [if_pos h0, if_pos (ap_le (by simp; omega))]
 simp only [Option.bind_some, List.nil_append]
 rw [eq_slices_Clip_Entry]; unfold m_slices_Clip_Entry
 simp only [grd_dec, if_true, Option.bind_some]
theorem put_end {l x : List TEntry} {e : TEntry} (h : okHist l = true) (hp : putO l e = some x) : (if okHist x = true then ((x, true) : List TEntry × Bool) else (l, false)) = putF l e := by
 unfold putF putR
 rw [if_pos h, hp]
theorem put_none {l : List TEntry} {e : TEntry} (h : okHist l = true) (hp : putO l e = none) : ((l, false) : List TEntry × Bool) = putF l e := by
 unfold putF putR
 rw [if_pos h, hp]
theorem impl_HistPut_ok {n : Nat} (hn : 4194304 + 34 ≤ n) {l : List TEntry} (B : BH l) (hl9 : l.length ≤ 999) {e : TEntry} (E : BU e.2.1) : ci_HistPut n l e = some ((putF l e).1, (putF l e).2, ()) := by
 obtain ⟨m, rfl⟩ := sn hn
 rw [ei_HistPut]; unfold mi_HistPut
 rw [impl_HistOk_ok (by omega) B]
 simp only [Option.bind_some]
 cases h : okHist l with
 | false => unfold putF; rw [if_neg (by simp [h])]; rfl
 | true =>
 have P := ((okHist_iff l).1 h).1
 have hlen := B.len
 simp only [Bool.not_true, cond_false, copyHist_ok (n := m) (by omega) B, Option.bind_some, grd_dec]
 rw [if_pos (by omega), idxM_all (f := fun x => decide (x.1 = e.1)) (fun z _ => by
  obtain ⟨j, rfl⟩ : ∃ j, m = j + 1 := ⟨m - 1, by omega⟩
  rw [ei_HistPut_1]; rfl)]
 simp only [Option.bind_some, bif_dec, Entry_copyOf_ok (n := m) (by omega) E]
 have app : ci_clone_Entry m (l ++ [e]) = some (l ++ [e], ()) := clone_Entry_ok (by omega) (by simp) (by simp; omega)
 have okA := impl_HistOk_ok (n := m) (by omega) (B.snoc E hl9)
 cases hf : l.findIdx? (fun x => decide (x.1 = e.1)) with
 | some j =>
  have hp : putO l e = some (l.set j e) := by unfold putO; rw [hf]
  obtain ⟨z, hz, _⟩ := find_some hf
  have hj := (List.getElem?_eq_some_iff.1 hz).1
  have h0j : (0 : Int) ≤ (j : Int) := by omega
  have hjl : (j : Int) < (l.length : Int) := by omega
  simp only [idxV, Int.toNat_natCast, h0j, hjl, hj, if_true]
  rw [impl_HistOk_ok (by omega) (B.set E j)]
  rw [← put_end h hp]
  simp only [Option.bind_some]
  cases okHist (l.set j e) <;> rfl
 | none =>
  have hneg : ((0 : Int) ≤ -1) = False := by simp
  simp only [idxV, hneg, if_false]
  have hp : putO l e = if (l.all fun a => decide (a.1 < e.1)) = true then some (l ++ [e]) else none := by unfold putO; rw [hf]
  by_cases h0 : (l.length : Int) = 0
  ·rw [if_pos h0, if_pos (ap_le (by simp; omega)), app]
   obtain rfl : l = [] := List.eq_nil_of_length_eq_zero (by omega)
   rw [if_pos (by simp)] at hp
   simp only [Option.bind_some, okA]
   rw [← put_end h hp]
   cases okHist ([] ++ [e]) <;> rfl
  ·rw [if_neg h0]
   obtain ⟨j, hj⟩ : ∃ j, l.length = j + 1 := ⟨l.length - 1, by omega⟩
   obtain ⟨z, hz⟩ : ∃ z, l[j]? = some z := ⟨_, List.getElem?_eq_getElem (by omega)⟩
   have ew : IntKind.i64.wrap ((l.length : Int) - 1) = (j : Int) := by rw [w64 (by omega) (by omega)]; omega
   have hb := below_last (s := e.1) (i := j) (by rw [← hj, List.take_length]; exact P) hz
   rw [← hj, List.take_length] at hb
   simp only [ew, Int.toNat_natCast, getD_get dEntry hz]
   rw [if_pos (by omega), if_pos (by omega)]
   by_cases hz1 : z.1 < e.1
   ·rw [if_pos hz1, if_pos (ap_le (by simp; omega)), app]
    rw [if_pos (by rw [List.all_eq_true]; intro a ha; exact decide_eq_true (hb.2 hz1 a ha))] at hp
    simp only [Option.bind_some, okA]
    rw [← put_end h hp]
    cases okHist (l ++ [e]) <;> rfl
   ·rw [if_neg hz1]
    rw [if_neg (fun k => hz1 (hb.1 (fun a ha => by have := List.all_eq_true.1 k a ha; exact of_decide_eq_true this)))] at hp
    rw [← put_none h hp]
theorem spec_HistPut_ok {n : Nat} (hn : 4194304 + 34 ≤ n) {l : List TEntry} (B : BH l) (hl9 : l.length ≤ 999) {e : TEntry} (E : BU e.2.1) : cs_HistPut n l e = some ((putF l e).1, (putF l e).2, ()) := by
 obtain ⟨m, rfl⟩ := sn hn
 rw [es_HistPut]; unfold ms_HistPut
 rw [spec_HistOk_ok (by omega) B]
 simp only [Option.bind_some]
 cases h : okHist l with
 | false => unfold putF; rw [if_neg (by simp [h])]; rfl
 | true =>
 have P := ((okHist_iff l).1 h).1
 have hlen := B.len
 have hr := atH_range l e.1
 have okA := spec_HistOk_ok (n := m) (by omega) (B.snoc E hl9)
 simp only [Bool.not_true, cond_false, l5At_ok (n := m) (by omega) hlen P, l5Copy_ok (n := m) (by omega) B, Option.bind_some, bif_dec, grd_dec, l5Entry_ok (n := m) (by omega) E, okA]
 have hp := putO_at P e
 rw [show IntKind.i64.wrap ((l.length : Int) - 1) = (l.length : Int) - 1 from w64 (by omega) (by omega)]
 generalize atH l e.1 = k at *
 have hap : [e].length = 1 := rfl
 rw [hap, if_pos (ap_le (by omega))]
 by_cases h0 : 0 ≤ k
 ·obtain ⟨z, hz⟩ : ∃ z, l[k.toNat]? = some z := ⟨_, List.getElem?_eq_getElem (by omega)⟩
  rw [if_pos h0, if_pos h0, if_pos hr.2, getD_get dEntry hz]
  by_cases h1 : z.1 = e.1
  ·rw [if_pos h1, if_pos h0, if_pos hr.2, if_pos (by omega), spec_HistOk_ok (by omega) (B.set E _)]
   rw [if_pos ⟨h0, z, hz, h1⟩] at hp
   rw [← put_end h hp]
   simp only [Option.bind_some]
   cases okHist (l.set k.toNat e) <;> rfl
  ·rw [if_neg h1]
   rw [if_neg (by rintro ⟨_, z', h2, h3⟩; rw [hz] at h2; cases h2; exact h1 h3)] at hp
   by_cases h2 : k = (l.length : Int) - 1
   ·rw [if_pos h2] at hp ⊢
    rw [← put_end h hp]
    cases okHist (l ++ [e]) <;> rfl
   ·rw [if_neg h2] at hp ⊢
    rw [← put_none h hp]
 ·rw [if_neg h0]
  rw [if_neg (fun k => h0 k.1)] at hp
  by_cases h2 : k = (l.length : Int) - 1
  ·rw [if_pos h2] at hp ⊢
   rw [← put_end h hp]
   cases okHist (l ++ [e]) <;> rfl
  ·rw [if_neg h2] at hp ⊢
   rw [← put_none h hp]
def orS (a b : TUrl) : Bool := decide (0 ≤ portS a.1) && (decide (0 ≤ portS b.1) && sameO (origM a) (origM b))
theorem orS_comm (a b : TUrl) : orS a b = orS b a := by
 unfold orS sameO
 rw [Bool.eq_iff_iff]
 simp only [Bool.and_eq_true, decide_eq_true_eq, Bool.and_true]
 constructor <;> (rintro ⟨h1, h2, h3, ⟨h4, h5, h6⟩, h7⟩; exact ⟨h2, h1, h3.symm, ⟨h4.symm, h5.symm, h6.symm⟩, h7.symm⟩)
theorem portS_ne {s : Bs} (h : 0 ≤ portS s) : s ≠ [] := fun e => by subst e; revert h; decide
theorem impl_Same_ok {n : Nat} (hn : 4194304 + 33 ≤ n) {a b : TUrl} (ha : BU a) (hb : BU b) (oa : okU a = true) (ob : okU b = true) : ci_OriginSame n a b = some (orS a b, ()) := by
 have ka := okU_kind oa
 have kb := okU_kind ob
 by_cases h1 : a.2.2.2.1.1 = 0
 ·obtain ⟨m, rfl⟩ := sn hn
  rw [ei_OriginSame]; unfold mi_OriginSame
  rw [hosted_ok (by omega) ha hb]
  have : orS a b = false := by unfold orS; rw [decide_eq_false (by have := ka.1 h1; omega)]; rfl
  rw [this]
  simp [h1]
 ·by_cases h2 : b.2.2.2.1.1 = 0
  ·obtain ⟨m, rfl⟩ := sn hn
   rw [ei_OriginSame]; unfold mi_OriginSame
   rw [hosted_ok (by omega) ha hb]
   have h3 : 0 ≤ portS a.1 := by have : ¬ portS a.1 < 0 := fun k => h1 (ka.2 k); omega
   have : orS a b = false := by unfold orS; rw [decide_eq_false (p := 0 ≤ portS b.1) (by have := kb.1 h2; omega)]; simp
   rw [this, impl_OriginOf_ok (by omega) ha oa h1]
   obtain ⟨j, rfl⟩ : ∃ j, m = j + 1 := ⟨m - 1, by omega⟩
   rw [ei_OriginOf]; unfold mi_OriginOf
   rw [impl_UrlOk_ok (by omega) hb]
   have hne := portS_ne h3
   simp [h1, h2, oa, ob, origM, hne]
  ·have h3 : 0 ≤ portS a.1 := by have : ¬ portS a.1 < 0 := fun k => h1 (ka.2 k); omega
   have h4 : 0 ≤ portS b.1 := by have : ¬ portS b.1 < 0 := fun k => h2 (kb.2 k); omega
   rw [OriginSame_ok hn ha hb oa ob h1 h2]
   unfold orS
   simp [h3, h4]
theorem spec_Same_ok {n : Nat} (hn : 4194304 + 3 ≤ n) (a b : TUrl) : cs_l4Same n a b = some (orS a b, ()) := by
 by_cases h1 : portS a.1 < 0
 ·obtain ⟨m, rfl⟩ := sn hn
  rw [es_l4Same]; unfold ms_l4Same
  rw [spec_l3Own_ok (by omega)]
  have : orS a b = false := by unfold orS; rw [decide_eq_false (by omega)]; rfl
  rw [this]
  simp only [Option.bind_some, bif_dec]
  rw [if_neg (by omega)]
 ·by_cases h2 : portS b.1 < 0
  ·obtain ⟨m, rfl⟩ := sn hn
   rw [es_l4Same]; unfold ms_l4Same
   rw [spec_l3Own_ok (by omega)]
   have : orS a b = false := by unfold orS; rw [decide_eq_false (p := 0 ≤ portS b.1) (by omega)]; simp
   have hne := portS_ne (show 0 ≤ portS a.1 by omega)
   rw [this, l4Origin_ok (by omega) h1]
   obtain ⟨j, rfl⟩ : ∃ j, m = j + 1 := ⟨m - 1, by omega⟩
   rw [es_l4Origin]; unfold ms_l4Origin
   rw [spec_l3Own_ok (by omega)]
   simp only [Option.bind_some, bif_dec]
   rw [if_pos (by omega), if_pos h2]
   simp [origM, hne]
  ·rw [l4Same_ok hn h1 h2]
   unfold orS
   simp [show 0 ≤ portS a.1 by omega, show 0 ≤ portS b.1 by omega]
def qOf (z : TEntry) (e : TEntry) : Bool := orS z.2.1 e.2.1
section
variable {m k fr : Nat} {l : List TEntry} {z : TEntry}
theorem impl_up (hm : 4194304 + 33 ≤ m) (B : BH l) (ok : ∀ e ∈ l, okU e.2.1 = true) (hz : l[k]? = some z) (hf : fr ≤ k) {F : ((Int × Unit) → Option ((List TEntry) × Int × Unit)) → (Int × Unit) → Option ((List TEntry) × Int × Unit)}
  (hF : F = mi_near.l0 m l ((k : Int), ()) ((fr : Int), ())) : loopR F m ((k : Int), ()) = some ((l.take (toN (qOf z) l k + 1)).drop fr, (k : Int) - (fr : Int), ()) := by
 subst hF
 have hlen := B.len
 have hk := (List.getElem?_eq_some_iff.1 hz).1
 refine loopR_ind (fun st => l.length - st.1.toNat) (fun (st : Int × Unit) (r : (List TEntry) × Int × Unit) => ∃ i : Nat, st = ((i : Int), ()) ∧ k ≤ i ∧ i < l.length ∧ toN (qOf z) l i = toN (qOf z) l k ∧ r = ((l.take (toN (qOf z) l k + 1)).drop fr, (k : Int) - (fr : Int), ())) ?_ m _ _
  ⟨k, rfl, Nat.le_refl _, hk, rfl, rfl⟩ (by simp; omega)
 rintro _ _ self ⟨i, rfl, h1, h2, h3, rfl⟩ ih
 unfold mi_near.l0
 simp only [bif_dec, grd_dec, w_i (show i ≤ 4000000 by omega), Int.toNat_natCast, getD_get dEntry hz]
 have fin : toN (qOf z) l i = i → (ci_copyHist m ((l.take (i + 1)).drop fr)).bind (fun y8 => some (y8.1, IntKind.i64.wrap ((k : Int) - (fr : Int)), ())) = some ((l.take (toN (qOf z) l k + 1)).drop fr, (k : Int) - (fr : Int), ()) := fun e => by
  rw [copyHist_ok (by omega) ((B.take _).drop _), ← h3, e, w64 (by omega) (by omega)]; rfl
 by_cases h4 : (((i + 1 : Nat) : Int)) < (l.length : Int)
 ·obtain ⟨a, ha⟩ : ∃ a, l[i + 1]? = some a := ⟨_, List.getElem?_eq_getElem (by omega)⟩
  have hs := to_step (q := qOf z) ha
  rw [if_pos h4, if_pos (by omega), if_pos (by omega), if_pos (by omega), getD_get dEntry ha, impl_Same_ok (by omega) (B.get hz) (B.get ha) (ok _ (List.mem_of_getElem? hz)) (ok _ (List.mem_of_getElem? ha))]
  simp only [Option.bind_some]
  change (if _ then (bif qOf z a then _ else _) else none) = _
  rw [if_pos (by omega)]
  cases hq : qOf z a with
  | true =>
   rw [hq, if_pos rfl] at hs
   exact ih _ (by simp; omega) ⟨i + 1, rfl, by omega, by omega, by rw [← h3, hs], rfl⟩
  | false =>
   rw [hq] at hs
   simp only [Bool.false_eq_true, if_false] at hs
   simp only [cond_false]
   rw [if_pos (by omega), if_pos (by omega), if_pos (by omega), if_pos (by omega)]
   exact fin hs
 ·rw [if_neg h4, if_pos (by omega), if_pos (by omega), if_pos (by omega), if_pos (by omega)]
  exact fin (to_end (by omega))
theorem impl_down (hm : 4194304 + 33 ≤ m) (B : BH l) (ok : ∀ e ∈ l, okU e.2.1 = true) (hz : l[k]? = some z) {F : ((Int × Unit) → Option ((List TEntry) × Int × Unit)) → (Int × Unit) → Option ((List TEntry) × Int × Unit)}
  (hF : F = mi_near.l2 m ((k : Int), ()) l) : loopR F m ((k : Int), ()) = some (nearN (qOf z) l k, (k : Int) - (fromN (qOf z) l k : Int), ()) := by
 subst hF
 have hlen := B.len
 have hk := (List.getElem?_eq_some_iff.1 hz).1
 refine loopR_ind (fun st => st.1.toNat) (fun (st : Int × Unit) (r : (List TEntry) × Int × Unit) => ∃ i : Nat, st = ((i : Int), ()) ∧ i ≤ k ∧ fromN (qOf z) l i = fromN (qOf z) l k ∧ r = (nearN (qOf z) l k, (k : Int) - (fromN (qOf z) l k : Int), ())) ?_ m _ _
  ⟨k, rfl, Nat.le_refl _, rfl, rfl⟩ (by simp; omega)
 rintro _ _ self ⟨i, rfl, h1, h3, rfl⟩ ih
 unfold mi_near.l2
 have fin : fromN (qOf z) l i = i → loopR (mi_near.l0 m l ((k : Int), ()) ((i : Int), ())) m ((k : Int), ()) = some (nearN (qOf z) l k, (k : Int) - (fromN (qOf z) l k : Int), ()) := fun e => by
  rw [impl_up hm B ok hz h1 rfl, ← h3, e]
  unfold nearN
  rw [← h3, e]
 by_cases h4 : (0 : Int) < (i : Int)
 ·obtain ⟨j, rfl⟩ : ∃ j, i = j + 1 := ⟨i - 1, by omega⟩
  obtain ⟨a, ha⟩ : ∃ a, l[j]? = some a := ⟨_, List.getElem?_eq_getElem (by omega)⟩
  have hs := from_step (q := qOf z) ha
  have ew : IntKind.i64.wrap (((j + 1 : Nat) : Int) - 1) = (j : Int) := by rw [w64 (by omega) (by omega)]; omega
  simp only [bif_dec, grd_dec, ew, Int.toNat_natCast, getD_get dEntry hz, getD_get dEntry ha]
  rw [if_pos h4, if_pos (by omega), if_pos (by omega), if_pos (by omega), if_pos (by omega), impl_Same_ok (by omega) (B.get hz) (B.get ha) (ok _ (List.mem_of_getElem? hz)) (ok _ (List.mem_of_getElem? ha))]
  simp only [Option.bind_some]
  change (bif qOf z a then _ else _) = _
  cases hq : qOf z a with
  | true =>
   rw [hq, if_pos rfl] at hs
   exact ih _ (by simp) ⟨j, rfl, by omega, by rw [← h3, hs], rfl⟩
  | false =>
   rw [hq] at hs
   simp only [Bool.false_eq_true, if_false] at hs
   exact fin hs
 ·simp only [bif_dec]
  rw [if_neg h4]
  have : i = 0 := by omega
  subst this
  exact fin from_zero
theorem spec_up (hm : 4194304 + 33 ≤ m) (B : BH l) (hz : l[k]? = some z) (hf : fr ≤ k) {F : ((Int × Unit) → Option ((List TEntry) × Int × Unit)) → (Int × Unit) → Option ((List TEntry) × Int × Unit)}
  (hF : F = ms_HistNear.l0 m l ((k : Int), ()) ((fr : Int), ())) : loopR F m ((k : Int), ()) = some ((l.take (toN (qOf z) l k + 1)).drop fr, (k : Int) - (fr : Int), ()) := by
 subst hF
 have hlen := B.len
 have hk := (List.getElem?_eq_some_iff.1 hz).1
 refine loopR_ind (fun st => l.length - st.1.toNat) (fun (st : Int × Unit) (r : (List TEntry) × Int × Unit) => ∃ i : Nat, st = ((i : Int), ()) ∧ k ≤ i ∧ i < l.length ∧ toN (qOf z) l i = toN (qOf z) l k ∧ r = ((l.take (toN (qOf z) l k + 1)).drop fr, (k : Int) - (fr : Int), ())) ?_ m _ _
  ⟨k, rfl, Nat.le_refl _, hk, rfl, rfl⟩ (by simp; omega)
 rintro _ _ self ⟨i, rfl, h1, h2, h3, rfl⟩ ih
 unfold ms_HistNear.l0
 have el : IntKind.i64.wrap ((l.length : Int) - 1) = (l.length : Int) - 1 := w64 (by omega) (by omega)
 simp only [bif_dec, grd_dec, w_i (show i ≤ 4000000 by omega), el, Int.toNat_natCast, getD_get dEntry hz]
 have fin : toN (qOf z) l i = i → (cs_l5Copy m ((l.take (i + 1)).drop fr)).bind (fun y8 => some (y8.1, IntKind.i64.wrap ((k : Int) - (fr : Int)), ())) = some ((l.take (toN (qOf z) l k + 1)).drop fr, (k : Int) - (fr : Int), ()) := fun e => by
  rw [l5Copy_ok (by omega) ((B.take _).drop _), ← h3, e, w64 (by omega) (by omega)]; rfl
 by_cases h4 : (i : Int) < (l.length : Int) - 1
 ·obtain ⟨a, ha⟩ : ∃ a, l[i + 1]? = some a := ⟨_, List.getElem?_eq_getElem (by omega)⟩
  have hs := to_step (q := qOf z) ha
  rw [if_pos h4, if_pos (by omega), if_pos (by omega), if_pos (by omega), if_pos (by omega), getD_get dEntry ha, spec_Same_ok (by omega), orS_comm]
  simp only [Option.bind_some]
  change (bif qOf z a then _ else _) = _
  cases hq : qOf z a with
  | true =>
   rw [hq, if_pos rfl] at hs
   exact ih _ (by simp; omega) ⟨i + 1, rfl, by omega, by omega, by rw [← h3, hs], rfl⟩
  | false =>
   rw [hq] at hs
   simp only [Bool.false_eq_true, if_false] at hs
   simp only [cond_false]
   rw [if_pos (by omega), if_pos (by omega), if_pos (by omega), if_pos (by omega)]
   exact fin hs
 ·rw [if_neg h4, if_pos (by omega), if_pos (by omega), if_pos (by omega), if_pos (by omega)]
  exact fin (to_end (by omega))
theorem spec_down (hm : 4194304 + 33 ≤ m) (B : BH l) (hz : l[k]? = some z) {F : ((Int × Unit) → Option ((List TEntry) × Int × Unit)) → (Int × Unit) → Option ((List TEntry) × Int × Unit)}
  (hF : F = ms_HistNear.l2 m l ((k : Int), ())) : loopR F m ((k : Int), ()) = some (nearN (qOf z) l k, (k : Int) - (fromN (qOf z) l k : Int), ()) := by
 subst hF
 have hlen := B.len
 have hk := (List.getElem?_eq_some_iff.1 hz).1
 refine loopR_ind (fun st => st.1.toNat) (fun (st : Int × Unit) (r : (List TEntry) × Int × Unit) => ∃ i : Nat, st = ((i : Int), ()) ∧ i ≤ k ∧ fromN (qOf z) l i = fromN (qOf z) l k ∧ r = (nearN (qOf z) l k, (k : Int) - (fromN (qOf z) l k : Int), ())) ?_ m _ _
  ⟨k, rfl, Nat.le_refl _, rfl, rfl⟩ (by simp; omega)
 rintro _ _ self ⟨i, rfl, h1, h3, rfl⟩ ih
 unfold ms_HistNear.l2
 have fin : fromN (qOf z) l i = i → loopR (ms_HistNear.l0 m l ((k : Int), ()) ((i : Int), ())) m ((k : Int), ()) = some (nearN (qOf z) l k, (k : Int) - (fromN (qOf z) l k : Int), ()) := fun e => by
  rw [spec_up hm B hz h1 rfl, ← h3, e]
  unfold nearN
  rw [← h3, e]
 by_cases h4 : (0 : Int) < (i : Int)
 ·obtain ⟨j, rfl⟩ : ∃ j, i = j + 1 := ⟨i - 1, by omega⟩
  obtain ⟨a, ha⟩ : ∃ a, l[j]? = some a := ⟨_, List.getElem?_eq_getElem (by omega)⟩
  have hs := from_step (q := qOf z) ha
  have ew : IntKind.i64.wrap (((j + 1 : Nat) : Int) - 1) = (j : Int) := by rw [w64 (by omega) (by omega)]; omega
  simp only [bif_dec, grd_dec, ew, Int.toNat_natCast, getD_get dEntry hz, getD_get dEntry ha]
  rw [if_pos h4, if_pos (by omega), if_pos (by omega), if_pos (by omega), if_pos (by omega), spec_Same_ok (by omega), orS_comm]
  simp only [Option.bind_some]
  change (bif qOf z a then _ else _) = _
  cases hq : qOf z a with
  | true =>
   rw [hq, if_pos rfl] at hs
   exact ih _ (by simp) ⟨j, rfl, by omega, by rw [← h3, hs], rfl⟩
  | false =>
   rw [hq] at hs
   simp only [Bool.false_eq_true, if_false] at hs
   exact fin hs
 ·simp only [bif_dec]
  rw [if_neg h4]
  have : i = 0 := by omega
  subst this
  exact fin from_zero
end
noncomputable def nearR (l : List TEntry) (s : Int) : List TEntry × Int :=
 if okHist l = true ∧ 0 ≤ atH l s then (nearN (qOf (l.getD (atH l s).toNat dEntry)) l (atH l s).toNat, atH l s - (fromN (qOf (l.getD (atH l s).toNat dEntry)) l (atH l s).toNat : Int)) else ([], -1)
theorem near_bh {l : List TEntry} (B : BH l) (s : Int) : BH (nearR l s).1 := by
 unfold nearR
 split
 ·exact (B.take _).drop _
 ·exact ⟨by simp, by simp⟩
theorem hist_urls {l : List TEntry} (h : okHist l = true) : ∀ e ∈ l, okU e.2.1 = true := fun e he => ((oneE_iff e).1 (((okHist_iff l).1 h).1.one e he)).2.1
theorem impl_HistNear_ok {n : Nat} (hn : 4194304 + 36 ≤ n) {l : List TEntry} (B : BH l) (s : Int) : ci_HistNear n l s = some ((nearR l s).1, (nearR l s).2, ()) := by
 obtain ⟨m, rfl⟩ := sn hn
 rw [ei_HistNear]; unfold mi_HistNear nearR
 rw [impl_HistOk_ok (by omega) B]
 simp only [Option.bind_some]
 cases h : okHist l with
 | false => simp
 | true =>
  obtain ⟨j, rfl⟩ : ∃ j, m = j + 1 := ⟨m - 1, by omega⟩
  simp only [Bool.not_true, cond_false]
  rw [ei_near]; unfold mi_near
  rw [impl_histAt_ok (by omega) B.len ((okHist_iff l).1 h).1]
  have hr := atH_range l s
  simp only [Option.bind_some, bif_dec, true_and]
  by_cases h0 : 0 ≤ atH l s
  ·rw [if_neg (by omega), if_pos h0]
   obtain ⟨k, hk⟩ : ∃ k : Nat, atH l s = (k : Int) := ⟨(atH l s).toNat, by omega⟩
   rw [hk] at hr ⊢
   obtain ⟨z, hz⟩ : ∃ z, l[k]? = some z := ⟨_, List.getElem?_eq_getElem (by omega)⟩
   rw [impl_down (by omega) B (hist_urls h) hz rfl, Int.toNat_natCast, getD_get dEntry hz]; rfl
  ·rw [if_pos (by omega), if_neg h0]; rfl
theorem spec_HistNear_ok {n : Nat} (hn : 4194304 + 36 ≤ n) {l : List TEntry} (B : BH l) (s : Int) : cs_HistNear n l s = some ((nearR l s).1, (nearR l s).2, ()) := by
 obtain ⟨m, rfl⟩ := sn hn
 rw [es_HistNear]; unfold ms_HistNear nearR
 rw [spec_HistAt_ok (by omega) B]
 simp only [Option.bind_some, histAtR]
 cases h : okHist l with
 | false => simp
 | true =>
  have hr := atH_range l s
  simp only [if_true, bif_dec, true_and]
  by_cases h0 : 0 ≤ atH l s
  ·rw [if_neg (by omega), if_pos h0]
   obtain ⟨k, hk⟩ : ∃ k : Nat, atH l s = (k : Int) := ⟨(atH l s).toNat, by omega⟩
   rw [hk] at hr ⊢
   obtain ⟨z, hz⟩ : ∃ z, l[k]? = some z := ⟨_, List.getElem?_eq_getElem (by omega)⟩
   rw [spec_down (by omega) B hz rfl, Int.toNat_natCast, getD_get dEntry hz]
  ·rw [if_pos (by omega), if_neg h0]
end Go.VM.T
namespace Go.VM.T
open Go Go.VM
def Tot {A : Type} (o : Option A) (Q : A → Prop) : Prop := ∃ a, o = some a ∧ Q a
theorem Tot.bind {A C : Type} {o : Option A} {Q : A → Prop} {f : A → Option C} {Q' : C → Prop} (h : Tot o Q) (hf : ∀ a, Q a → Tot (f a) Q') : Tot (o.bind f) Q' := by
 obtain ⟨a, rfl, ha⟩ := h
 exact hf a ha
theorem Tot.cond {A : Type} {p : Bool} {x y : Option A} {Q : A → Prop} (h1 : p = true → Tot x Q) (h2 : p = false → Tot y Q) : Tot (bif p then x else y) Q := by
 cases p
 ·exact h2 rfl
 ·exact h1 rfl
theorem Tot.grd {A : Type} {p : Prop} [Decidable p] {x : Option A} {Q : A → Prop} (hp : p) (h : Tot x Q) : Tot (Go.VM.grd (decide p) x) Q := by
 rw [grd_dec, if_pos hp]; exact h
theorem Tot.one {A : Type} {a : A} {Q : A → Prop} (h : Q a) : Tot (some a) Q := ⟨a, rfl, h⟩
theorem Dr.tot {A : Type} {b : List Int} {p k : Int} {Q : A → Prop} {o : Option (A × TRd × Unit)} (h : Dr b p k Q o) : Tot o fun r => ∃ a q, r = (a, (b, q, ()), ()) ∧ p ≤ q ∧ q ≤ p + k ∧ Q a := by
 obtain ⟨a, q, e, h1, h2, h3⟩ := h
 exact ⟨_, e, a, q, rfl, h1, h2, h3⟩
theorem DrawHistPut_tot {n : Nat} (hn : 4194304 + 34 ≤ n) {code : List Int} (C : Code code) : Tot (cs_DrawHistPut n code) fun r => SH r.1 ∧ Sm r.2.1.2.1 := by
 obtain ⟨m, rfl⟩ := sn hn
 rw [es_DrawHistPut]; unfold ms_DrawHistPut
 obtain ⟨b, B, e⟩ := open_ok (n := m) (by omega) C.len C.byte
 rw [e, Option.bind_some]
 refine Tot.bind (anyhist_dr (n := m) (p := 0) (by omega) B (by omega) (by omega)).tot ?_
 rintro _ ⟨l, q, rfl, a1, a2, hS⟩
 refine Tot.bind (pick_dr (n := m) (p := q) (c := 16) (by omega) B (by omega) (by omega) (by omega)).tot ?_
 rintro _ ⟨x3, q3, rfl, b3, c3, d3⟩
 refine Tot.bind (near_dr (n := m) (p := q3) (by omega) B (by omega) (by omega)).tot ?_
 rintro _ ⟨u, q4, rfl, b4, c4, hu⟩
 refine Tot.bind (pick_dr (n := m) (p := q4) (c := 5) (by omega) B (by omega) (by omega) (by omega)).tot ?_
 rintro _ ⟨x5, q5, rfl, b5, c5, d5⟩
 refine Tot.bind (pick_dr (n := m) (p := q5) (c := 3) (by omega) B (by omega) (by omega) (by omega)).tot ?_
 rintro _ ⟨x6, q6, rfl, b6, c6, d6⟩
 have hlen := hS.len
 have fin : ∀ s d k : Int, Tot (some (l, ((s, u, d, k, [], ()) : TEntry), ())) fun r => SH r.1 ∧ Sm r.2.1.2.1 := fun s d k => Tot.one ⟨hS, hu.sm⟩
 have hw : (0 : Int) < (l.length : Int) → IntKind.i64.wrap ((l.length : Int) - 1) = (l.length : Int) - 1 := fun _ => w64 (by omega) (by omega)
 refine Tot.cond (fun hl => ?_) (fun h0 => Tot.cond (fun h1 => absurd (h0.symm.trans h1) (by simp)) (fun _ => fin _ _ _))
 have hl : (0 : Int) < (l.length : Int) := of_decide_eq_true hl
 refine Tot.bind (pick_dr (n := m) (p := q6) (c := 2) (by omega) B (by omega) (by omega) (by omega)).tot ?_
 rintro _ ⟨x7, q7, rfl, b7, c7, d7⟩
 refine Tot.cond (fun _ => ?_) (fun _ => ?_)
 ·refine Tot.bind (pick_dr (n := m) (p := q7) (c := (l.length : Int)) (by omega) B (by omega) (by omega) (by omega)).tot ?_
  rintro _ ⟨x8, q8, rfl, b8, c8, d8⟩
  refine Tot.grd d8.1 (Tot.grd d8.2 ?_)
  refine Tot.bind (pick_dr (n := m) (p := q8) (c := 2) (by omega) B (by omega) (by omega) (by omega)).tot ?_
  rintro _ ⟨x9, q9, rfl, b9, c9, d9⟩
  refine Tot.cond (fun _ => ?_) (fun _ => ?_)
  ·refine Tot.cond (fun _ => ?_) (fun _ => fin _ _ _)
   refine Tot.bind (pick_dr (n := m) (p := q9) (c := 3) (by omega) B (by omega) (by omega) (by omega)).tot ?_
   rintro _ ⟨y, z, rfl, _⟩
   refine Tot.cond (fun _ => ?_) (fun _ => fin _ _ _)
   exact Tot.grd (show 0 ≤ IntKind.i64.wrap ((l.length : Int) - 1) by rw [hw hl]; omega) (Tot.grd (show IntKind.i64.wrap ((l.length : Int) - 1) < (l.length : Int) by rw [hw hl]; omega) (fin _ _ _))
  ·refine Tot.cond (fun _ => ?_) (fun _ => fin _ _ _)
   refine Tot.bind (pick_dr (n := m) (p := q9) (c := 3) (by omega) B (by omega) (by omega) (by omega)).tot ?_
   rintro _ ⟨y, z, rfl, _⟩
   refine Tot.cond (fun _ => ?_) (fun _ => fin _ _ _)
   exact Tot.grd (show 0 ≤ IntKind.i64.wrap ((l.length : Int) - 1) by rw [hw hl]; omega) (Tot.grd (show IntKind.i64.wrap ((l.length : Int) - 1) < (l.length : Int) by rw [hw hl]; omega) (fin _ _ _))
 ·refine Tot.cond (fun _ => ?_) (fun _ => fin _ _ _)
  refine Tot.bind (pick_dr (n := m) (p := q7) (c := 3) (by omega) B (by omega) (by omega) (by omega)).tot ?_
  rintro _ ⟨y, z, rfl, _⟩
  refine Tot.cond (fun _ => ?_) (fun _ => fin _ _ _)
  exact Tot.grd (show 0 ≤ IntKind.i64.wrap ((l.length : Int) - 1) by rw [hw hl]; omega) (Tot.grd (show IntKind.i64.wrap ((l.length : Int) - 1) < (l.length : Int) by rw [hw hl]; omega) (fin _ _ _))
theorem DrawHistPut_ok {n : Nat} (hn : 4194304 + 34 ≤ n) {code : List Int} (C : Code code) : ∃ l e, cs_DrawHistPut n code = some (l, e, ()) ∧ SH l ∧ Sm e.2.1 := by
 obtain ⟨⟨l, e, ⟨⟩⟩, h1, h2, h3⟩ := DrawHistPut_tot hn C
 exact ⟨l, e, h1, h2, h3⟩
end Go.VM.T
namespace Go.VM.T
open Go Go.VM
theorem cut_take {l : List TEntry} (s : Int) : l.take (cutH l s).length = cutH l s := take_tw _ l
theorem law_FnHistCut {n : Nat} (hn : 4194304 + 60 ≤ n) {code more : List Int} (hc : ∀ x ∈ code, 0 ≤ x ∧ x ≤ 255) : cl_FnHistCut n code more = some (true, ()) := by
 obtain ⟨m, rfl⟩ := sn hn
 rw [el_FnHistCut]; unfold ml_FnHistCut
 simp only [bif_dec]
 split
 ·rfl
 rename_i hl
 split
 ·rfl
 rename_i hl2
 obtain ⟨l, s, e, hS, s0, s1⟩ := DrawHistCut_ok (n := m) (code := code) (by omega) ⟨by omega, hc⟩
 have B := hS.bh
 have B2 := cutR_bh B s
 simp only [e, Option.bind_some, impl_HistCut_ok (n := m) (by omega) B, spec_HistCut_ok (n := m) (by omega) B, guHist_same (n := m) (by omega) B2, Bool.not_true, cond_false, spec_HistOk_ok (n := m) (by omega) B]
 cases ho : okHist l with
 | false => rfl
 | true =>
 have hx : cutR l s = cutH l s := by unfold cutR; rw [if_pos ho]
 have ho2 := okHist_cut ho s
 rw [hx] at B2
 have P := ((okHist_iff l).1 ho).1
 have hr := cut_len l s
 have hcc : cutR (cutH l s) s = cutH l s := by unfold cutR; rw [if_pos ho2, cut_cut l (Int.le_refl s)]
 have hat : ∀ t, t ≤ s → histAtR (cutH l s) t = histAtR l t := fun t ht => by
  unfold histAtR
  rw [if_pos ho, if_pos ho2]
  unfold atH
  rw [cut_cut l ht]
 have h1000 : histAtR (cutH l s) 1000 = histAtR l s := by
  unfold histAtR
  rw [if_pos ho, if_pos ho2]
  unfold atH
  rw [cut_big (P.cut s)]
 have htk : (l.take ((cutH l s).length : Int).toNat).drop 0 = cutH l s := by rw [List.drop_zero, Int.toNat_natCast, cut_take]
 simp only [Bool.not_true, cond_false, hx, impl_HistAt_ok (n := m) (by omega) B, impl_HistAt_ok (n := m) (by omega) B2, impl_HistOk_ok (n := m) (by omega) B2, impl_HistCut_ok (n := m) (by omega) B2, hcc, htk, guHist_same (n := m) (by omega) B2, ho2, h1000, cond_true, Option.bind_some, bif_ndec, grd_dec, grd_ndec]
 rw [if_neg (show ¬ (12 : Int) = 0 by omega)]
 have c1 : (0 : Int) ≤ ((cutH l s).length : Int) := by omega
 have c2 : ((cutH l s).length : Int) ≤ (l.length : Int) := by omega
 simp only [c1, c2, if_true, decide_true]
 split
 ·rename_i ht
  rw [if_pos (hat _ ht)]
 ·rfl
theorem law_FnHistPut {n : Nat} (hn : 4194304 + 60 ≤ n) {code : List Int} (hc : ∀ x ∈ code, 0 ≤ x ∧ x ≤ 255) : cl_FnHistPut n code = some (true, ()) := by
 obtain ⟨m, rfl⟩ := sn hn
 rw [el_FnHistPut]; unfold ml_FnHistPut
 simp only [bif_dec]
 split
 ·rfl
 rename_i hl
 obtain ⟨l, e, ed, hS, he⟩ := DrawHistPut_ok (n := m) (code := code) (by omega) ⟨by omega, hc⟩
 have B := hS.bh
 have E := he.bu
 have hlen := hS.len
 have B2 : BH (putF l e).1 := by
  unfold putF putR
  split
  ·split
   ·rename_i x hx
    unfold putO at hx
    split at hx
    ·cases hx
     split
     ·exact B.set E _
     ·exact B
    ·split at hx
     ·cases hx
      split
      ·exact B.snoc E (by omega)
      ·exact B
     ·cases hx
   ·exact B
  ·exact ⟨by simp, by simp⟩
 simp only [ed, Option.bind_some, impl_HistPut_ok (n := m) (by omega) B (by omega) E, spec_HistPut_ok (n := m) (by omega) B (by omega) E, guHist_same (n := m) (by omega) B2, beq_self_eq_true, Bool.not_true, cond_false, cond_true, spec_HistOk_ok (n := m) (by omega) B]
 cases ho : okHist l with
 | false => rfl
 | true =>
 simp only [Bool.not_true, cond_false]
 have hF : putF l e = putR l e := by unfold putF; rw [if_pos ho]
 rw [hF] at B2 ⊢
 cases hk : (putR l e).2 with
 | false =>
  have : (putR l e).1 = l := by
   unfold putR at hk ⊢
   split
   ·rename_i x hx
    rw [hx] at hk
    simp only at hk
    split at hk
    ·cases hk
    ·rename_i h; rw [if_neg h]
   ·rfl
  rw [this]
  simp only [Bool.not_false, cond_true, guHist_same (n := m) (by omega) B, Option.bind_some]
 | true =>
 obtain ⟨x, hx, hox, hxe⟩ : ∃ x, putO l e = some x ∧ okHist x = true ∧ (putR l e).1 = x := by
  unfold putR at hk ⊢
  cases hp : putO l e with
  | none => rw [hp] at hk; cases hk
  | some x =>
   rw [hp] at hk
   simp only at hk ⊢
   split at hk
   ·rename_i h; exact ⟨x, rfl, h, by rw [if_pos h]⟩
   ·cases hk
 rw [hxe] at B2 ⊢
 obtain ⟨j, hj, hxl, hkeep⟩ := putO_some hx
 have Px := ((okHist_iff x).1 hox).1
 have hjl := (List.getElem?_eq_some_iff.1 hj).1
 have hk1 : histAtR x e.1 = (j : Int) := by unfold histAtR; rw [if_pos hox, atH_self Px hj]
 have hk2 : (if okHist x = true then idxV (x.findIdx? fun z => decide (z.2.2.2.1 = e.2.2.2.1)) else -1) = (j : Int) := by rw [if_pos hox, find_key Px hj]; rfl
 simp only [Bool.not_true, cond_false, impl_HistAt_ok (n := m) (by omega) B2, Option.bind_some, hk1]
 refine loopS l (fun _ i st r => r = (true, ()) ∧ st = ((i : Int), ())) ?_ ?_ ⟨rfl, rfl⟩ (by omega)
 ·rintro st r self ⟨rfl, rfl⟩
  unfold ml_FnHistPut.l0
  simp only [bif_dec, grd_dec, Int.toNat_natCast, getD_get dEntry hj, impl_HistOk_ok (n := m) (by omega) B2, hox, impl_HistKey_ok (n := m) (by omega) B2, hk2, guEntry_same (n := m) (by omega) E, Option.bind_some, cond_true, if_true]
  rw [if_neg (show ¬ (l.length : Int) < (l.length : Int) by omega)]
  have c1 : (0 : Int) ≤ (j : Int) := by omega
  have c2 : (j : Int) < (x.length : Int) := by omega
  simp only [c1, c2, if_true]
  rw [w64 (by omega) (by omega), decide_eq_true (show (x.length : Int) ≤ (l.length : Int) + 1 by omega)]
  rw [if_pos hox] at hk2
  rw [if_pos hk2]
 ·rintro a L i st r self _ hi ha ⟨rfl, rfl⟩ ih
  unfold ml_FnHistPut.l0
  have c1 : (0 : Int) ≤ (i : Int) := by omega
  have c2 : (i : Int) < (l.length : Int) := by omega
  simp only [bif_dec, bif_ndec, grd_dec, Int.toNat_natCast, getD_get dEntry ha, c1, c2, if_true, w_i (show i ≤ 4000000 by omega)]
  by_cases hs : a.1 = e.1
  ·rw [if_pos hs]
   exact ih _ ⟨rfl, rfl⟩
  ·rw [if_neg hs]
   have hxa := hkeep i a ha hs
   have hix := (List.getElem?_eq_some_iff.1 hxa).1
   have c3 : ¬ (x.length : Int) ≤ (i : Int) := by omega
   have c4 : (i : Int) < (x.length : Int) := by omega
   simp only [c3, c4, if_true, if_false, getD_get dEntry hxa, guEntry_same (n := m) (by omega) (B.get ha), Option.bind_some, Bool.not_true, cond_false]
   exact ih _ ⟨rfl, rfl⟩
end Go.VM.T
namespace Go.VM.T
open Go Go.VM
theorem law_FnHistNear {n : Nat} (hn : 4194304 + 60 ≤ n) {code : List Int} (hc : ∀ x ∈ code, 0 ≤ x ∧ x ≤ 255) : cl_FnHistNear n code = some (true, ()) := by
 obtain ⟨m, rfl⟩ := sn hn
 rw [el_FnHistNear]; unfold ml_FnHistNear
 simp only [bif_dec]
 split
 ·rfl
 rename_i hl
 obtain ⟨l, s, ed, hS, s0, s1⟩ := DrawHistNear_ok (n := m) (code := code) (by omega) ⟨by omega, hc⟩
 have B := hS.bh
 have hlen := hS.len
 have B2 := near_bh B s
 simp only [ed, Option.bind_some, impl_HistNear_ok (n := m) (by omega) B, spec_HistNear_ok (n := m) (by omega) B, guHist_same (n := m) (by omega) B2, bif_ndec, if_true, Bool.not_true, cond_false]
 by_cases hneg : (nearR l s).2 < 0
 ·rw [if_pos hneg]
 rw [if_neg hneg]
 have hr := atH_range l s
 obtain ⟨ho, h0⟩ : okHist l = true ∧ 0 ≤ atH l s := by
  unfold nearR at hneg
  split at hneg
  ·assumption
  ·simp at hneg
 obtain ⟨k, hk⟩ : ∃ k : Nat, atH l s = (k : Int) := ⟨(atH l s).toNat, by omega⟩
 have hkl : k < l.length := by omega
 obtain ⟨z, hz⟩ : ∃ z, l[k]? = some z := ⟨_, List.getElem?_eq_getElem hkl⟩
 have hnr : nearR l s = (nearN (qOf z) l k, (k : Int) - (fromN (qOf z) l k : Int)) := by
  unfold nearR
  rw [if_pos ⟨ho, h0⟩, hk, Int.toNat_natCast, getD_get dEntry hz]
 have hat : histAtR l s = (k : Int) := by unfold histAtR; rw [if_pos ho, hk]
 have U := hist_urls ho
 have hfk : fromN (qOf z) l k ≤ k := fromN_le
 have htk : k ≤ toN (qOf z) l k := to_ge
 have htl : toN (qOf z) l k < l.length := to_lt hkl
 have hnl : (nearN (qOf z) l k).length = toN (qOf z) l k + 1 - fromN (qOf z) l k := near_len hkl
 have hget : ∀ i a, i < (nearN (qOf z) l k).length → l[fromN (qOf z) l k + i]? = some a → (nearN (qOf z) l k)[i]? = some a := fun i a hi ha => by rw [near_get hkl hi]; exact ha
 have same : ∀ {i : Nat} {a : TEntry}, l[i]? = some a → ci_OriginSame m a.2.1 z.2.1 = some (qOf z a, ()) := fun ha => by
  rw [impl_Same_ok (by omega) (B.get ha) (B.get hz) (U _ (List.mem_of_getElem? ha)) (U _ (List.mem_of_getElem? hz)), orS_comm]; rfl
 have hin : ∀ i a, fromN (qOf z) l k ≤ i → i ≤ toN (qOf z) l k → i ≠ k → l[i]? = some a → qOf z a = true := fun i a h1 h2 h3 ha => by
  rcases Nat.lt_or_gt_of_ne h3 with h | h
  ·exact from_in h1 h ha
  ·exact to_in h h2 ha
 have hbelow : ∀ a j, fromN (qOf z) l k = j + 1 → l[j]? = some a → qOf z a = false := fun a j h1 ha => from_out (by omega) h1 ha
 have habove : ∀ a, l[toN (qOf z) l k + 1]? = some a → qOf z a = false := fun a ha => to_out ha
 rw [hnr] at B2
 simp only [impl_HistAt_ok (n := m) (by omega) B, hat, Option.bind_some, hnr]
 simp only at B2
 generalize nearN (qOf z) l k = x at *
 generalize fromN (qOf z) l k = f at *
 generalize toN (qOf z) l k = t at *
 clear hneg hnr hr h0 hk hat ed hS
 have ew : IntKind.i64.wrap ((k : Int) - ((k : Int) - (f : Int))) = (f : Int) := by rw [w64 (by omega) (by omega)]; omega
 have z1 : (0 : Int) ≤ (k : Int) := by omega
 have z2 : (k : Int) < (l.length : Int) := by omega
 refine loopS x (fun _ i st r => r = (true, ()) ∧ st = ((i : Int), ())) ?_ ?_ ⟨rfl, rfl⟩ (by omega)
 ·rintro st r self ⟨rfl, rfl⟩
  unfold ml_FnHistNear.l0
  obtain ⟨a, ha⟩ : ∃ a, (k : Int) - (f : Int) = ((a : Nat) : Int) ∧ f + a = k := ⟨k - f, by omega, by omega⟩
  have hxa := hget a z (by omega) (by rw [ha.2]; exact hz)
  have e2 : IntKind.i64.wrap ((f : Int) + (x.length : Int)) = ((t + 1 : Nat) : Int) := by rw [w64 (by omega) (by omega)]; omega
  have n1 : ¬ (x.length : Int) < (x.length : Int) := by omega
  have a1 : (0 : Int) ≤ (a : Int) := by omega
  have a2 : (a : Int) < (x.length : Int) := by omega
  have ew2 : IntKind.i64.wrap ((k : Int) - (a : Int)) = (f : Int) := by rw [w64 (by omega) (by omega)]; omega
  simp only [ha.1, ew2, e2, bif_dec, grd_dec, Int.toNat_natCast, getD_get dEntry hz, getD_get dEntry hxa, n1, a1, a2, z1, z2, if_true, if_false, guEntry_same (n := m) (by omega) (B.get hz), Option.bind_some, cond_true]
  have tail : (if ((t + 1 : Nat) : Int) = (l.length : Int) then some (true, ()) else if 0 ≤ ((t + 1 : Nat) : Int) then if ((t + 1 : Nat) : Int) < (l.length : Int) then (ci_OriginSame m (l.getD (t + 1) dEntry).2.1 z.2.1).bind fun y14 => some ((!y14.1), ()) else none else none) = some (true, ()) := by
   by_cases hlast : ((t + 1 : Nat) : Int) = (l.length : Int)
   ·rw [if_pos hlast]
   ·rw [if_neg hlast, if_pos (by omega), if_pos (by omega)]
    obtain ⟨b, hb⟩ : ∃ b, l[t + 1]? = some b := ⟨_, List.getElem?_eq_getElem (by omega)⟩
    rw [getD_get dEntry hb, same hb, habove b hb]; rfl
  by_cases hf0 : (f : Int) = 0
  ·rw [if_pos hf0]
   exact tail
  ·rw [if_neg hf0]
   obtain ⟨j, rfl⟩ : ∃ j, f = j + 1 := ⟨f - 1, by omega⟩
   have ej : IntKind.i64.wrap (((j + 1 : Nat) : Int) - 1) = (j : Int) := by rw [w64 (by omega) (by omega)]; omega
   obtain ⟨b, hb⟩ : ∃ b, l[j]? = some b := ⟨_, List.getElem?_eq_getElem (by omega)⟩
   simp only [ej, Int.toNat_natCast, getD_get dEntry hb, same hb, hbelow b j rfl hb, Option.bind_some, Bool.not_false, cond_true]
   rw [if_pos (show (0 : Int) ≤ (j : Int) by omega), if_pos (show (j : Int) < (l.length : Int) by omega)]
   exact tail
 ·rintro b L i st r self _ hi hb ⟨rfl, rfl⟩ ih
  unfold ml_FnHistNear.l0
  have e3 : IntKind.i64.wrap ((f : Int) + (i : Int)) = ((f + i : Nat) : Int) := by rw [w64 (by omega) (by omega)]; omega
  obtain ⟨b', hb'⟩ : ∃ b, l[f + i]? = some b := ⟨_, List.getElem?_eq_getElem (by omega)⟩
  obtain rfl : b' = b := by have := hget i b' (by omega) hb'; rw [hb] at this; exact (Option.some.inj this).symm
  have b1 : (0 : Int) ≤ (i : Int) := by omega
  have b2 : (i : Int) < (x.length : Int) := by omega
  have b3 : (0 : Int) ≤ ((f + i : Nat) : Int) := by omega
  have b4 : ((f + i : Nat) : Int) < (l.length : Int) := by omega
  simp only [ew, e3, bif_dec, bif_ndec, grd_dec, Int.toNat_natCast, getD_get dEntry hb, getD_get dEntry hb', getD_get dEntry hz, b1, b2, b3, b4, z1, z2, if_true, guEntry_same (n := m) (by omega) (B.get hb'), Option.bind_some, Bool.not_true, cond_false, w_i (show i ≤ 4000000 by omega)]
  by_cases hik : (i : Int) = (k : Int) - (f : Int)
  ·rw [if_pos hik]
   exact ih _ ⟨rfl, rfl⟩
  ·rw [if_neg hik, same hb', hin (f + i) b' (by omega) (by omega) (by omega) hb']
   exact ih _ ⟨rfl, rfl⟩
theorem law_FnHistBehind {n : Nat} (hn : 4194304 + 60 ≤ n) {code : List Int} (hc : ∀ x ∈ code, 0 ≤ x ∧ x ≤ 255) : cl_FnHistBehind n code = some (true, ()) := by
 obtain ⟨m, rfl⟩ := sn hn
 rw [el_FnHistBehind]; unfold ml_FnHistBehind
 rw [bif_dec]
 by_cases hl : (1048576 : Int) < (code.length : Int)
 ·rw [if_pos hl]
 rw [if_neg hl]
 obtain ⟨l, s, ed, hS, s0, s1⟩ := DrawHistNear_ok (n := m) (code := code) (by omega) ⟨by omega, hc⟩
 have B := hS.bh
 have hlen := hS.len
 have B2 := near_bh B s
 rw [ed]
 simp only [Option.bind_some]
 rw [impl_HistNear_ok (by omega) B]
 simp only [Option.bind_some]
 rw [spec_HistNear_ok (by omega) B]
 simp only [Option.bind_some, decide_true, Bool.not_true, cond_false, guHist_same (n := m) (by omega) B2, spec_HistOk_ok (n := m) (by omega) B, cond_true]
 cases ho : okHist l with
 | false => rfl
 | true =>
 simp only [Bool.not_true, cond_false]
 have P := ((okHist_iff l).1 ho).1
 rw [bif_dec]
 by_cases h0 : (l.length : Int) = 0
 ·rw [if_pos h0]
 rw [if_neg h0, bif_dec]
 by_cases h20 : (20 : Int) ≤ (l.length : Int)
 ·rw [if_pos h20]
 rw [if_neg h20]
 obtain ⟨j, hj⟩ : ∃ j, l.length = j + 1 := ⟨l.length - 1, by omega⟩
 obtain ⟨z, hz⟩ : ∃ z, l[j]? = some z := ⟨_, List.getElem?_eq_getElem (by omega)⟩
 have hzl : l.getLast? = some z := by rw [List.getLast?_eq_getElem?, hj]; exact hz
 have ew : IntKind.i64.wrap ((l.length : Int) - 1) = (j : Int) := by rw [w64 (by omega) (by omega)]; omega
 have hz1 := hS.one z (List.mem_of_getElem? hz)
 have hz2 := (oneE_iff z).1 (P.one z (List.mem_of_getElem? hz))
 have j1 : (0 : Int) ≤ (j : Int) := by omega
 have j2 : (j : Int) < (l.length : Int) := by omega
 simp only [ew, Int.toNat_natCast, getD_get dEntry hz]
 rw [grd_dec, if_pos j1, grd_dec, if_pos j2, bif_dec]
 by_cases h60 : (60 : Int) ≤ z.1
 ·rw [if_pos h60]
 rw [if_neg h60, grd_dec, if_pos j1, grd_dec, if_pos j2, grd_dec, if_pos j1, grd_dec, if_pos j2]
 have es : IntKind.i64.wrap (z.1 + 1) = z.1 + 1 := w64 (by omega) (by omega)
 rw [es]
 obtain ⟨e, he⟩ : ∃ e : TEntry, e = (z.1 + 1, z.2.1, 1, 9000, [], ()) := ⟨_, rfl⟩
 have E : BU e.2.1 := by have := B.get hz; rw [he]; exact this
 have he1 : e.1 = z.1 + 1 := by rw [he]
 have heu : e.2.1 = z.2.1 := by rw [he]
 have hek : e.2.2.2.1 = 9000 := by rw [he]
 have heo : oneE e = true := (oneE_iff e).2 (by rw [he]; exact ⟨⟨by simp only; omega, by simp only; omega⟩, hz2.2.1, by simp only; omega, by simp only; omega, by simp⟩)
 rw [← he]
 have hbl : ∀ a ∈ l, a.1 < e.1 := by
  have := (below_last (s := e.1) (i := j) (by rw [← hj, List.take_length]; exact P) hz)
  rw [← hj, List.take_length] at this
  exact this.2 (by omega)
 have hp : putO l e = some (l ++ [e]) := by
  unfold putO
  have hf : l.findIdx? (fun x => decide (x.1 = e.1)) = none := by
   rw [List.findIdx?_eq_none_iff]
   intro a ha
   have := hbl a ha
   exact decide_eq_false (by omega)
  rw [hf]
  simp only
  rw [if_pos (by rw [List.all_eq_true]; intro a ha; exact decide_eq_true (hbl a ha))]
 have hF : putF l e = if okHist (l ++ [e]) = true then (l ++ [e], true) else (l, false) := (put_end ho hp).symm
 have hkey : ci_HistKey m l 9000 = some (idxV (l.findIdx? fun x => decide (x.2.2.2.1 = 9000)), ()) := by rw [impl_HistKey_ok (by omega) B, if_pos ho]
 rw [impl_HistPut_ok (by omega) B (by omega) E, hF]
 cases hoy : okHist (l ++ [e]) with
 | false =>
  have hdup : ∃ a ∈ l, a.2.2.2.1 = 9000 := by
   refine Classical.byContradiction fun hno => ?_
   have : okHist (l ++ [e]) = true := (okHist_iff _).2 ⟨preH_snoc.2 ⟨P, heo, hbl, fun a ha hk => hno ⟨a, ha, by rw [hk, hek]⟩⟩, by simp; omega⟩
   rw [this] at hoy; cases hoy
  have hpos : (0 : Int) ≤ idxV (l.findIdx? fun x => decide (x.2.2.2.1 = 9000)) := by
   obtain ⟨a, ha, hk⟩ := hdup
   cases hf : l.findIdx? (fun x => decide (x.2.2.2.1 = 9000)) with
   | none => have := find_none hf a ha; simp [hk] at this
   | some i => simp only [idxV]; omega
  simp only [Bool.false_eq_true, if_false, Option.bind_some]
  rw [impl_HistNear_ok (by omega) B]
  simp only [Option.bind_some]
  rw [grd_dec, if_pos j1, grd_dec, if_pos j2, impl_HistNear_ok (by omega) B]
  simp only [Option.bind_some, Bool.not_false, cond_true, beq_self_eq_true, hkey]
  rw [decide_eq_true hpos]
 | true =>
  have By := B.snoc E (by omega)
  have Py := ((okHist_iff _).1 hoy).1
  have hye : (l ++ [e])[l.length]? = some e := by simp
  have hay : atH (l ++ [e]) e.1 = (l.length : Int) := atH_self Py hye
  have haz : atH l z.1 = (j : Int) := atH_self P hz
  have hq : qOf e = qOf z := by funext a; unfold qOf; rw [heu]
  have hny : nearR (l ++ [e]) (z.1 + 1) = (nearN (qOf z) (l ++ [e]) l.length, (l.length : Int) - (fromN (qOf z) (l ++ [e]) l.length : Int)) := by
   unfold nearR
   rw [← he1, hay, if_pos ⟨hoy, by omega⟩, Int.toNat_natCast, getD_get dEntry hye, hq]
  have hnz : nearR l z.1 = (nearN (qOf z) l j, (j : Int) - (fromN (qOf z) l j : Int)) := by
   unfold nearR
   rw [haz, if_pos ⟨ho, by omega⟩, Int.toNat_natCast, getD_get dEntry hz]
  have hkl : l.length < (l ++ [e]).length := by simp
  have hb := near_behind (q := qOf z) (e := e) hzl
  rw [show l.length - 1 = j by omega] at hb
  have hto : toN (qOf z) (l ++ [e]) l.length = l.length := to_end (by simp)
  have hnl := near_len (q := qOf z) hkl
  have hfy : fromN (qOf z) (l ++ [e]) l.length ≤ l.length := fromN_le
  rw [hto] at hnl
  have hlj : (nearN (qOf z) l j).length ≤ 30 := by rw [near_len (by omega)]; have := to_lt (q := qOf z) (l := l) (k := j) (by omega); omega
  obtain ⟨a, ha, ha2⟩ : ∃ a : Nat, (l.length : Int) - (fromN (qOf z) (l ++ [e]) l.length : Int) = (a : Int) ∧ fromN (qOf z) (l ++ [e]) l.length + a = l.length := ⟨l.length - fromN (qOf z) (l ++ [e]) l.length, by omega, by omega⟩
  have hxa : (nearN (qOf z) (l ++ [e]) l.length)[a]? = some e := by rw [near_get hkl (by omega), ha2]; exact hye
  simp only [if_true, Option.bind_some]
  rw [impl_HistNear_ok (by omega) By, hny]
  simp only [Option.bind_some]
  rw [grd_dec, if_pos j1, grd_dec, if_pos j2, impl_HistNear_ok (by omega) B, hnz]
  simp only [Option.bind_some, ha, Bool.not_true, cond_false]
  have ex : IntKind.i64.wrap (((nearN (qOf z) (l ++ [e]) l.length).length : Int) - 1) = (a : Int) := by rw [w64 (by omega) (by omega)]; omega
  rw [ex]
  have a1 : (0 : Int) ≤ (a : Int) := by omega
  have a2 : (a : Int) < ((nearN (qOf z) (l ++ [e]) l.length).length : Int) := by omega
  simp only [decide_true, Bool.not_true, cond_false, Int.toNat_natCast, getD_get dEntry hxa]
  rw [grd_dec, if_pos a1, grd_dec, if_pos a2, guEntry_same (by omega) E]
  simp only [Option.bind_some, Bool.not_true, cond_false]
  rw [bif_dec]
  by_cases hone : ((nearN (qOf z) (l ++ [e]) l.length).length : Int) = 1
  ·rw [if_pos hone]
  ·rw [if_neg hone]
   split at hb
   ·rw [w64 (by omega) (by omega), decide_eq_true (by omega)]
   ·omega
end Go.VM.T
