/- The plain law: what the models compute answers as the statement says. -/
import Derived.Test.YtbpkjhlbfjofhaaGreatDoorU7
set_option linter.unusedVariables false
set_option linter.unusedSimpArgs false
namespace Go.VM.T
open Go Go.VM
theorem Dr.get {A : Type} {n : Nat} (hn : 4194304 + 27 ≤ n) {b : List Int} {P K : Int} {Q : A → Prop} {t : Bs} {f : (TUrl × Bool × Unit) → Option (A × TRd × Unit)} (h : ∀ u ok, Sm0 u → Dr b P K Q (f (u, ok, ()))) : Dr b P K Q ((cs_UrlGet n t).bind f) := by
 obtain ⟨u, ok, e, hu⟩ := get_dr hn t
 rw [e]; exact h u ok hu
theorem net_l1 : ms_l11Net.l1 = ms_l11Net.l0 := rfl
theorem BN.snoc {l : List TPage} (B : BN l) (hl : l.length ≤ 1000) {p : TPage} (h1 : BU p.1) (h2 : p.2.2.1.length ≤ 2000000) (h3 : p.2.2.2.1.length ≤ 2000000) : BN (l ++ [p]) := by
 refine ⟨by simp; omega, ?_, ?_, ?_⟩
 all_goals
  intro x hx
  rcases List.mem_append.1 hx with hx | hx
 ·exact B.url x hx
 ·rw [List.mem_singleton.1 hx]; exact h1
 ·exact B.dest x hx
 ·rw [List.mem_singleton.1 hx]; exact h2
 ·exact B.says x hx
 ·rw [List.mem_singleton.1 hx]; exact h3
theorem BN.set {l : List TPage} (B : BN l) {i : Nat} {p : TPage} (h1 : BU p.1) (h2 : p.2.2.1.length ≤ 2000000) (h3 : p.2.2.2.1.length ≤ 2000000) : BN (l.set i p) := by
 refine ⟨by rw [List.length_set]; exact B.len, ?_, ?_, ?_⟩
 all_goals
  intro x hx
  rcases List.mem_or_eq_of_mem_set hx with hx | rfl
 ·exact B.url x hx
 ·exact h1
 ·exact B.dest x hx
 ·exact h2
 ·exact B.says x hx
 ·exact h3
theorem BN.nil : BN [] := ⟨by simp, by simp, by simp, by simp⟩
theorem says_in {n : Nat} (hn : 4194304 + 28 ≤ n) {b : List Int} (B : RdOk b) {P K : Int} {Q : List TPage → Prop} {s1 : (List TPage) × Int × TRd × Unit} {F : ((List TPage) × Int × TRd × Unit) → Option ((List TPage) × TRd × Unit)} (hs : s1.1.length ≤ 100) : ∀ (j m : Nat) (pg : TPage) (p : Int), j < m → 0 ≤ p → p + 6 * j ≤ 800000 → pg.2.2.2.1.length + j ≤ 10 → BU pg.1 → pg.2.2.1.length ≤ 2000000 →
  (∀ (pg' : TPage) (q : Int), p ≤ q → q ≤ p + 6 * j → BU pg'.1 → pg'.2.2.1.length ≤ 2000000 → pg'.2.2.2.1.length ≤ 10 → Dr b P K Q (F (s1.1 ++ [pg'], IntKind.i64.wrap (s1.2.1 + 1), (b, q, ()), ()))) →
  Dr b P K Q (loopR (ms_l11Net.l0 n s1 F) m ((j : Int), (b, p, ()), pg, ()))
 | 0, m + 1, pg, p, _, h0, h1, h2, h3, h4, hF => by
  show Dr _ _ _ _ (ms_l11Net.l0 n s1 F (loopR (ms_l11Net.l0 n s1 F) m) _)
  generalize loopR (ms_l11Net.l0 n s1 F) m = G
  unfold ms_l11Net.l0
  simp only [bif_dec, grd_dec]
  rw [if_neg (by omega), if_pos (ap_le (by simp; omega))]
  exact hF pg p (Int.le_refl _) (by omega) h3 h4 (by omega)
 | j + 1, m + 1, pg, p, hm, h0, h1, h2, h3, h4, hF => by
  show Dr _ _ _ _ (ms_l11Net.l0 n s1 F (loopR (ms_l11Net.l0 n s1 F) m) _)
  have ih := fun pg' q a c d e f => says_in hn B hs (P := P) (K := K) (Q := Q) (F := F) j m pg' q (by omega) a c d e f
  generalize loopR (ms_l11Net.l0 n s1 F) m = G at ih
  unfold ms_l11Net.l0
  simp only [bif_dec, grd_dec]
  rw [if_pos (by omega)]
  refine Dr.bind (says_dr (n := n) (by omega) B h0 (by omega)) fun t q g1 g2 _ => ?_
  dsimp only
  rw [if_pos (ap_le (by simp; omega)), w64 (by omega) (by omega), show (((j + 1 : Nat) : Int) - 1) = (j : Int) by omega]
  refine ih _ q (by omega) (by omega) (by simp; omega) h3 h4 ?_
  intro pg' q' a1 a2 a3 a4 a5
  exact hF pg' q' (by omega) (by omega) a3 a4 a5
 | 0, 0, _, _, h, _, _, _, _, _, _ => absurd h (Nat.not_lt_zero _)
 | _ + 1, 0, _, _, h, _, _, _, _, _, _ => absurd h (Nat.not_lt_zero _)
theorem net_go {n : Nat} (hn : 4194304 + 28 ≤ n) {b : List Int} (B : RdOk b) : ∀ (k m : Nat) (out : List TPage) (i : Nat) (p : Int), k < m → i + k = 7 → 0 ≤ p → p + 20 * k ≤ 700000 → out.length ≤ i → BN out →
  Dr b p (20 * k) (fun l => BN l ∧ l.length ≤ 7) (loopR (ms_l11Net.l2 n) m (out, (i : Int), (b, p, ()), ()))
 | 0, m + 1, out, i, p, _, hi, h0, h1, h2, hB => by
  show Dr _ _ _ _ (ms_l11Net.l2 n (loopR (ms_l11Net.l2 n) m) _)
  generalize loopR (ms_l11Net.l2 n) m = G
  unfold ms_l11Net.l2
  simp only [bif_dec]
  rw [if_neg (by simp only [List.length_cons, List.length_nil]; omega)]
  exact Dr.mk (by omega) (by omega) ⟨hB, by omega⟩
 | k + 1, m + 1, out, i, p, hm, hi, h0, h1, h2, hB => by
  show Dr _ _ _ _ (ms_l11Net.l2 n (loopR (ms_l11Net.l2 n) m) _)
  have ih : ∀ (out' : List TPage) (q : Int), p ≤ q → q ≤ p + 20 → out'.length ≤ i + 1 → BN out' → Dr b p (20 * ((k + 1 : Nat) : Int)) (fun l => BN l ∧ l.length ≤ 7) (loopR (ms_l11Net.l2 n) m (out', ((i + 1 : Nat) : Int), (b, q, ()), ())) := fun out' q a1 a2 a3 a4 => by
   obtain ⟨u, q4, e, g7, g8, g9⟩ := net_go hn B k m out' (i + 1) q (by omega) (by omega) (by omega) (by omega) a3 a4
   exact ⟨u, q4, e, by omega, by omega, g9⟩
  generalize loopR (ms_l11Net.l2 n) m = G at ih
  unfold ms_l11Net.l2
  simp only [bif_dec, grd_dec, net_l1]
  rw [if_pos (by simp only [List.length_cons, List.length_nil]; omega)]
  refine Dr.bind (pick_dr (n := n) (c := 5) (by omega) B h0 (by omega) (by omega)) fun x q g1 g2 _ => ?_
  dsimp only
  have hw : IntKind.i64.wrap ((i : Int) + 1) = ((i + 1 : Nat) : Int) := w_i (by omega)
  split
  ·rw [hw]; exact ih out q (by omega) (by omega) (by omega) hB
  ·rw [if_pos (by omega), if_pos (by simp only [List.length_cons, List.length_nil]; omega)]
   refine Dr.get (by omega) fun u ok hu => ?_
   refine Dr.bind (pick_dr (n := n) (c := 3) (by omega) B (by omega) (by omega) (by omega)) fun y q2 a1 a2 _ => ?_
   dsimp only
   have hub : BU u := hu.sm.bu
   split
   ·refine Dr.bind (of_dr (n := n) (P := fun s => s.length ≤ 2000) (by omega) B (by omega) (by omega) (by simp) (by decide)) fun t q3 b1 b2 ht => ?_
    refine Dr.bind (pick_dr (n := n) (c := 3) (by omega) B (by omega) (by omega) (by omega)) fun z q4 c1 c2 hz => ?_
    dsimp only
    have := says_in (n := n) hn B (s1 := (out, (i : Int), (b, p, ()), ())) (F := G) (P := p) (K := 20 * ((k + 1 : Nat) : Int)) (Q := fun l => BN l ∧ l.length ≤ 7) (by dsimp only; omega) z.toNat n (u, 2, t, [], ()) q4 (by omega) (by omega) (by omega) (by simp; omega) hub (by dsimp only; omega) (fun pg' q5 d1 d2 d3 d4 d5 => by
     dsimp only
     rw [hw]
     exact ih _ q5 (by omega) (by omega) (by simp; omega) (hB.snoc (by omega) d3 d4 (by omega)))
    rwa [show ((z.toNat : Nat) : Int) = z by omega] at this
   ·refine Dr.bind (pick_dr (n := n) (c := 3) (by omega) B (by omega) (by omega) (by omega)) fun z q4 c1 c2 hz => ?_
    dsimp only
    have := says_in (n := n) hn B (s1 := (out, (i : Int), (b, p, ()), ())) (F := G) (P := p) (K := 20 * ((k + 1 : Nat) : Int)) (Q := fun l => BN l ∧ l.length ≤ 7) (by dsimp only; omega) z.toNat n (u, 1, [], [], ()) q4 (by omega) (by omega) (by omega) (by simp; omega) hub (by simp) (fun pg' q5 d1 d2 d3 d4 d5 => by
     dsimp only
     rw [hw]
     exact ih _ q5 (by omega) (by omega) (by simp; omega) (hB.snoc (by omega) d3 d4 (by omega)))
    rwa [show ((z.toNat : Nat) : Int) = z by omega] at this
 | 0, 0, _, _, _, h, _, _, _, _, _ => absurd h (Nat.not_lt_zero _)
 | _ + 1, 0, _, _, _, h, _, _, _, _, _ => absurd h (Nat.not_lt_zero _)
theorem anynet_dr {n : Nat} (hn : 4194304 + 32 ≤ n) {b : List Int} (B : RdOk b) : Dr b 0 2000 BN (cs_l11AnyNet n (b, 0, ())) := by
 obtain ⟨m, rfl⟩ := sn hn
 rw [es_l11AnyNet]; unfold ms_l11AnyNet
 have hnet : Dr b 0 (20 * 7) (fun l => BN l ∧ l.length ≤ 7) (cs_l11Net m (b, 0, ())) := by
  obtain ⟨j, rfl⟩ := sn (n := m) (k := 1) (by omega)
  rw [es_l11Net]; unfold ms_l11Net
  exact net_go (n := j) (by omega) B 7 j [] 0 0 (by omega) rfl (by omega) (by omega) (by simp) BN.nil
 refine Dr.bind hnet fun l q g1 g2 ⟨hB, hl⟩ => ?_
 simp only [bif_dec, grd_dec]
 split
 ·exact Dr.mk (by omega) (by omega) hB
 ·rename_i hz
  refine Dr.bind (pick_dr (n := m) (c := (l.length : Int)) (by omega) B (by omega) (by omega) (by omega)) fun x q2 a1 a2 ⟨x0, x1⟩ => ?_
  refine Dr.bind (pick_dr (n := m) (c := 14) (by omega) B (by omega) (by omega) (by omega)) fun y q3 b1 b2 _ => ?_
  dsimp only
  have hm := getD_mem (l := l) (i := x.toNat) dPage (by omega)
  have m1 := hB.url _ hm
  have m2 := hB.dest _ hm
  have m3 := hB.says _ hm
  split
  ·refine Dr.bind (one_dr (n := m) (P := fun _ => True) (by omega) B (by omega) (by omega) (by simp) (fun _ _ => trivial)) fun z q4 c1 c2 _ => ?_
   dsimp only
   first | rw [if_pos (show x.toNat < l.length by omega)] | rw [if_pos x0, if_pos x1, if_pos (by omega)]
   exact Dr.mk (by omega) (by omega) (hB.set m1 m2 m3)
  split
  ·refine Dr.bind (anyurl_dr (n := m) (by omega) B (by omega) (by omega)) fun z q4 c1 c2 hz => ?_
   dsimp only
   first | rw [if_pos (show x.toNat < l.length by omega)] | rw [if_pos x0, if_pos x1, if_pos (by omega)]
   exact Dr.mk (by omega) (by omega) (hB.set hz.sm.bu m2 m3)
  split
  ·first | rw [if_pos (ap_le (by simp; omega))] | rw [if_pos x0, if_pos x1, if_pos (ap_le (by simp; omega))]
   exact Dr.mk (by omega) (by omega) (hB.snoc (by omega) m1 m2 m3)
  ·exact Dr.mk (by omega) (by omega) hB
theorem DrawNetAt_ok {n : Nat} (hn : 4194304 + 40 ≤ n) {code : List Int} (hl : code.length ≤ 1048576) (hc : ∀ x ∈ code, 0 ≤ x ∧ x ≤ 255) : ∃ l u, cs_DrawNetAt n code = some (l, u, ()) ∧ BN l ∧ BU u := by
 obtain ⟨m, rfl⟩ := sn hn
 rw [es_DrawNetAt]; unfold ms_DrawNetAt
 obtain ⟨b, B, e0⟩ := open_ok (n := m) (by omega) hl hc
 obtain ⟨l, q, e1, a1, a2, hJ⟩ := anynet_dr (n := m) (by omega) B
 obtain ⟨u, q1, e2, b1, b2, hU⟩ := anyhome_dr (n := m) (p := q) (by omega) B (by omega) (by omega)
 exact ⟨l, u, by simp only [e0, e1, e2, Option.bind_some], hJ, hU.sm.bu⟩
theorem law_FnNetAt {n : Nat} (hn : 4194304 + 60 ≤ n) {code : List Int} (hc : ∀ x ∈ code, 0 ≤ x ∧ x ≤ 255) : cl_FnNetAt n code = some (true, ()) := by
 obtain ⟨m, rfl⟩ := sn hn
 rw [el_FnNetAt]; unfold ml_FnNetAt
 rw [bif_dec]
 split
 ·rfl
 rename_i hl
 obtain ⟨l, u, ed, B, hU⟩ := DrawNetAt_ok (n := m) (code := code) (by omega) (by omega) hc
 have hlen := B.len
 simp only [ed, impl_NetAt_ok (n := m) (by omega) B hU, spec_NetAt_ok (n := m) (by omega) B hU, impl_NetOk_ok (n := m) (by omega) B, spec_NetOk_ok (n := m) (by omega) B, Option.bind_some, decide_true, Bool.not_true, cond_false, cond_true, beq_self_eq_true]
 cases hok : okNet l with
 | false => rfl
 | true =>
 simp only [Bool.not_true, cond_false]
 refine loopS l (fun _ i st r => st = ((i : Int), ()) ∧ r = (true, ())) ?_ ?_ ⟨rfl, rfl⟩ (by omega)
 ·rintro st r self ⟨rfl, rfl⟩
  unfold ml_FnNetAt.l0
  simp only [bif_dec, grd_dec]
  rw [if_neg (by omega)]
  split
  ·rfl
  ·rename_i hneg
   unfold netAtM at hneg ⊢
   by_cases hu : okNet l = true ∧ okU u = true
   case neg => rw [if_neg hu] at hneg; omega
   rw [if_pos hu] at hneg ⊢
   unfold pageM at hneg ⊢
   cases hf : l.findIdx? (fun p => keyU p.1 == keyU u) with
   | none => rw [hf] at hneg; exact absurd hneg (by decide)
   | some k =>
    rw [List.findIdx?_eq_some_iff_getElem] at hf
    obtain ⟨hk, hkey, _⟩ := hf
    have hp : l[k]? = some l[k] := List.getElem?_eq_getElem hk
    generalize l[k] = p at hp hkey
    have hop := net_in hok hp
    have e : (idxV (some k)) = (k : Int) := rfl
    rw [e, if_pos (by omega), if_pos (by omega), Int.toNat_natCast, getD_get dPage hp, impl_UrlSame_ok (by omega) (B.url _ (List.mem_of_getElem? hp)) hU]
    have hb : baseU p.1 = baseU u := (put_inj (ok_base hop) (ok_base hu.2)).1 (beq_iff_eq.1 hkey)
    unfold sameU
    rw [hop, hu.2, hb, eqU_refl]; rfl
 ·rintro p L i st r self _ hi hp ⟨rfl, rfl⟩ ih
  unfold ml_FnNetAt.l0
  have hop := net_in hok hp
  have hub := B.url _ (List.mem_of_getElem? hp)
  have k1 : (0 : Int) ≤ (i : Int) := by omega
  have k2 : (i : Int) < (l.length : Int) := by omega
  have hfrag : BU (p.1.1, p.1.2.1, p.1.2.2.1, p.1.2.2.2.1, p.1.2.2.2.2.1, p.1.2.2.2.2.2.1, p.1.2.2.2.2.2.2.1, p.1.2.2.2.2.2.2.2.1, p.1.2.2.2.2.2.2.2.2.1, true, ([101] : Bs), ()) := by
   have hbz := bu_base hub
   have hq := get_bu ((okU_iff p.1).1 hop)
   refine ⟨?_, hub.2⟩
   have hsm := (get_small ((okU_iff p.1).1 hop)).1
   unfold szU at hsm ⊢
   simp only [List.length_cons, List.length_nil]
   omega
  have n1 : netAtM l p.1 = (i : Int) := by unfold netAtM; rw [if_pos ⟨hok, hop⟩]; exact net_self hok hp rfl
  simp only [bif_dec, grd_dec, Int.toNat_natCast, getD_get dPage hp, k1, k2, if_true, impl_NetAt_ok (n := m) (by omega) B hub, n1, Option.bind_some, decide_true, Bool.not_true, cond_false]
  rw [impl_UrlOk_ok (by omega) hfrag]
  simp only [Option.bind_some]
  generalize hv : (p.1.1, p.1.2.1, p.1.2.2.1, p.1.2.2.2.1, p.1.2.2.2.2.1, p.1.2.2.2.2.2.1, p.1.2.2.2.2.2.2.1, p.1.2.2.2.2.2.2.2.1, p.1.2.2.2.2.2.2.2.2.1, true, ([101] : Bs), ()) = v at hfrag ⊢
  have n2 : okU v = true → netAtM l v = (i : Int) := fun h => by
   unfold netAtM; rw [if_pos ⟨hok, h⟩]; exact net_self hok hp (by rw [← hv]; rfl)
  cases hvo : okU v with
  | false => rw [cond_false, w_i (by omega)]; exact ih _ ⟨rfl, rfl⟩
  | true =>
   rw [cond_true, impl_NetAt_ok (by omega) B hfrag, n2 hvo]
   simp only [Option.bind_some, decide_true, Bool.not_true, cond_false, w_i (show i ≤ 4000000 by omega)]
   exact ih _ ⟨rfl, rfl⟩
end Go.VM.T
