/- The plain law: what the models compute answers as the statement says. -/
import Derived.Test.YtledackmlmokeaaGreatDoorX7
set_option linter.unusedVariables false
set_option linter.unusedSimpArgs false
namespace Go.VM.T
open Go Go.VM
theorem law_FnUrlBase {n : Nat} (hn : 4194304 + 50 ≤ n) {code : List Int} (hc : ∀ x ∈ code, 0 ≤ x ∧ x ≤ 255) : c_laws_FnUrlBase n code = some (true, ()) := by
  obtain ⟨m, rfl⟩ := sn hn
  rw [eq_laws_FnUrlBase]; unfold m_laws_FnUrlBase
  simp only [bif_dec]
  split
  · rfl
  rename_i hl
  obtain ⟨u, e, hu⟩ := DrawUrlBase_ok (n := m) (code := code) (by omega) ⟨by omega, hc⟩
  have B := hu.bu
  simp only [e, Option.bind_some, impl_UrlBase_ok (n := m) (by omega) B, spec_UrlBase_ok (n := m) (by omega) B, guUrl_refl (n := m) (by omega) (base_bu B), spec_UrlOk_ok (n := m) (by omega) B, Bool.not_true, cond_false]
  cases ho : okU u with
  | false => rfl
  | true =>
    have hb : baseR u = baseU u := by unfold baseR; rw [if_pos ho]
    have Bb := BU_base B
    have hob := ok_base ho
    have hbb : baseR (baseU u) = baseU u := by unfold baseR; rw [if_pos hob]; rfl
    have e2 := guUrl_refl (n := m) (by omega) Bb
    have hs : sameU (baseU u) u = true := by
      unfold sameU
      rw [hob, ho, base_base, eqU_refl]; rfl
    simp only [hb, Bool.not_true, cond_false, Option.bind_some]
    rw [show (u.1, u.2.1, u.2.2.1, u.2.2.2.1, u.2.2.2.2.1, u.2.2.2.2.2.1, u.2.2.2.2.2.2.1, u.2.2.2.2.2.2.2.1, u.2.2.2.2.2.2.2.2.1, false, ([] : Bs), ()) = baseU u from rfl, e2]
    simp only [Option.bind_some, cond_true, impl_UrlOk_ok (n := m) (by omega) Bb, hob, impl_UrlBase_ok (n := m) (by omega) Bb, hbb, e2, impl_UrlSame_ok (n := m) (by omega) Bb B, hs]
theorem same_comm (a b : TUrl) : sameU b a = sameU a b := by
  unfold sameU
  cases okU a <;> cases okU b <;> simp
  rw [Bool.eq_iff_iff, eqU_iff, eqU_iff]
  exact eq_comm
theorem law_FnUrlSame {n : Nat} (hn : 4194304 + 50 ≤ n) {code : List Int} (hc : ∀ x ∈ code, 0 ≤ x ∧ x ≤ 255) : c_laws_FnUrlSame n code = some (true, ()) := by
  obtain ⟨m, rfl⟩ := sn hn
  rw [eq_laws_FnUrlSame]; unfold m_laws_FnUrlSame
  simp only [bif_dec]
  split
  · rfl
  rename_i hl
  obtain ⟨u, v, e, hu, hv⟩ := DrawUrlSame_ok (n := m) (code := code) (by omega) ⟨by omega, hc⟩
  have U := hu.bu
  have V := hv.bu
  simp only [e, Option.bind_some, impl_UrlSame_ok (n := m) (by omega) U V, impl_UrlSame_ok (n := m) (by omega) V U, impl_UrlSame_ok (n := m) (by omega) U U, spec_UrlSame_ok (n := m) (by omega) U V, same_comm u v, spec_UrlOk_ok (n := m) (by omega) U, spec_UrlOk_ok (n := m) (by omega) V,
    impl_UrlBase_ok (n := m) (by omega) U, impl_UrlBase_ok (n := m) (by omega) V, guUrl_ok (n := m) (by omega) (u := baseR u) (v := baseR v) (BU_path4 (base_bu U)), impl_UrlPut_ok (n := m) (by omega) (base_bu U), impl_UrlPut_ok (n := m) (by omega) (base_bu V), beq_self_eq_true, Bool.not_true, cond_false]
  cases hou : okU u with
  | false => simp
  | true =>
    cases hov : okU v with
    | false => simp
    | true =>
      have h1 : baseR u = baseU u := by unfold baseR; rw [if_pos hou]
      have h2 : baseR v = baseU v := by unfold baseR; rw [if_pos hov]
      have o1 := ok_base hou
      have o2 := ok_base hov
      have s1 : sameU u v = eqU (baseU u) (baseU v) := by unfold sameU; rw [hou, hov]; simp
      have s2 : sameU u u = true := by unfold sameU; rw [hou, eqU_refl]; rfl
      have s3 : (putM (baseU u) == putM (baseU v)) = eqU (baseU u) (baseU v) := by
        rw [Bool.eq_iff_iff, eqU_iff, beq_iff_eq]; exact put_inj o1 o2
      simp [h1, h2, o1, o2, s1, s2, s3]
end Go.VM.T
