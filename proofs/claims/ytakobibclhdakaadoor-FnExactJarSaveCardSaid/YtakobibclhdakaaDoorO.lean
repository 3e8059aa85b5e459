import Derived.Test.YtakobibclhdakaaDoorY
import Derived.SliceStrings
import Derived.DataElems
import Derived.OpenShut
namespace Go.Proofs.YtakobibclhdakaaDoorO
open Go.ChangeShapes Go.WideShapes Go.RowKit Go.Proofs.YtakobibclhdakaaDoorW.PrintWords
section
variable {H : Type} {enc : TypeId × Value → H} {P : Program} {w : World} {base : Nat} {spare : Nat → Bool} {held : Bool}
/-- What reads as data of type t is a value of kind k, and g holds of it. -/
def Opens (enc : TypeId × Value → H) (P : Program) (w : World) (base : Nat) (spare : Nat → Bool) (held : Bool) (t : TypeId) {α : Type} (k : Kd α) (g : α → Prop) : Prop :=
  ∀ fuel cs x, DataW.trod enc P w base spare held fuel t cs = some x → ∃ a, k.K w a cs ∧ g a
def GInt (n : Int) : Prop := -9223372036854775808 ≤ n ∧ n ≤ 9223372036854775807
def GStr (s : ByteArray) : Prop := s.size ≤ 9223372036854775807
def GList {α : Type} (g : α → Prop) (l : List α) : Prop := l.length ≤ 9223372036854775807 ∧ ∀ a ∈ l, g a
theorem opens_int {t : TypeId} (ht : P.underlying t = some (.int .i64)) : Opens enc P w base spare held t (Kd.int .i64) GInt := by
  intro fuel cs x h
  obtain ⟨n, rfl, _, hw⟩ := DataW.trod_int ht h
  refine ⟨n, rfl, ?_⟩
  simp [Lit.wf] at hw
  have e1 : IntKind.i64.min = -9223372036854775808 := by decide
  have e2 : IntKind.i64.max = 9223372036854775807 := by decide
  unfold GInt
  omega
theorem opens_byte {t : TypeId} (ht : P.underlying t = some (.int .u8)) : Opens enc P w base spare held t (Kd.int .u8) (fun n => 0 ≤ n ∧ n ≤ 255) := by
  intro fuel cs x h
  obtain ⟨n, rfl, _, hw⟩ := DataW.trod_int ht h
  refine ⟨n, rfl, ?_⟩
  simp [Lit.wf] at hw
  have e1 : IntKind.u8.min = 0 := by decide
  have e2 : IntKind.u8.max = 255 := by decide
  omega
theorem opens_bool {t : TypeId} (ht : P.underlying t = some .bool) : Opens enc P w base spare held t Kd.bool (fun _ => True) := by
  intro fuel cs x h
  obtain ⟨b, rfl, _⟩ := DataW.trod_bool ht h
  exact ⟨b, rfl, trivial⟩
theorem opens_string {t : TypeId} (ht : P.underlying t = some .string) : Opens enc P w base spare held t Kd.string GStr := by
  intro fuel cs x h
  obtain ⟨s, rfl, _, hs⟩ := DataW.trod_string ht h
  exact ⟨s, rfl, hs⟩
/-- A list out of what each place holds. -/
theorem list_of {α : Type} (n : Nat) (R : Nat → α → Prop) (h : ∀ i, i < n → ∃ a, R i a) : ∃ l : List α, l.length = n ∧ ∀ i a, l[i]? = some a → R i a := by
  induction n with
  | zero => exact ⟨[], rfl, fun i a h => by simp at h⟩
  | succ n ih =>
    obtain ⟨l, hl, hr⟩ := ih (fun i hi => h i (by omega))
    obtain ⟨a, ha⟩ := h n (by omega)
    refine ⟨l ++ [a], by simp [hl], fun i b hb => ?_⟩
    rcases Nat.lt_or_ge i n with hi | hi
    · rw [List.getElem?_append_left (by omega)] at hb
      exact hr i b hb
    · rw [List.getElem?_append_right (by omega)] at hb
      have hin : i = n := by
        have := (List.getElem?_eq_some_iff.1 hb).1
        simp at this
        omega
      subst hin
      rw [hl, Nat.sub_self] at hb
      obtain rfl := Option.some.inj hb
      exact ha
theorem opens_slice {t e : TypeId} {α : Type} {k : Kd α} {g : α → Prop} (ht : P.underlying t = some (.slice e)) (hc : P.cellsOf e = k.sz) (he : Opens enc P w base spare held e k g) :
    Opens enc P w base spare held t (Kd.slice e k) (GList g) := by
  intro fuel cs x h
  rcases DataW.trod_slice ht h with ⟨rfl, _⟩ | ⟨a, len, cap, elems, rest, n, _, rfl, rfl, hb, hl, hm, hlen, hel, hsp, hns⟩
  · refine ⟨[], ⟨none, 0, rfl, Nat.le_refl _, ?_⟩, by simp, fun a ha => by cases ha⟩
    exact Kd.C_nil k w
  · have each : ∀ i, i < len → ∃ y, (∃ c, w.cells? base (a.add (i * P.cellsOf e)) (P.cellsOf e) = some c ∧ k.K w y c) ∧ g y := by
      intro i hi
      have h1 := hel i hi
      have h2 : elems[i]? = some (elems[i]'(by omega)) := List.getElem?_eq_getElem _
      rw [h2, Option.bind_eq_some_iff] at h1
      obtain ⟨c, hc1, hc2⟩ := h1
      obtain ⟨y, hy, hg⟩ := he _ _ _ hc2
      exact ⟨y, ⟨c, hc1, hy⟩, hg⟩
    obtain ⟨l, hl1, hl2⟩ := list_of len _ each
    subst hl1
    refine ⟨l, ⟨some a, cap, rfl, hl, ?_⟩, ?_, ?_⟩
    · refine ⟨rfl, by unfold maxLen at hm; omega, fun _ => ⟨a, rfl, fun j p hj => ?_⟩⟩
      obtain ⟨⟨c, hc1, hK⟩, _⟩ := hl2 j p hj
      refine ⟨c, k.K_len hK, hK, fun i u hu => ?_⟩
      unfold World.cells? at hc1
      split at hc1
      · have hi : i < P.cellsOf e := by
          have := mapM_some_length hc1
          have := (List.getElem?_eq_some_iff.1 hu).1
          simp at *
          omega
        have := mapM_some_get hc1 i i (by simp [hi])
        rw [Addr.add_add, hc] at this
        rw [this, hu]
      · cases hc1
    · unfold maxLen at hm; omega
    · intro y hy
      obtain ⟨i, hi⟩ := List.getElem?_of_mem hy
      exact (hl2 i y hi).2
theorem pair_at {α β : Type} {k0 : Kd α} {k1 : Kd β} {a0 : α} {a1 : β} {cs : List Value} (o s0 s1 : Nat) (h0 : k0.K w a0 ((cs.drop o).take s0)) (h1 : k1.K w a1 ((cs.drop (o + s0)).take s1)) :
    (Kd.pair k0 k1).K w (a0, a1) ((cs.drop o).take (s0 + s1)) := by
  refine ⟨_, _, ?_, h0, h1⟩
  rw [List.take_add, List.drop_drop]
theorem pop {cs : List Value} {n : Nat} (h : cs.length = n + 1) : ∃ z l, cs = z :: l ∧ l.length = n := by
  cases cs with
  | nil => cases h
  | cons z l => exact ⟨z, l, rfl, by simpa using h⟩
theorem all_of {cs : List Value} {n : Nat} (h : cs.length = n) : (cs.drop 0).take n = cs := by rw [List.drop_zero, ← h, List.take_length]
theorem some_at {α : Type} {l : List α} {n i : Nat} (h : l.length = n) (hi : i < n) : ∃ y, l[i]? = some y := ⟨l[i], List.getElem?_eq_getElem _⟩
end
end Go.Proofs.YtakobibclhdakaaDoorO
