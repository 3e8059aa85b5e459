/- What the law FnExactJarSave says of lists and numbers: the printed functions answer as told. -/
import Derived.Test.YtakobibclhdakaaDoorPFnExactJarSavex
import Derived.Test.YtakobibclhdakaaDoorO
import Derived.Lib.CountLaws
import Derived.Lib.ItoaLen
import Derived.Lib.ItoaMem
import Derived.Lib.Join
import Derived.Lib.SplitLaws

namespace Go.Proofs.YtakobibclhdakaaDoor.Pure
open Go.RowKit Go.Proofs.YtakobibclhdakaaDoorW.PrintWords Go.Proofs.YtakobibclhdakaaDoorG Go.Proofs.YtakobibclhdakaaDoorO Go.Proofs.YtakobibclhdakaaDoor.PFnExactJarSave
set_option linter.unusedVariables false
set_option linter.unusedSimpArgs false
/-! ### bytes, rounds, rows -/
abbrev Bs := List UInt8
def B (s : ByteArray) : Bs := s.data.toList
def mkB (l : Bs) : ByteArray := ⟨l.toArray⟩
theorem B_mkB (l : Bs) : B (mkB l) = l := by simp [B, mkB]
theorem mkB_B (s : ByteArray) : mkB (B s) = s := by cases s; simp [B, mkB]
theorem B_inj {a b : ByteArray} (h : B a = B b) : a = b := by rw [← mkB_B a, h, mkB_B]
theorem mkB_inj {a b : Bs} (h : mkB a = mkB b) : a = b := by rw [← B_mkB a, h, B_mkB]
theorem B_len (s : ByteArray) : (B s).length = s.size := by simp [B]
theorem mkB_size (l : Bs) : (mkB l).size = l.length := by rw [← B_len, B_mkB]
theorem tl_B (s : ByteArray) : s.toList = B s := ByteArray.toList_eq s
theorem B_ext (s : ByteArray) (a b : Nat) : B (s.extract a b) = ((B s).take b).drop a := by
  simp [B, ByteArray.data_extract, List.drop_take]
theorem ext_mkB (s : ByteArray) (a b : Nat) : s.extract a b = mkB (((B s).take b).drop a) := by rw [← B_ext, mkB_B]
theorem ext_end (s : ByteArray) (a : Nat) : s.extract a s.size = mkB ((B s).drop a) := by rw [ext_mkB, ← B_len, List.take_length]
theorem B_app (a b : ByteArray) : B (a ++ b) = B a ++ B b := by simp [B]
theorem mkB_app (a b : Bs) : mkB a ++ mkB b = mkB (a ++ b) := B_inj (by rw [B_app, B_mkB, B_mkB, B_mkB])
theorem B_empty : B ByteArray.empty = [] := rfl
theorem mkB_nil : mkB [] = ByteArray.empty := rfl
theorem bt_get (s : ByteArray) (i : Nat) (c : UInt8) (h : (B s)[i]? = some c) : bt s (i : Int) = (c.toNat : Int) := by
  obtain ⟨hl, hc⟩ := List.getElem?_eq_some_iff.1 h
  have hs : i < s.size := by rw [← B_len]; exact hl
  unfold bt
  rw [dif_pos (by simpa using hs)]
  have : s[i] = c := by rw [← hc]; rfl
  simp [this]
theorem at_cons {s : ByteArray} {i : Nat} {c : UInt8} {l : Bs} (h : (B s).drop i = c :: l) : i < s.size ∧ bt s (i : Int) = (c.toNat : Int) ∧ (B s).drop (i + 1) = l ∧ (B s)[i]? = some c := by
  have h1 : (B s)[i]? = some c := by rw [← List.head?_drop, h]; rfl
  have h2 : i < s.size := by rw [← B_len]; exact (List.getElem?_eq_some_iff.1 h1).1
  refine ⟨h2, bt_get s i c h1, ?_, h1⟩
  rw [← List.drop_drop, h]; rfl
theorem at_nil {s : ByteArray} {i : Nat} (hi : i ≤ s.size) (h : (B s).drop i = []) : i = s.size := by
  rw [List.drop_eq_nil_iff, B_len] at h
  omega
theorem w64 {x : Int} (h1 : -9223372036854775808 ≤ x) (h2 : x ≤ 9223372036854775807) : wrap64 x = x := by unfold wrap64; omega
theorem w_succ (i : Nat) (h : i < 9223372036854775807) : wrap64 ((i : Int) + 1) = ((i + 1 : Nat) : Int) := by rw [w64 (by omega) (by omega)]; omega
theorem w_pred (i : Nat) (h1 : 1 ≤ i) (h : i ≤ 9223372036854775807) : wrap64 ((i : Int) - 1) = ((i - 1 : Nat) : Int) := by rw [w64 (by omega) (by omega)]; omega
theorem rdOf_get {α : Type} (d : α) (l : List α) (i : Nat) (a : α) (h : l[i]? = some a) : rdOf d l (i : Int) = a := by
  simp [rdOf, List.getD, h]
theorem get_cons {α : Type} {l : List α} {i : Nat} {c : α} {r : List α} (h : l.drop i = c :: r) : i < l.length ∧ l[i]? = some c ∧ l.drop (i + 1) = r := by
  have h1 : l[i]? = some c := by rw [← List.head?_drop, h]; rfl
  refine ⟨(List.getElem?_eq_some_iff.1 h1).1, h1, ?_⟩
  rw [← List.drop_drop, h]; rfl
theorem get_nil {α : Type} {l : List α} {i : Nat} (hi : i ≤ l.length) (h : l.drop i = []) : i = l.length := by
  rw [List.drop_eq_nil_iff] at h
  omega
theorem Ev.cst {α : Type} {g : Option α} {r : α} (h : g = some r) : Ev (fun _ => g) r := by rw [h]; exact Ev.now r
/-- A step of a loop, and what it comes to. -/
theorem Ev.up {α : Type} {g f : Nat → Option α} {r : α} (k : Ev f r) (h : ∀ k, g (k + 1) = f k) : Ev g r := Ev.step h k
theorem Ev.eq {α : Type} {g f : Nat → Option α} {r : α} (k : Ev f r) (h : ∀ k, g k = f k) : Ev g r := Ev.congr h k
theorem Ev.bindc {α β : Type} {g : Option α} {f : Nat → α → Option β} {a : α} {r : β} (h : g = some a) (k : Ev (fun n => f n a) r) : Ev (fun n => g.bind (f n)) r := by
  subst h; exact k
theorem nat_eq {a b : UInt8} : ((a.toNat : Int) = (b.toNat : Int)) ↔ a = b := by
  rw [← UInt8.toNat_inj]; omega
theorem byte_lt (c : UInt8) : c.toNat < 256 := c.toNat_lt
/-! ### a text cut at a byte -/
def cutM (c : UInt8) : Bs → List Bs
  | [] => [[]]
  | x :: l => if x = c then [] :: cutM c l else (x :: (cutM c l).headD []) :: (cutM c l).tail
theorem cutM_ne (c : UInt8) (l : Bs) : cutM c l = (cutM c l).headD [] :: (cutM c l).tail := by
  cases l with
  | nil => rfl
  | cons x l => unfold cutM; split <;> rfl
theorem cutM_len (c : UInt8) : ∀ l : Bs, (cutM c l).length ≤ l.length + 1
  | [] => by simp [cutM]
  | x :: l => by
    have ih := cutM_len c l
    rw [cutM_ne c l] at ih
    unfold cutM
    split
    · rw [cutM_ne c l]; simp at *; omega
    · simp at *; omega
theorem cutM_none (c : UInt8) : ∀ l : Bs, c ∉ l → cutM c l = [l]
  | [], _ => rfl
  | x :: l, h => by
    have h1 : x ≠ c := fun e => h (by simp [e])
    have h2 : c ∉ l := fun e => h (by simp [e])
    unfold cutM
    rw [if_neg h1, cutM_none c l h2]
    rfl
theorem cutM_app (c : UInt8) : ∀ a b : Bs, c ∉ a → cutM c (a ++ c :: b) = a :: cutM c b
  | [], b, _ => by simp [cutM]
  | x :: a, b, h => by
    have h1 : x ≠ c := fun e => h (by simp [e])
    have h2 : c ∉ a := fun e => h (by simp [e])
    have ih := cutM_app c a b h2
    show cutM c (x :: (a ++ c :: b)) = _
    rw [cutM, if_neg h1, ih]
    rfl
theorem cutM_mem (c : UInt8) : ∀ (l p : Bs), p ∈ cutM c l → (c ∉ p) ∧ (∀ x ∈ p, x ∈ l)
  | [], p, h => by simp [cutM] at h; subst h; simp
  | x :: l, p, h => by
    unfold cutM at h
    split at h
    · rcases List.mem_cons.1 h with rfl | h
      · simp
      · have := cutM_mem c l p h
        exact ⟨this.1, fun y hy => by simp [this.2 y hy]⟩
    · rename_i hx
      have hn := cutM_ne c l
      rcases List.mem_cons.1 h with rfl | h
      · have := cutM_mem c l ((cutM c l).headD []) (by rw [hn]; simp)
        refine ⟨fun e => ?_, fun y hy => ?_⟩
        · rcases List.mem_cons.1 e with e | e
          · exact hx e.symm
          · exact this.1 e
        · rcases List.mem_cons.1 hy with e | e
          · simp [e]
          · simp [this.2 y e]
      · have := cutM_mem c l p (by rw [hn]; simp [h])
        exact ⟨this.1, fun y hy => by simp [this.2 y hy]⟩
theorem cutM_all (c : UInt8) (f : UInt8 → Bool) : ∀ l : Bs, ((cutM c l).all fun p => p.all f) = l.all fun x => x == c || f x
  | [] => rfl
  | x :: l => by
    have ih := cutM_all c f l
    rw [cutM_ne c l] at ih
    simp only [List.all_cons] at ih
    unfold cutM
    by_cases h : x = c
    · subst h
      rw [if_pos rfl, cutM_ne x l]
      simp [← ih]
    · rw [if_neg h]
      rw [List.all_cons, List.all_cons, List.all_cons, ← ih]
      have : (x == c) = false := by simpa using h
      rw [this, Bool.false_or, Bool.and_assoc]
theorem first_of (c : UInt8) : ∀ l : Bs, c ∈ l → ∃ a b, l = a ++ c :: b ∧ c ∉ a
  | [], h => by cases h
  | x :: l, h => by
    by_cases e : x = c
    · exact ⟨[], l, by simp [e], by simp⟩
    · obtain ⟨a, b, rfl, ha⟩ := first_of c l (by
        rcases List.mem_cons.1 h with r | r
        · exact absurd r.symm e
        · exact r)
      refine ⟨x :: a, b, rfl, fun r => ?_⟩
      rcases List.mem_cons.1 r with r | r
      · exact e r.symm
      · exact ha r
theorem split_all (c : UInt8) : ∀ (n : Nat) (l : Bs), l.length ≤ n → Lib.splitK [c] 0 (Lib.count l [c]) l = cutM c l
  | n, l, hn => by
    by_cases hc : c ∈ l
    · obtain ⟨a, b, rfl, ha⟩ := first_of c l hc
      have hi : Lib.index (a ++ c :: b) [c] = (a.length : Int) := by
        apply Lib.index_first (by simp)
        · simp [Lib.occAt]
        · intro j hj
          have : (a ++ c :: b).drop j = a.drop j ++ c :: b := by rw [List.drop_append_of_le_length (by omega)]
          simp only [Lib.occAt, this]
          have h2 : ∃ y r, a.drop j = y :: r := by
            cases h : a.drop j with
            | nil => rw [List.drop_eq_nil_iff] at h; omega
            | cons y r => exact ⟨y, r, rfl⟩
          obtain ⟨y, r, h2⟩ := h2
          rw [h2]
          have : y ≠ c := fun e => ha (by
            have : y ∈ a.drop j := by rw [h2]; simp
            exact e ▸ List.mem_of_mem_drop this)
          simp [List.isPrefixOf, Ne.symm this]
      have hd : (a ++ c :: b).drop (a.length + 1) = b := by
        rw [← List.drop_drop, List.drop_left]; rfl
      rw [Lib.count_hit (by simp) hi, show [c].length = 1 from rfl, hd, Nat.add_comm, cutM_app c a b ha]
      unfold Lib.splitK
      rw [hi]
      have : ¬ (((a.length : Nat) : Int) == -1) = true := by simp
      rw [if_neg this]
      have h3 : ((a.length : Nat) : Int).toNat = a.length := by omega
      simp only [h3, List.length_singleton, Nat.add_zero, hd]
      have ht : (a ++ c :: b).take a.length = a := List.take_left
      cases n with
      | zero => simp at hn
      | succ n => rw [ht, split_all c n b (by simp at hn; omega)]
    · have hi : Lib.index l [c] = -1 := by
        apply Lib.index_none
        intro j _
        simp only [Lib.occAt]
        cases h : l.drop j with
        | nil => rfl
        | cons y r =>
          have : y ≠ c := fun e => hc (by
            have : y ∈ l.drop j := by rw [h]; simp
            exact e ▸ List.mem_of_mem_drop this)
          simp [List.isPrefixOf, Ne.symm this]
      rw [Lib.count_miss hi, cutM_none c l hc]
      rfl
theorem splitB_cut (c : UInt8) (s : ByteArray) : Lib.splitB (⟨#[c]⟩ : ByteArray) 0 (Lib.countB s ⟨#[c]⟩) s = (cutM c (B s)).map mkB := by
  have h := Lib.splitB_data ⟨#[c]⟩ 0 (Lib.countB s ⟨#[c]⟩) s
  have h2 : Lib.countB s ⟨#[c]⟩ = Lib.count (B s) [c] := rfl
  rw [show (⟨#[c]⟩ : ByteArray).data.toList = [c] from rfl, show s.data.toList = B s from rfl, h2, split_all c _ (B s) (Nat.le_refl _)] at h
  rw [h2, ← h, List.map_map]
  conv => lhs; rw [← List.map_id (Lib.splitB _ _ _ _)]
  apply List.map_congr_left
  intro x _
  exact (mkB_B x).symm
/-! ### labels, host names, numbers: the models -/
def labelsM (l : Bs) : List Bs := if 1 < (cutM 46 l).length ∧ (cutM 46 l).getLast? = some [] then (cutM 46 l).dropLast else cutM 46 l
def nb (c : UInt8) : Bool := (decide (97 ≤ c.toNat) && decide (c.toNat ≤ 122)) || (decide (48 ≤ c.toNat) && decide (c.toNat ≤ 57)) || c == 45 || c == 95
def isNameM (l : Bs) : Bool := (l.all fun c => c == 46 || nb c) && decide (1 ≤ l.length) && decide (l.length ≤ 60) && !(labelsM l).contains []
def digB (c : UInt8) : Bool := decide (48 ≤ c.toNat) && decide (c.toNat ≤ 57)
def hexM (c : UInt8) : Int := if 48 ≤ c.toNat ∧ c.toNat ≤ 57 then (c.toNat : Int) - 48 else if 97 ≤ c.toNat ∧ c.toNat ≤ 102 then (c.toNat : Int) - 87 else if 65 ≤ c.toNat ∧ c.toNat ≤ 70 then (c.toNat : Int) - 55 else -1
def digM (b : Int) : Int → Bs → Option Int
  | n, [] => some n
  | n, c :: l => if hexM c < 0 ∨ b ≤ hexM c ∨ 4294967295 < n then none else digM b (n * b + hexM c) l
def isHex (l : Bs) : Bool := match l with
  | 48 :: c :: _ => c == 120 || c == 88
  | _ => false
def lnumM (l : Bs) : Option Int :=
  if l = [] then none else if isHex l = true then digM 16 0 (l.drop 2) else if l.head? = some 48 ∧ 1 < l.length then digM 8 0 (l.drop 1) else digM 10 0 l
def endsM (l : Bs) : Bool :=
  let last := (labelsM l).getLast?.getD []
  if last = [] then false else if isHex last = true then (lnumM last).isSome else last.all digB
def plainM (l : Bs) : Bool := isNameM l && !endsM l
theorem hexM_range (c : UInt8) : -1 ≤ hexM c ∧ hexM c ≤ 15 := by
  unfold hexM
  have := byte_lt c
  repeat' split
  all_goals omega
theorem cut_len_pos (c : UInt8) (l : Bs) : 1 ≤ (cutM c l).length := by rw [cutM_ne]; simp
theorem labels_ne (l : Bs) : labelsM l ≠ [] := by
  unfold labelsM
  split
  · rename_i h
    intro e
    have := congrArg List.length e
    simp at this
    omega
  · rw [cutM_ne]; simp
theorem labels_last (l : Bs) : ∃ p, (labelsM l).getLast? = some p ∧ p = (labelsM l).getLast?.getD [] := by
  cases h : (labelsM l).getLast? with
  | none => exact absurd (List.getLast?_eq_none_iff.1 h) (labels_ne l)
  | some p => exact ⟨p, rfl, rfl⟩
theorem labels_len (l : Bs) : (labelsM l).length ≤ l.length + 1 := by
  have := cutM_len 46 l
  unfold labelsM
  split
  · simp; omega
  · exact this
theorem labels_mem (l p : Bs) (h : p ∈ labelsM l) : p ∈ cutM 46 l := by
  unfold labelsM at h
  split at h
  · exact List.mem_of_mem_take (by rw [← List.dropLast_eq_take]; exact h)
  · exact h
/-! ### labels, host names, numbers: what the printed functions answer -/
theorem in_spec (a b c : Int) : spec_l1In.f a b c = some (decide (b ≤ a ∧ a ≤ c)) := by
  unfold spec_l1In.f
  split
  · congr 1; simp; omega
  · congr 1; simp; omega
theorem l1Cut_go (s : ByteArray) (c : UInt8) (hs : s.size < 4294967281) : ∀ (l : Bs) (out : List ByteArray) (fr i : Nat), (B s).drop i = l → fr ≤ i → i ≤ s.size → out.length ≤ i →
    Ev (fun k => spec_l1Cut.l0 k s (c.toNat : Int) out (fr : Int) (i : Int)) (out ++ (((((B s).take i).drop fr ++ (cutM c l).headD []) :: (cutM c l).tail).map mkB))
  | [], out, fr, i, hl, hf, hi, ho => by
    obtain rfl := at_nil hi hl
    refine Ev.up (f := fun _ => some (out ++ [s.extract fr s.size])) ?_ (fun k => ?_)
    · rw [ext_end]
      have : (B s).take s.size = B s := by rw [← B_len, List.take_length]
      simp only [cutM, this, List.headD, List.append_nil, List.tail, List.map]
      exact Ev.now _
    · simp only [spec_l1Cut.l0]
      rw [if_neg (by omega), if_pos (by omega), if_pos (by omega), if_pos (by omega), show ((fr : Int)).toNat = fr by omega]
  | x :: l, out, fr, i, hl, hf, hi, ho => by
    obtain ⟨h1, h2, h3, h4⟩ := at_cons hl
    have hw := w_succ i (by omega)
    by_cases hx : x = c
    · have ih := l1Cut_go s c hs l (out ++ [s.extract fr i]) (i + 1) (i + 1) h3 (by omega) (by omega) (by simp; omega)
      subst hx
      have e : out ++ List.map mkB ((List.drop fr (List.take i (B s)) ++ (cutM x (x :: l)).headD []) :: (cutM x (x :: l)).tail) = (out ++ [s.extract fr i]) ++ List.map mkB ((List.drop (i + 1) (List.take (i + 1) (B s)) ++ (cutM x l).headD []) :: (cutM x l).tail) := by
        have e1 : cutM x (x :: l) = [] :: cutM x l := by simp [cutM]
        have e2 : List.drop (i + 1) (List.take (i + 1) (B s)) = [] := List.drop_eq_nil_of_le (by simp; omega)
        rw [e1, e2, ext_mkB, List.nil_append, ← cutM_ne]
        simp
      rw [e]
      refine Ev.up ih (fun k => ?_)
      simp only [spec_l1Cut.l0]
      rw [if_pos (by omega), if_pos (by omega), if_pos h2, if_pos (by omega), if_pos (by omega), if_pos (by omega), if_pos (by omega), hw, show ((fr : Int)).toNat = fr by omega, show ((i : Int)).toNat = i by omega]
    · have ih := l1Cut_go s c hs l out fr (i + 1) h3 (by omega) (by omega) (by omega)
      have e : out ++ List.map mkB ((List.drop fr (List.take i (B s)) ++ (cutM c (x :: l)).headD []) :: (cutM c (x :: l)).tail) = out ++ List.map mkB ((List.drop fr (List.take (i + 1) (B s)) ++ (cutM c l).headD []) :: (cutM c l).tail) := by
        have e2 : List.take (i + 1) (B s) = List.take i (B s) ++ [x] := by rw [List.take_add_one, h4]; rfl
        rw [cutM, if_neg hx, e2, List.drop_append_of_le_length (by simp; rw [B_len]; omega)]
        simp
      rw [e]
      refine Ev.up ih (fun k => ?_)
      simp only [spec_l1Cut.l0]
      rw [if_pos (by omega), if_pos (by omega), if_neg (by rw [h2, nat_eq]; exact hx), hw]
theorem l1Cut_ev (s : ByteArray) (c : UInt8) (hs : s.size < 4294967281) : Ev (fun k => spec_l1Cut.f k s (c.toNat : Int)) ((cutM c (B s)).map mkB) := by
  have h := l1Cut_go s c hs (B s) [] 0 0 rfl (Nat.le_refl _) (Nat.zero_le _) (Nat.le_refl _)
  rw [List.take_zero, List.drop_nil, List.nil_append, List.nil_append, ← cutM_ne] at h
  exact h
theorem mkB_toList (l : Bs) : (mkB l).toList = l := by rw [tl_B, B_mkB]
theorem last_get {l : List Bs} {p : Bs} (h : l.getLast? = some p) : (l.map mkB)[l.length - 1]? = some (mkB p) := by
  rw [List.getLast?_eq_getElem?] at h
  rw [List.getElem?_map, h]; rfl
/-- What both programs do with the pieces. -/
theorem parts_eq {α : Type} (ps : List Bs) (h1 : 1 ≤ ps.length) (h2 : ps.length < 4294967290) (n : Option α) (F : List ByteArray → Option α) :
    (if (((ps.map mkB).length : Nat) : Int) > 1 then (if 0 ≤ (wrap64 (((ps.map mkB).length : Int) - 1)) then (if (wrap64 (((ps.map mkB).length : Int) - 1)) < ((ps.map mkB).length : Int) then (if (rdOf ByteArray.empty (ps.map mkB) (wrap64 (((ps.map mkB).length : Int) - 1))).toList = ([] : List UInt8) then (if (wrap64 (((ps.map mkB).length : Int) - 1)) ≤ ((ps.map mkB).length : Int) then (F ((ps.map mkB).take ((wrap64 (((ps.map mkB).length : Int) - 1)) : Int).toNat)) else n) else (F (ps.map mkB))) else n) else n) else (F (ps.map mkB))) =
      F ((if 1 < ps.length ∧ ps.getLast? = some [] then ps.dropLast else ps).map mkB) := by
  have hl : (ps.map mkB).length = ps.length := List.length_map ..
  rw [hl, w_pred ps.length h1 (by omega)]
  by_cases g : 1 < ps.length
  · rw [if_pos (by omega), if_pos (by omega), if_pos (by omega)]
    cases hp : ps.getLast? with
    | none => rw [List.getLast?_eq_none_iff] at hp; subst hp; simp at g
    | some p =>
      rw [rdOf_get _ _ _ _ (last_get hp), mkB_toList]
      by_cases e : p = []
      · subst e
        rw [if_pos rfl, if_pos (by omega), if_pos ⟨g, rfl⟩, List.map_dropLast, List.dropLast_eq_take, hl]
        rfl
      · rw [if_neg e, if_neg (fun h => e (Option.some.inj h.2))]
  · rw [if_neg (by omega), if_neg (fun h => g h.1)]
theorem l2Parts_ev (s : ByteArray) (hs : s.size < 4294967281) : Ev (fun k => spec_l2Parts.f k s) ((labelsM (B s)).map mkB) := by
  unfold spec_l2Parts.f
  refine Ev.bind (l1Cut_ev s 46 hs) ?_
  have hl := cutM_len 46 (B s)
  rw [B_len] at hl
  have h := parts_eq (cutM 46 (B s)) (cut_len_pos _ _) (by omega) none some
  rw [h]
  exact Ev.now _
theorem labels_impl (s : ByteArray) (hs : s.size < 4294967281) : impl_labels.f s = some ((labelsM (B s)).map mkB) := by
  unfold impl_labels.f strings_Split.f
  rw [if_pos ⟨hs, by decide⟩, splitB_cut, Option.bind_some]
  have hl := cutM_len 46 (B s)
  rw [B_len] at hl
  exact parts_eq (cutM 46 (B s)) (cut_len_pos _ _) (by omega) none some
/-! ### host names -/
theorem nbI (c : UInt8) : nb c = true ↔ ((97 ≤ (c.toNat : Int) ∧ (c.toNat : Int) ≤ 122) ∨ (48 ≤ (c.toNat : Int) ∧ (c.toNat : Int) ≤ 57) ∨ (c.toNat : Int) = 45 ∨ (c.toNat : Int) = 95) := by
  unfold nb
  simp only [Bool.or_eq_true, Bool.and_eq_true, decide_eq_true_eq, beq_iff_eq, ← UInt8.toNat_inj]
  have : (45 : UInt8).toNat = 45 := rfl
  have : (95 : UInt8).toNat = 95 := rfl
  omega
theorem isDigit_eq (c : UInt8) : impl_isDigit.f (c.toNat : Int) = some (digB c) := by
  unfold impl_isDigit.f digB
  split
  · congr 1
    have : decide (48 ≤ c.toNat) = true := by simp; omega
    rw [this, Bool.true_and]
    congr 1
    simp; omega
  · congr 1
    have : decide (48 ≤ c.toNat) = false := by simp; omega
    rw [this]; rfl
theorem digB_int (c : UInt8) : digB c = (decide (48 ≤ (c.toNat : Int)) && decide ((c.toNat : Int) ≤ 57)) := by
  unfold digB
  congr 1
  · exact decide_eq_decide.2 (by omega)
  · exact decide_eq_decide.2 (by omega)
theorem byte_is (c d : UInt8) : c = d ↔ (c.toNat : Int) = (d.toNat : Int) := by rw [← UInt8.toNat_inj]; omega
theorem in_impl (a b c : Int) : impl_in.f a b c = some (decide (b ≤ a ∧ a ≤ c)) := by
  unfold impl_in.f
  split
  · congr 1; simp; omega
  · congr 1; simp; omega
theorem contains_go (l : List Bs) : ∀ (r : List Bs) (i : Nat), l.drop i = r → i ≤ l.length → l.length < 4294967290 →
    Ev (fun k => slices_Index_string_string.l0 k (l.map mkB) (⟨#[]⟩ : ByteArray) ((l.map mkB).length : Int) (i : Int)) (if r.contains [] then ((i + r.findIdx (· == []) : Nat) : Int) else -1)
  | [], i, hr, hi, hb => by
    have := get_nil hi hr
    refine Ev.up (f := fun _ => some (-1)) (Ev.now _) (fun k => ?_)
    simp only [slices_Index_string_string.l0]
    rw [if_neg (by simp; omega)]
  | p :: r, i, hr, hi, hb => by
    obtain ⟨h1, h2, h3⟩ := get_cons hr
    have hg : (l.map mkB)[i]? = some (mkB p) := by rw [List.getElem?_map, h2]; rfl
    have hw := w_succ i (by omega)
    by_cases e : p = []
    · subst e
      refine Ev.up (f := fun _ => some (i : Int)) ?_ (fun k => ?_)
      · simp; exact Ev.now _
      · simp only [slices_Index_string_string.l0]
        rw [if_pos (by simp; omega), if_pos (by omega), if_pos (by simp; omega), rdOf_get _ _ _ _ hg, mkB_toList, if_pos (by rw [tl_B]; rfl)]
    · have ih := contains_go l r (i + 1) h3 (by omega) hb
      have e2 : (if (p :: r).contains [] then ((i + (p :: r).findIdx (· == []) : Nat) : Int) else -1) = (if r.contains [] then (((i + 1) + r.findIdx (· == []) : Nat) : Int) else -1) := by
        have h5 : (p == ([] : Bs)) = false := by simpa using e
        rw [List.findIdx_cons, h5]
        have h6 : (([] : Bs) == p) = false := by simpa using Ne.symm e
        rw [List.contains_cons, h6, Bool.false_or]
        simp only [cond_false]
        split
        · congr 1; omega
        · rfl
      rw [e2]
      refine Ev.up ih (fun k => ?_)
      simp only [slices_Index_string_string.l0]
      rw [if_pos (by simp; omega), if_pos (by omega), if_pos (by simp; omega), rdOf_get _ _ _ _ hg, mkB_toList, if_neg (by rw [tl_B]; exact fun h => e h.symm), hw]
theorem contains_ev (l : List Bs) (hb : l.length < 4294967290) : Ev (fun k => slices_Contains_string_string.f k (l.map mkB) (⟨#[]⟩ : ByteArray)) (l.contains []) := by
  unfold slices_Contains_string_string.f slices_Index_string_string.f
  refine Ev.bind (contains_go l l 0 rfl (by omega) hb) ?_
  refine Ev.cst ?_
  congr 1
  cases h : l.contains [] with
  | true => simp
  | false => simp
/-- The end of impl.isHostName, behind the loop. -/
theorem isHostName_go (s : ByteArray) (hs : s.size < 4294967281) : ∀ (l : Bs) (i : Nat), (B s).drop i = l → i ≤ s.size →
    Ev (fun k => impl_isHostName.l0 k s (s.size : Int) (i : Int)) ((l.all fun c => c == 46 || nb c) && decide (1 ≤ s.size) && decide (s.size ≤ 60) && !(labelsM (B s)).contains [])
  | [], i, hl, hi => by
    obtain rfl := at_nil hi hl
    have hll := labels_len (B s)
    rw [B_len] at hll
    refine Ev.step (fun k => by simp only [impl_isHostName.l0]; rw [if_neg (by omega)]) ?_
    refine Ev.bindc (in_impl _ _ _) ?_
    by_cases h : (1 : Int) ≤ (s.size : Int) ∧ (s.size : Int) ≤ 60
    · rw [decide_eq_true h]
      refine Ev.eq (f := fun k => (impl_labels.f s).bind fun t170 => ((slices_Contains_string_string.f k t170 (⟨#[]⟩ : ByteArray)).bind fun t173 => (some (!t173)))) ?_ (fun k => if_pos rfl)
      refine Ev.bindc (labels_impl s hs) ?_
      refine Ev.bind (contains_ev _ (by omega)) ?_
      have e1 : decide (1 ≤ s.size) = true := by simp; omega
      have e2 : decide (s.size ≤ 60) = true := by simp; omega
      rw [e1, e2]
      simp
      exact Ev.now _
    · rw [decide_eq_false h]
      refine Ev.eq (f := fun k => some false) ?_ (fun k => if_neg (by simp))
      have : (decide (1 ≤ s.size) && decide (s.size ≤ 60)) = false := by simp; omega
      rw [Bool.and_assoc (List.all [] _), this]
      simp
      exact Ev.now _
  | c :: l, i, hl, hi => by
    obtain ⟨h1, h2, h3, h4⟩ := at_cons hl
    have hw := w_succ i (by omega)
    have ih := isHostName_go s hs l (i + 1) h3 (by omega)
    have hc := nbI c
    by_cases hn : c == 46 || nb c
    · rw [List.all_cons, hn, Bool.true_and]
      refine Ev.up ih (fun k => ?_)
      simp only [impl_isHostName.l0]
      rw [if_pos (by omega), if_pos (by omega), if_pos (by omega), h2, hw]
      have hd := digB_int c
      have h46 : c = 46 ↔ (c.toNat : Int) = 46 := byte_is c 46
      simp only [isDigit_eq, Option.bind_some, hd]
      have hx : (c.toNat : Int) = 46 ∨ ((97 ≤ (c.toNat : Int) ∧ (c.toNat : Int) ≤ 122) ∨ (48 ≤ (c.toNat : Int) ∧ (c.toNat : Int) ≤ 57) ∨ (c.toNat : Int) = 45 ∨ (c.toNat : Int) = 95) := by
        rcases (by simpa using hn : c = 46 ∨ nb c = true) with h | h
        · exact .inl (h46.1 h)
        · exact .inr (hc.1 h)
      generalize (c.toNat : Int) = z at *
      repeat' split
      all_goals first | rfl | (exfalso; simp at *; omega)
    · have hn' : (c == 46 || nb c) = false := by simpa using hn
      rw [List.all_cons, hn', Bool.false_and, Bool.false_and, Bool.false_and, Bool.false_and]
      refine Ev.step (f := fun _ => some false) (fun k => ?_) (Ev.now _)
      simp only [impl_isHostName.l0]
      rw [if_pos (by omega), if_pos (by omega), if_pos (by omega), h2, hw]
      have hd := digB_int c
      have h46 : c = 46 ↔ (c.toNat : Int) = 46 := byte_is c 46
      simp only [isDigit_eq, Option.bind_some, hd]
      have hx : ¬ ((c.toNat : Int) = 46 ∨ ((97 ≤ (c.toNat : Int) ∧ (c.toNat : Int) ≤ 122) ∨ (48 ≤ (c.toNat : Int) ∧ (c.toNat : Int) ≤ 57) ∨ (c.toNat : Int) = 45 ∨ (c.toNat : Int) = 95)) := by
        rintro (h | h)
        · rw [h46.2 h] at hn'; simp at hn'
        · rw [hc.2 h] at hn'; simp at hn'
      generalize (c.toNat : Int) = z at *
      repeat' split
      all_goals first | rfl | (exfalso; simp at *; omega)
theorem isHostName_ev (s : ByteArray) (hs : s.size < 4294967281) : Ev (fun k => impl_isHostName.f k s) (isNameM (B s)) := by
  have h := isHostName_go s hs (B s) 0 rfl (Nat.zero_le _)
  unfold isNameM
  rw [B_len]
  exact h
/-! ### spec.l2Name -/
theorem cutM_sub (c : UInt8) : ∀ (l p : Bs), p ∈ cutM c l → p.length ≤ l.length
  | [], p, h => by simp [cutM] at h; subst h; simp
  | x :: l, p, h => by
    have hn := cutM_ne c l
    unfold cutM at h
    split at h
    · rcases List.mem_cons.1 h with rfl | h
      · simp
      · have := cutM_sub c l p h
        simp; omega
    · rcases List.mem_cons.1 h with rfl | h
      · have := cutM_sub c l ((cutM c l).headD []) (by rw [hn]; simp)
        simpa using this
      · have := cutM_sub c l p (by rw [hn]; simp [h])
        simp; omega
theorem empties (ps : List Bs) (h1 : 1 ≤ ps.length) : (ps.zipIdx.any fun p => p.1 == [] && (decide (p.2 + 1 < ps.length) || p.2 == 0)) = (if 1 < ps.length ∧ ps.getLast? = some [] then ps.dropLast else ps).contains [] := by
  rw [Bool.eq_iff_iff, List.any_eq_true, List.contains_iff_mem]
  constructor
  · rintro ⟨⟨q, i⟩, hm, hc⟩
    rw [List.mk_mem_zipIdx_iff_getElem?] at hm
    simp only [Bool.and_eq_true, beq_iff_eq, Bool.or_eq_true, decide_eq_true_eq] at hc
    obtain ⟨rfl, hc⟩ := hc
    split
    · rename_i h
      have hi : i < ps.dropLast.length := by simp; omega
      refine List.mem_of_getElem? (i := i) ?_
      rw [List.getElem?_dropLast, if_pos (by omega)]
      exact hm
    · exact List.mem_of_getElem? hm
  · intro hm
    by_cases h : 1 < ps.length
    · have hd : [] ∈ ps.dropLast := by
        split at hm
        · exact hm
        · rename_i hn
          have hne : ps ≠ [] := by intro e; subst e; simp at h
          rw [← List.dropLast_concat_getLast hne] at hm
          rcases List.mem_append.1 hm with r | r
          · exact r
          · exfalso
            apply hn
            refine ⟨h, ?_⟩
            rw [List.getLast?_eq_some_getLast hne]
            rw [← List.mem_singleton.1 r]
      obtain ⟨i, hi⟩ := List.getElem?_of_mem hd
      have hil := (List.getElem?_eq_some_iff.1 hi).1
      rw [List.getElem?_dropLast] at hi
      simp at hil
      rw [if_pos (by omega)] at hi
      exact ⟨([], i), (List.mk_mem_zipIdx_iff_getElem?).2 hi, by simp; omega⟩
    · rw [if_neg (fun z => h z.1)] at hm
      obtain ⟨i, hi⟩ := List.getElem?_of_mem hm
      have hil := (List.getElem?_eq_some_iff.1 hi).1
      exact ⟨([], i), (List.mk_mem_zipIdx_iff_getElem?).2 hi, by simp; omega⟩
theorem names_eq (l : Bs) : ((((cutM 46 l).all fun p => p.all nb) && !((cutM 46 l).zipIdx.any fun p => p.1 == [] && (decide (p.2 + 1 < (cutM 46 l).length) || p.2 == 0))) && (decide (1 ≤ l.length) && decide (l.length ≤ 60))) = isNameM l := by
  rw [cutM_all, empties _ (cut_len_pos _ _)]
  unfold isNameM labelsM
  have e : ∀ X Y Z V : Bool, ((X && !Y) && (Z && V)) = (X && Z && V && !Y) := by decide
  exact e _ _ _ _
theorem l2Name_in (s : ByteArray) (ps : List Bs) (i : Nat) (p : Bs) (hp : ps[i]? = some p) (hps : ps.length < 4294967290) (hlen : p.length < 4294967290) (r : Bool)
    (hk : Ev (fun k => spec_l2Name.l0 k s (ps.map mkB) ((i + 1 : Nat) : Int)) r) : ∀ (l : Bs) (j : Nat), p.drop j = l → j ≤ p.length →
    Ev (fun k => spec_l2Name.l1 k s (ps.map mkB) (i : Int) (j : Int)) (l.all nb && r)
  | [], j, hl, hj => by
    have := get_nil hj hl
    have hi : i < ps.length := (List.getElem?_eq_some_iff.1 hp).1
    have hg : (ps.map mkB)[i]? = some (mkB p) := by rw [List.getElem?_map, hp]; rfl
    rw [List.all_nil, Bool.true_and]
    refine Ev.up hk (fun k => ?_)
    simp only [spec_l2Name.l1]
    rw [rdOf_get _ _ _ _ hg, if_pos (by omega), if_pos (by simp; omega), if_neg (by rw [mkB_size]; omega), w_succ i (by omega)]
  | c :: l, j, hl, hj => by
    obtain ⟨h1, h2, h3⟩ := get_cons hl
    have hi : i < ps.length := (List.getElem?_eq_some_iff.1 hp).1
    have hg : (ps.map mkB)[i]? = some (mkB p) := by rw [List.getElem?_map, hp]; rfl
    have hb : bt (mkB p) (j : Int) = (c.toNat : Int) := bt_get _ _ _ (by rw [B_mkB]; exact h2)
    have ih := l2Name_in s ps i p hp hps hlen r hk l (j + 1) h3 (by omega)
    have hc := nbI c
    have hw := w_succ j (by omega)
    by_cases hn : nb c = true
    · rw [List.all_cons, hn, Bool.true_and]
      have hx := hc.1 hn
      refine Ev.up ih (fun k => ?_)
      simp only [spec_l2Name.l1]
      rw [rdOf_get _ _ _ _ hg, if_pos (by omega), if_pos (by simp; omega), if_pos (by rw [mkB_size]; omega), if_pos (by omega), hb, hw]
      generalize (c.toNat : Int) = z at *
      repeat' split
      all_goals first | rfl | (exfalso; omega)
    · have hx : ¬ _ := fun h => hn (hc.2 h)
      have hn' : nb c = false := by simpa using hn
      rw [List.all_cons, hn', Bool.false_and, Bool.false_and]
      refine Ev.step (f := fun _ => some false) (fun k => ?_) (Ev.now _)
      simp only [spec_l2Name.l1]
      rw [rdOf_get _ _ _ _ hg, if_pos (by omega), if_pos (by simp; omega), if_pos (by rw [mkB_size]; omega), if_pos (by omega), hb, hw]
      generalize (c.toNat : Int) = z at *
      repeat' split
      all_goals first | rfl | (exfalso; omega)
theorem l2Name_go (s : ByteArray) (ps : List Bs) (hps : ps.length < 4294967290) (hlen : ∀ p ∈ ps, p.length < 4294967290) : ∀ (r : List Bs) (i : Nat), ps.drop i = r → i ≤ ps.length →
    Ev (fun k => spec_l2Name.l0 k s (ps.map mkB) (i : Int)) ((r.all (fun p => p.all nb) && !((r.zipIdx i).any fun p => p.1 == [] && (decide (p.2 + 1 < ps.length) || p.2 == 0))) && (decide (1 ≤ s.size) && decide (s.size ≤ 60)))
  | [], i, hr, hi => by
    have := get_nil hi hr
    refine Ev.step (fun k => by simp only [spec_l2Name.l0]; rw [if_neg (by simp; omega)]) ?_
    refine Ev.bindc (in_spec _ _ _) (Ev.cst ?_)
    simp only [List.all_nil, List.zipIdx_nil, List.any_nil, Bool.not_false, Bool.true_and, Bool.and_true, Option.some.injEq]
    rw [← Bool.decide_and]
    exact decide_eq_decide.2 (by omega)
  | p :: r, i, hr, hi => by
    obtain ⟨h1, h2, h3⟩ := get_cons hr
    have hg : (ps.map mkB)[i]? = some (mkB p) := by rw [List.getElem?_map, h2]; rfl
    have ih := l2Name_go s ps hps hlen r (i + 1) h3 (by omega)
    have hin := l2Name_in s ps i p h2 hps (hlen p (List.mem_of_getElem? h2)) _ ih p 0 rfl (Nat.zero_le _)
    have hl : (ps.map mkB).length = ps.length := List.length_map ..
    have hj : ∀ b : Bool, Ev (fun k => spec_l2Name.j1 k s (ps.map mkB) (i : Int) b) (if b = true then false else p.all nb && ((r.all (fun p => p.all nb) && !((r.zipIdx (i + 1)).any fun p => p.1 == [] && (decide (p.2 + 1 < ps.length) || p.2 == 0))) && (decide (1 ≤ s.size) && decide (s.size ≤ 60)))) := by
      intro b
      cases b with
      | true => exact Ev.step (f := fun _ => some false) (fun k => by simp only [spec_l2Name.j1]; rfl) (Ev.now _)
      | false => exact Ev.up hin (fun k => by simp only [spec_l2Name.j1]; rw [if_neg (by simp)]; rfl)
    have e : ∀ X Y Z V : Bool, ((((X && Y) && !(Z || V)))) = (if Z = true then false else X && (Y && !V)) := by decide
    rw [List.all_cons, List.zipIdx_cons, List.any_cons, e]
    by_cases hp : p = []
    · subst hp
      have e1 : ((([] : Bs) == [])) = true := rfl
      by_cases hlt : i + 1 < ps.length
      · have h := hj true
        simp only [e1, Bool.true_and, decide_eq_true hlt, Bool.true_or, if_true] at h ⊢
        refine Ev.up h (fun k => ?_)
        simp only [spec_l2Name.l0]
        rw [hl, if_pos (by omega), if_pos (by omega), rdOf_get _ _ _ _ hg, if_pos (by rw [mkB_toList]), w_pred _ (by omega) (by omega), if_pos (by omega)]
      · have h := hj (i == 0)
        simp only [e1, Bool.true_and, decide_eq_false hlt, Bool.false_or] at h ⊢
        rw [show (if (i == 0) = true then false else List.all [] nb && ((r.all (fun p => p.all nb) && !((r.zipIdx (i + 1)).any fun p => p.1 == [] && (decide (p.2 + 1 < ps.length) || p.2 == 0))))) = _ from rfl]
        have h9 : ∀ X Y W : Bool, ((if X = true then false else Y) && W) = (if X = true then false else Y && W) := by decide
        rw [h9, Bool.and_assoc]
        refine Ev.up h (fun k => ?_)
        simp only [spec_l2Name.l0]
        rw [hl, if_pos (by omega), if_pos (by omega), rdOf_get _ _ _ _ hg, if_pos (by rw [mkB_toList]), w_pred _ (by omega) (by omega), if_neg (by omega)]
        congr 1
        rw [Bool.eq_iff_iff]
        simp
    · have e1 : (p == []) = false := by simpa using hp
      have h := hj false
      simp only [e1, Bool.false_and, Bool.false_eq_true, if_false] at h ⊢
      rw [Bool.and_assoc]
      refine Ev.up h (fun k => ?_)
      simp only [spec_l2Name.l0]
      rw [hl, if_pos (by omega), if_pos (by omega), rdOf_get _ _ _ _ hg, if_neg (by rw [mkB_toList]; exact hp)]
theorem l2Name_ev (s : ByteArray) (hs : s.size < 4294967281) : Ev (fun k => spec_l2Name.f k s) (isNameM (B s)) := by
  unfold spec_l2Name.f
  refine Ev.bind (l1Cut_ev s 46 hs) ?_
  have hl := cutM_len 46 (B s)
  rw [B_len] at hl
  have h := l2Name_go s (cutM 46 (B s)) (by omega) (fun p hp => by
    have := cutM_sub 46 (B s) p hp
    rw [B_len] at this
    omega) (cutM 46 (B s)) 0 rfl (Nat.zero_le _)
  rw [← names_eq, B_len]
  exact h
/-! ### numbers -/
theorem hex_all (c : UInt8) : (if 48 ≤ (c.toNat : Int) ∧ (c.toNat : Int) ≤ 57 then ((c.toNat : Int) - 48) % 256 else if 97 ≤ (c.toNat : Int) ∧ (c.toNat : Int) ≤ 102 then ((c.toNat : Int) - 97) % 256 + 10 else if 65 ≤ (c.toNat : Int) ∧ (c.toNat : Int) ≤ 70 then ((c.toNat : Int) - 65) % 256 + 10 else -1) = hexM c := by
  unfold hexM
  have := byte_lt c
  repeat' split
  all_goals omega
theorem specHex_ev (c : UInt8) : Ev (fun k => spec_l1Hex.f k (c.toNat : Int)) (hexM c) := by
  refine ⟨3, fun k hk => ?_⟩
  obtain ⟨k, rfl⟩ : ∃ m, k = m + 3 := ⟨k - 3, by omega⟩
  rw [← hex_all]
  unfold spec_l1Hex.f
  simp only [spec_l1Hex.j0, spec_l1Hex.j1, decide_eq_true_eq]
  have := byte_lt c
  generalize (c.toNat : Int) = z at *
  repeat' split
  all_goals first | rfl | contradiction | (exfalso; omega) | (congr 1; omega)
theorem implHex_ev (c : UInt8) : Ev (fun k => impl_hex.f k (c.toNat : Int)) (hexM c) := by
  refine ⟨3, fun k hk => ?_⟩
  obtain ⟨k, rfl⟩ : ∃ m, k = m + 3 := ⟨k - 3, by omega⟩
  rw [← hex_all]
  unfold impl_hex.f
  simp only [impl_hex.j0, impl_hex.j1, decide_eq_true_eq]
  have := byte_lt c
  generalize (c.toNat : Int) = z at *
  repeat' split
  all_goals first | rfl | contradiction | (exfalso; omega) | (congr 1; omega)
theorem specDigits_go (s : ByteArray) (b : Int) (hb : 2 ≤ b ∧ b ≤ 16) (hs : s.size < 4294967281) : ∀ (l : Bs) (n : Int) (i : Nat), (B s).drop i = l → i ≤ s.size → 0 ≤ n → n ≤ 68719476735 →
    Ev (fun k => spec_l2Digits.l0 k s b n (i : Int)) ((digM b n l).getD (-1)) ∧ ∀ r, digM b n l = some r → 0 ≤ r ∧ r ≤ 68719476735
  | [], n, i, hl, hi, h0, h1 => by
    obtain rfl := at_nil hi hl
    refine ⟨Ev.step (f := fun _ => some n) (fun k => by simp only [spec_l2Digits.l0]; rw [if_neg (by omega)]) (Ev.now _), fun r hr => ?_⟩
    obtain rfl := Option.some.inj hr
    exact ⟨h0, h1⟩
  | c :: l, n, i, hl, hi, h0, h1 => by
    obtain ⟨g1, g2, g3, g4⟩ := at_cons hl
    have hr := hexM_range c
    have hw := w_succ i (by omega)
    unfold digM
    by_cases hc : hexM c < 0 ∨ b ≤ hexM c ∨ 4294967295 < n
    · rw [if_pos hc]
      refine ⟨?_, fun r h => by cases h⟩
      refine Ev.step (f := fun k => (spec_l1Hex.f k (c.toNat : Int)).bind fun t127 => (if t127 < 0 then (some (-1)) else (if t127 ≥ b then (some (-1)) else (if n > 4294967295 then (some (-1)) else (spec_l2Digits.l0 k s b (wrap64 ((wrap64 (n * b)) + t127)) (wrap64 ((i : Int) + 1))))))) (fun k => ?_) ?_
      · simp only [spec_l2Digits.l0]; rw [if_pos (by omega), if_pos (by omega), g2]
      · refine Ev.bind (specHex_ev c) (Ev.eq (Ev.now (-1)) (fun k => ?_))
        by_cases q1 : hexM c < 0
        · rw [if_pos q1]
        · rw [if_neg q1]
          by_cases q2 : b ≤ hexM c
          · rw [if_pos q2]
          · rw [if_neg q2, if_pos (by omega)]
    · rw [if_neg hc]
      have hn : n ≤ 4294967295 := by omega
      have hm : 0 ≤ n * b ∧ n * b ≤ 4294967295 * 16 := ⟨Int.mul_nonneg h0 (by omega), Int.mul_le_mul hn hb.2 (by omega) (by omega)⟩
      have hw2 : wrap64 (wrap64 (n * b) + hexM c) = n * b + hexM c := by rw [w64 (by omega) (by omega : n * b ≤ _), w64 (by omega) (by omega)]
      obtain ⟨ih, ihr⟩ := specDigits_go s b hb hs l (n * b + hexM c) (i + 1) g3 (by omega) (by omega) (by omega)
      refine ⟨?_, ihr⟩
      refine Ev.step (f := fun k => (spec_l1Hex.f k (c.toNat : Int)).bind fun t127 => (if t127 < 0 then (some (-1)) else (if t127 ≥ b then (some (-1)) else (if n > 4294967295 then (some (-1)) else (spec_l2Digits.l0 k s b (wrap64 ((wrap64 (n * b)) + t127)) (wrap64 ((i : Int) + 1))))))) (fun k => ?_) ?_
      · simp only [spec_l2Digits.l0]; rw [if_pos (by omega), if_pos (by omega), g2]
      · refine Ev.bind (specHex_ev c) (Ev.eq ih (fun k => ?_))
        rw [if_neg (by omega), if_neg (by omega), if_neg (by omega), hw2, hw]
theorem specDigits_ev (s : ByteArray) (b : Int) (hb : 2 ≤ b ∧ b ≤ 16) (hs : s.size < 4294967281) : Ev (fun k => spec_l2Digits.f k s b) ((digM b 0 (B s)).getD (-1)) :=
  (specDigits_go s b hb hs (B s) 0 0 rfl (Nat.zero_le _) (by omega) (by omega)).1
theorem digM_range (b : Int) (hb : 2 ≤ b ∧ b ≤ 16) : ∀ (l : Bs) (n r : Int), 0 ≤ n → n ≤ 68719476735 → digM b n l = some r → 0 ≤ r ∧ r ≤ 68719476735
  | [], n, r, h0, h1, h => by obtain rfl := Option.some.inj h; exact ⟨h0, h1⟩
  | c :: l, n, r, h0, h1, h => by
    unfold digM at h
    have hr := hexM_range c
    split at h
    · cases h
    · rename_i hc
      have hn : n ≤ 4294967295 := by omega
      have hm : 0 ≤ n * b ∧ n * b ≤ 4294967295 * 16 := ⟨Int.mul_nonneg h0 (by omega), Int.mul_le_mul hn hb.2 (by omega) (by omega)⟩
      exact digM_range b hb l _ r (by omega) (by omega) h
theorem lnum_go (s : ByteArray) (b : Int) (hb : 2 ≤ b ∧ b ≤ 16) (hs : s.size < 4294967281) : ∀ (l : Bs) (n : Int) (i : Nat), (B s).drop i = l → i ≤ s.size → 0 ≤ n → n ≤ 68719476735 →
    Ev (fun k => impl_labelNumber.l0 k s b n (s.size : Int) (i : Int)) (match digM b n l with | some r => (r, true) | none => (0, false))
  | [], n, i, hl, hi, h0, h1 => by
    obtain rfl := at_nil hi hl
    exact Ev.step (f := fun _ => some (n, true)) (fun k => by simp only [impl_labelNumber.l0]; rw [if_neg (by omega)]) (Ev.now _)
  | c :: l, n, i, hl, hi, h0, h1 => by
    obtain ⟨g1, g2, g3, g4⟩ := at_cons hl
    have hr := hexM_range c
    have hw := w_succ i (by omega)
    unfold digM
    refine Ev.step (f := fun k => (impl_hex.f k (c.toNat : Int)).bind fun t177 => (if t177 < 0 then (some (0, false)) else (if t177 ≥ b then (some (0, false)) else (if n > 4294967295 then (some (0, false)) else (impl_labelNumber.l0 k s b (wrap64 ((wrap64 (b * n)) + t177)) (s.size : Int) (wrap64 ((i : Int) + 1))))))) (fun k => ?_) ?_
    · simp only [impl_labelNumber.l0]; rw [if_pos (by omega), if_pos (by omega), if_pos (by omega), g2]
    · refine Ev.bind (implHex_ev c) ?_
      by_cases hc : hexM c < 0 ∨ b ≤ hexM c ∨ 4294967295 < n
      · rw [if_pos hc]
        refine Ev.eq (Ev.now (0, false)) (fun k => ?_)
        by_cases q1 : hexM c < 0
        · rw [if_pos q1]
        · rw [if_neg q1]
          by_cases q2 : b ≤ hexM c
          · rw [if_pos q2]
          · rw [if_neg q2, if_pos (by omega)]
      · rw [if_neg hc]
        have hn : n ≤ 4294967295 := by omega
        have hm : 0 ≤ n * b ∧ n * b ≤ 4294967295 * 16 := ⟨Int.mul_nonneg h0 (by omega), Int.mul_le_mul hn hb.2 (by omega) (by omega)⟩
        have hw2 : wrap64 (wrap64 (b * n) + hexM c) = n * b + hexM c := by rw [Int.mul_comm b n, w64 (by omega) (by omega : n * b ≤ _), w64 (by omega) (by omega)]
        have ih := lnum_go s b hb hs l (n * b + hexM c) (i + 1) g3 (by omega) (by omega) (by omega)
        refine Ev.eq ih (fun k => ?_)
        rw [if_neg (by omega), if_neg (by omega), if_neg (by omega), hw2, hw]
theorem hasPrefix_eq (s p : ByteArray) : strings_HasPrefix.f s p = some ((B p).isPrefixOf (B s)) := by
  unfold strings_HasPrefix.f stringslite_HasPrefix.f
  have e : ((B s).take (B p).length == B p) = (B p).isPrefixOf (B s) := by
    rw [Bool.eq_iff_iff, List.isPrefixOf_iff_prefix, List.prefix_iff_eq_take, beq_iff_eq]
    exact ⟨fun h => h.symm, fun h => h.symm⟩
  by_cases h : (s.size : Int) ≥ (p.size : Int)
  · rw [if_pos h, if_pos (by omega), if_pos h, Option.bind_some, tl_B, tl_B, B_ext, List.drop_zero, show ((p.size : Int)).toNat = (B p).length by rw [B_len]; omega, e]
  · rw [if_neg h, Option.bind_some, ← e]
    congr 1
    have : (B s).take (B p).length ≠ B p := by
      intro z
      have := congrArg List.length z
      rw [List.length_take, B_len, B_len] at this
      omega
    exact (beq_eq_false_iff_ne.2 this).symm
theorem isHex_prefix (l : Bs) : isHex l = (([48, 120] : Bs).isPrefixOf l || ([48, 88] : Bs).isPrefixOf l) := by
  match l with
  | [] => rfl
  | [c] => simp [isHex, List.isPrefixOf]
  | c :: d :: r =>
    by_cases h : c = 48
    · subst h; simp [isHex, List.isPrefixOf, Bool.beq_comm]
    · have : (48 == c) = false := by simpa using Ne.symm h
      simp [List.isPrefixOf, this, isHex]
      split <;> simp_all
theorem isHex_len (l : Bs) (h : isHex l = true) : 2 ≤ l.length := by
  unfold isHex at h
  split at h
  · simp
  · cases h
/-- impl.labelNumber -/
def lnumR (l : Bs) : Int × Bool := match lnumM l with | some r => (r, true) | none => (0, false)
theorem labelNumber_ev (s : ByteArray) (hs : s.size < 4294967281) : Ev (fun k => impl_labelNumber.f k s) (lnumR (B s)) := by
  have hj1 : ∀ (t : ByteArray) (b : Int), 2 ≤ b ∧ b ≤ 16 → t.size < 4294967281 → Ev (fun k => impl_labelNumber.j1 k t b) (match digM b 0 (B t) with | some r => (r, true) | none => (0, false)) := by
    intro t b hb ht
    exact Ev.up (lnum_go t b hb ht (B t) 0 0 rfl (Nat.zero_le _) (by omega) (by omega)) (fun k => by simp only [impl_labelNumber.j1]; rfl)
  unfold lnumR lnumM
  by_cases h0 : B s = []
  · rw [if_pos h0]
    exact Ev.eq (Ev.now _) (fun k => by unfold impl_labelNumber.f; rw [if_pos (by rw [tl_B]; exact h0)])
  rw [if_neg h0]
  have hpos : 1 ≤ s.size := by
    rw [← B_len]
    cases h : B s with
    | nil => exact absurd h h0
    | cons c l => simp
  have hj0 : Ev (fun k => impl_labelNumber.j0 k s 10 (isHex (B s))) (match (if isHex (B s) = true then digM 16 0 ((B s).drop 2) else if (B s).head? = some 48 ∧ 1 < (B s).length then digM 8 0 ((B s).drop 1) else digM 10 0 (B s)) with | some r => (r, true) | none => (0, false)) := by
    by_cases hx : isHex (B s) = true
    · have h2 := isHex_len _ hx
      rw [B_len] at h2
      have h := hj1 (s.extract 2 s.size) 16 (by omega) (by rw [ext_end, mkB_size, List.length_drop, B_len]; omega)
      rw [ext_end, B_mkB] at h
      rw [if_pos hx, hx]
      refine Ev.up h (fun k => ?_)
      simp only [impl_labelNumber.j0]
      rw [if_pos trivial, if_pos (by omega), ext_end]
    · rw [if_neg hx]
      have hx' : isHex (B s) = false := by simpa using hx
      rw [hx']
      obtain ⟨c, l, hc⟩ : ∃ c l, B s = c :: l := by
        cases h : B s with
        | nil => exact absurd h h0
        | cons c l => exact ⟨c, l, rfl⟩
      have hb0 : bt s (0 : Int) = (c.toNat : Int) := bt_get s 0 c (by rw [hc]; rfl)
      by_cases h8 : (B s).head? = some 48 ∧ 1 < (B s).length
      · rw [if_pos h8]
        have h := hj1 (s.extract 1 s.size) 8 (by omega) (by rw [ext_end, mkB_size, List.length_drop, B_len]; omega)
        rw [ext_end, B_mkB] at h
        have hc48 : c = 48 := by have := h8.1; rw [hc] at this; exact Option.some.inj this
        subst hc48
        rw [B_len] at h8
        refine Ev.up h (fun k => ?_)
        simp only [impl_labelNumber.j0]
        rw [if_neg (by simp), if_pos (by omega), if_pos (by rw [hb0]; rfl), if_pos (by omega), if_pos (by omega), ext_end]
      · rw [if_neg h8]
        refine Ev.up (hj1 s 10 (by omega) hs) (fun k => ?_)
        simp only [impl_labelNumber.j0]
        rw [if_neg (by simp), if_pos (by omega), hb0]
        by_cases q : (c.toNat : Int) = 48
        · have hc48 : c = 48 := (byte_is c 48).2 q
          subst hc48
          rw [if_pos q, if_neg (fun z => h8 ⟨by rw [hc]; rfl, by rw [B_len]; omega⟩)]
        · rw [if_neg q]
  rw [isHex_prefix] at hj0 ⊢
  refine Ev.eq (f := fun k => (some (([48, 120] : Bs).isPrefixOf (B s))).bind fun t175 => (if t175 = true then (impl_labelNumber.j0 k s 10 true) else ((some (([48, 88] : Bs).isPrefixOf (B s))).bind fun t176 => (impl_labelNumber.j0 k s 10 t176)))) ?_ (fun k => by unfold impl_labelNumber.f; rw [if_neg (by rw [tl_B]; exact h0), hasPrefix_eq, hasPrefix_eq]; rfl)
  refine Ev.eq hj0 (fun k => ?_)
  rw [Option.bind_some]
  cases ([48, 120] : Bs).isPrefixOf (B s) with
  | true => rfl
  | false => rfl
/-! ### ends in a number -/
theorem hexbytes (s : ByteArray) (c d : UInt8) (r : Bs) (h : B s = c :: d :: r) : bt s (0 : Int) = (c.toNat : Int) ∧ bt s (1 : Int) = (d.toNat : Int) ∧ 2 ≤ s.size := by
  refine ⟨bt_get s 0 c (by rw [h]; rfl), bt_get s 1 d (by rw [h]; rfl), ?_⟩
  rw [← B_len, h]; simp
theorem l2Part_ev (s : ByteArray) (hs : s.size < 4294967281) : Ev (fun k => spec_l2Part.f k s) ((lnumM (B s)).getD (-1)) := by
  unfold lnumM
  by_cases h0 : B s = []
  · rw [if_pos h0]
    exact Ev.eq (Ev.now _) (fun k => by unfold spec_l2Part.f; rw [if_pos (by rw [tl_B]; exact h0)]; rfl)
  rw [if_neg h0]
  obtain ⟨c, l, hc⟩ : ∃ c l, B s = c :: l := by
    cases h : B s with
    | nil => exact absurd h h0
    | cons c l => exact ⟨c, l, rfl⟩
  have hsz : s.size = l.length + 1 := by rw [← B_len, hc]; simp
  have hb0 : bt s (0 : Int) = (c.toNat : Int) := bt_get s 0 c (by rw [hc]; rfl)
  have hj1 : isHex (B s) = false → Ev (fun k => spec_l2Part.j0 k s false) ((if (B s).head? = some 48 ∧ 1 < (B s).length then digM 8 0 ((B s).drop 1) else digM 10 0 (B s)).getD (-1)) := by
    intro hx
    by_cases h8 : (B s).head? = some 48 ∧ 1 < (B s).length
    · rw [if_pos h8]
      have hc48 : c = 48 := by have := h8.1; rw [hc] at this; exact Option.some.inj this
      subst hc48
      rw [B_len] at h8
      have h := specDigits_ev (s.extract 1 s.size) 8 (by omega) (by rw [ext_end, mkB_size, List.length_drop, B_len]; omega)
      rw [ext_end, B_mkB] at h
      refine Ev.step (f := fun k => spec_l2Part.j1 k s true) (fun k => ?_) (Ev.step (f := fun k => (spec_l2Digits.f k (s.extract 1 s.size) 8).bind fun t129 => (some t129)) (fun k => ?_) ?_)
      · simp only [spec_l2Part.j0]
        rw [if_neg (by simp), if_pos (by omega), if_pos (by omega), hb0]; rfl
      · simp only [spec_l2Part.j1]
        rw [if_pos trivial, if_pos (by omega)]
      · rw [ext_end]; exact Ev.bind h (Ev.now _)
    · rw [if_neg h8]
      have h := specDigits_ev s 10 (by omega) hs
      refine Ev.step (f := fun k => spec_l2Part.j1 k s false) (fun k => ?_) (Ev.step (f := fun k => (spec_l2Digits.f k s 10).bind fun t130 => (some t130)) (fun k => ?_) (Ev.bind h (Ev.now _)))
      · simp only [spec_l2Part.j0]
        rw [if_neg (by simp)]
        by_cases g : (s.size : Int) ≥ 2
        · rw [if_pos g, if_pos (by omega), hb0]
          congr 1
          have : ¬ (c.toNat : Int) = 48 := fun q => h8 ⟨by rw [hc, (byte_is c 48).2 q]; rfl, by rw [B_len]; omega⟩
          simpa using this
        · rw [if_neg g]
      · simp only [spec_l2Part.j1]
        rw [if_neg (by simp)]
  cases l with
  | nil =>
    have hx : isHex (B s) = false := by
      rw [hc]; unfold isHex; split
      · rename_i h; cases h
      · rfl
    rw [if_neg (by simp [hx])]
    refine Ev.eq (hj1 hx) (fun k => ?_)
    unfold spec_l2Part.f
    rw [if_neg (by rw [tl_B]; exact h0), if_neg (by simp at hsz; omega)]
  | cons d r =>
    obtain ⟨_, hb1, h2⟩ := hexbytes s c d r hc
    have hx : isHex (B s) = (c == 48 && (d == 120 || d == 88)) := by
      rw [isHex_prefix, hc]
      simp only [List.isPrefixOf, Bool.and_true]
      rw [Bool.and_or_distrib_left, Bool.beq_comm (a := (48 : UInt8)), Bool.beq_comm (a := (120 : UInt8)), Bool.beq_comm (a := (88 : UInt8))]
    have hf : ∀ k, spec_l2Part.f k s = (if (c.toNat : Int) = 48 then (if (d.toNat : Int) = 120 then (spec_l2Part.j0 k s true) else (spec_l2Part.j0 k s ((d.toNat : Int) == 88))) else (spec_l2Part.j0 k s false)) := by
      intro k
      unfold spec_l2Part.f
      rw [if_neg (by rw [tl_B]; exact h0), if_pos (by omega), if_pos (by omega), hb0, hb1]
      by_cases q : (c.toNat : Int) = 48
      · rw [if_pos q, if_pos q, if_pos (by omega)]
      · rw [if_neg q, if_neg q]
    have hd : ((d.toNat : Int) == 88) = (d == 88) := by rw [Bool.eq_iff_iff]; simp [byte_is d 88]
    have h16 : isHex (B s) = true → Ev (fun k => spec_l2Part.j0 k s true) ((digM 16 0 ((B s).drop 2)).getD (-1)) := by
      intro _
      have h := specDigits_ev (s.extract 2 s.size) 16 (by omega) (by rw [ext_end, mkB_size, List.length_drop, B_len]; omega)
      rw [ext_end, B_mkB] at h
      refine Ev.step (f := fun k => (spec_l2Digits.f k (s.extract 2 s.size) 16).bind fun t128 => (some t128)) (fun k => ?_) ?_
      · simp only [spec_l2Part.j0]
        rw [if_pos trivial, if_pos (by omega)]
      · rw [ext_end]; exact Ev.bind h (Ev.now _)
    by_cases q : c = 48
    · have q1 : (c.toNat : Int) = 48 := (byte_is c 48).1 q
      by_cases q2 : d = 120
      · have q3 : (d.toNat : Int) = 120 := (byte_is d 120).1 q2
        have hx1 : isHex (B s) = true := by rw [hx, q, q2]; rfl
        rw [if_pos hx1]
        exact Ev.eq (h16 hx1) (fun k => by rw [hf, if_pos q1, if_pos q3])
      · have q3 : ¬ (d.toNat : Int) = 120 := fun z => q2 ((byte_is d 120).2 z)
        cases q4 : (d == 88) with
        | true =>
          have hx1 : isHex (B s) = true := by rw [hx, q, q4]; simp
          rw [if_pos hx1]
          exact Ev.eq (h16 hx1) (fun k => by rw [hf, if_pos q1, if_neg q3, hd, q4])
        | false =>
          have hx1 : isHex (B s) = false := by rw [hx, q, q4]; simp [q2]
          rw [if_neg (by simp [hx1])]
          exact Ev.eq (hj1 hx1) (fun k => by rw [hf, if_pos q1, if_neg q3, hd, q4])
    · have q1 : ¬ (c.toNat : Int) = 48 := fun z => q ((byte_is c 48).2 z)
      have hx1 : isHex (B s) = false := by rw [hx]; simp [q]
      rw [if_neg (by simp [hx1])]
      exact Ev.eq (hj1 hx1) (fun k => by rw [hf, if_neg q1])
theorem lnumM_range (l : Bs) (r : Int) (h : lnumM l = some r) : 0 ≤ r ∧ r ≤ 68719476735 := by
  unfold lnumM at h
  split at h
  · cases h
  · split at h
    · exact digM_range 16 (by omega) _ 0 r (by omega) (by omega) h
    · split at h
      · exact digM_range 8 (by omega) _ 0 r (by omega) (by omega) h
      · exact digM_range 10 (by omega) _ 0 r (by omega) (by omega) h
theorem lnum_isSome (l : Bs) : decide (((lnumM l).getD (-1)) ≥ 0) = (lnumM l).isSome := by
  cases h : lnumM l with
  | none => rfl
  | some r => have := lnumM_range l r h; simp; omega
theorem digB_not_hex (l : Bs) (h : isHex l = true) : l.all digB = false := by
  unfold isHex at h
  split at h
  · rename_i c r
    have : digB c = false := by
      rcases (by simpa using h : c = 120 ∨ c = 88) with rfl | rfl <;> decide
    simp [this]
  · cases h
/-- What spec.l2Ends does with the last label, behind the loop. -/
theorem l2Ends_go (s : ByteArray) (hs : s.size < 4294967281) : ∀ (l : Bs) (b : Bool) (i : Nat), (B s).drop i = l → i ≤ s.size →
    Ev (fun k => spec_l2Ends.l0 k s b (i : Int)) ((b && l.all digB) || (isHex (B s) && (lnumM (B s)).isSome))
  | [], b, i, hl, hi => by
    obtain rfl := at_nil hi hl
    have hf : ∀ k, spec_l2Ends.l0 (k + 1) s b ((s.size : Nat) : Int) = (if b = true then (some true) else (if (s.size : Int) ≥ 2 then (if 0 < (s.size : Int) then (if (bt s 0) = 48 then (if 1 < (s.size : Int) then (if (bt s 1) = 120 then ((spec_l2Part.f k s).bind fun t135 => (some (decide (t135 ≥ 0)))) else (if (bt s 1) = 88 then ((spec_l2Part.f k s).bind fun t136 => (some (decide (t136 ≥ 0)))) else (some false))) else (none)) else (some false)) else (none)) else (some false))) := by
      intro k
      simp only [spec_l2Ends.l0]
      rw [if_neg (by omega)]
    refine Ev.step hf ?_
    cases b with
    | true => exact Ev.eq (Ev.now _) (fun k => by rw [if_pos rfl]; simp)
    | false =>
      have hp : Ev (fun k => (spec_l2Part.f k s).bind fun t135 => (some (decide (t135 ≥ 0)))) ((lnumM (B s)).isSome) := by
        rw [← lnum_isSome]; exact Ev.bind (l2Part_ev s hs) (Ev.now _)
      simp only [Bool.false_eq_true, if_false, Bool.false_and, Bool.false_or]
      match hB : B s with
      | [] =>
        have : s.size = 0 := by rw [← B_len, hB]; rfl
        exact Ev.eq (Ev.now _) (fun k => by rw [if_neg (by omega)]; rfl)
      | [c] =>
        have : s.size = 1 := by rw [← B_len, hB]; rfl
        have hx : isHex [c] = false := by unfold isHex; split <;> simp_all
        rw [hx]
        exact Ev.eq (Ev.now _) (fun k => by rw [if_neg (by omega)]; rfl)
      | c :: d :: r =>
        obtain ⟨hb0, hb1, h2⟩ := hexbytes s c d r hB
        have hx : isHex (c :: d :: r) = (c == 48 && (d == 120 || d == 88)) := by
          rw [isHex_prefix]
          simp only [List.isPrefixOf, Bool.and_true]
          rw [Bool.and_or_distrib_left, Bool.beq_comm (a := (48 : UInt8)), Bool.beq_comm (a := (120 : UInt8)), Bool.beq_comm (a := (88 : UInt8))]
        rw [hB] at hp
        rw [hx]
        have hg : ∀ k, (if (s.size : Int) ≥ 2 then (if 0 < (s.size : Int) then (if (bt s 0) = 48 then (if 1 < (s.size : Int) then (if (bt s 1) = 120 then ((spec_l2Part.f k s).bind fun t135 => (some (decide (t135 ≥ 0)))) else (if (bt s 1) = 88 then ((spec_l2Part.f k s).bind fun t136 => (some (decide (t136 ≥ 0)))) else (some false))) else (none)) else (some false)) else (none)) else (some false)) = (if (c == 48 && (d == 120 || d == 88)) = true then ((spec_l2Part.f k s).bind fun t135 => (some (decide (t135 ≥ 0)))) else some false) := by
          intro k
          rw [if_pos (by omega), if_pos (by omega), hb0, hb1]
          by_cases q : c = 48
          · rw [if_pos (show (c.toNat : Int) = 48 from (byte_is c 48).1 q), if_pos (by omega)]
            by_cases q2 : d = 120
            · rw [if_pos (show (d.toNat : Int) = 120 from (byte_is d 120).1 q2), if_pos (by simp [q, q2])]
            · rw [if_neg (show ¬ (d.toNat : Int) = 120 from fun z => q2 ((byte_is d 120).2 z))]
              by_cases q3 : d = 88
              · rw [if_pos (show (d.toNat : Int) = 88 from (byte_is d 88).1 q3), if_pos (by simp [q, q3])]
              · rw [if_neg (show ¬ (d.toNat : Int) = 88 from fun z => q3 ((byte_is d 88).2 z)), if_neg (by simp [q2, q3])]
          · rw [if_neg (show ¬ (c.toNat : Int) = 48 from fun z => q ((byte_is c 48).2 z)), if_neg (by simp [q])]
        refine Ev.congr hg ?_
        cases (c == 48 && (d == 120 || d == 88)) with
        | true => exact Ev.eq hp (fun k => if_pos rfl)
        | false => exact Ev.eq (Ev.now _) (fun k => if_neg (by simp))
  | c :: l, b, i, hl, hi => by
    obtain ⟨g1, g2, g3, g4⟩ := at_cons hl
    have hw := w_succ i (by omega)
    have ih := l2Ends_go s hs l (b && digB c) (i + 1) g3 (by omega)
    rw [List.all_cons, ← Bool.and_assoc]
    refine Ev.up ih (fun k => ?_)
    simp only [spec_l2Ends.l0]
    rw [if_pos (by omega), hw, g2]
    cases b with
    | false => rw [if_neg (by simp)]; rfl
    | true =>
      rw [if_pos rfl, if_pos (by omega), Bool.true_and, digB_int]
      by_cases q : (c.toNat : Int) ≥ 48
      · rw [if_pos q, decide_eq_true (by omega : 48 ≤ (c.toNat : Int)), Bool.true_and]
      · rw [if_neg q, decide_eq_false (by omega : ¬ 48 ≤ (c.toNat : Int)), Bool.false_and]
theorem ends_eq (p : Bs) : (p.all digB || (isHex p && (lnumM p).isSome)) = (if isHex p = true then (lnumM p).isSome else p.all digB) := by
  cases h : isHex p with
  | true => rw [digB_not_hex p h]; simp
  | false => simp
theorem label_small (s : ByteArray) (hs : s.size < 4294967281) (p : Bs) (hp : p ∈ labelsM (B s)) : (mkB p).size < 4294967281 := by
  have := cutM_sub 46 (B s) p (labels_mem _ _ hp)
  rw [mkB_size]
  rw [B_len] at this
  omega
theorem l2Ends_ev (s : ByteArray) (hs : s.size < 4294967281) : Ev (fun k => spec_l2Ends.f k s) (endsM (B s)) := by
  unfold spec_l2Ends.f
  refine Ev.bind (l2Parts_ev s hs) ?_
  obtain ⟨p, hp, hp2⟩ := labels_last (B s)
  have hl := labels_len (B s)
  rw [B_len] at hl
  have h1 : 1 ≤ (labelsM (B s)).length := by
    have := labels_ne (B s)
    cases h : labelsM (B s) with
    | nil => exact absurd h this
    | cons a b => simp
  have hlm : ((labelsM (B s)).map mkB).length = (labelsM (B s)).length := List.length_map ..
  have hsm := label_small s hs p (List.mem_of_getLast? hp)
  rw [hlm, w_pred _ h1 (by omega), rdOf_get _ _ _ _ (last_get hp), mkB_toList]
  refine Ev.congr (fun k => (if_pos (by omega)).trans (if_pos (by omega))) ?_
  unfold endsM
  simp only [← hp2]
  by_cases e : p = []
  · rw [if_pos e]; exact Ev.eq (Ev.now _) (fun k => if_pos e)
  · rw [if_neg e, ← ends_eq]
    refine Ev.congr (fun k => if_neg e) ?_
    have h := l2Ends_go (mkB p) hsm p true 0 (by rw [B_mkB]; rfl) (Nat.zero_le _)
    rw [B_mkB, Bool.true_and] at h
    exact h
theorem endsLoop_go (s : ByteArray) (hs : s.size < 4294967281) : ∀ (l : Bs) (i : Nat), (B s).drop i = l → i ≤ s.size → Ev (fun k => impl_endsInNumber.l0 k s (s.size : Int) (i : Int)) (l.all digB)
  | [], i, hl, hi => by
    obtain rfl := at_nil hi hl
    exact Ev.step (f := fun _ => some true) (fun k => by simp only [impl_endsInNumber.l0]; rw [if_neg (by omega)]) (Ev.now _)
  | c :: l, i, hl, hi => by
    obtain ⟨g1, g2, g3, g4⟩ := at_cons hl
    have ih := endsLoop_go s hs l (i + 1) g3 (by omega)
    refine Ev.step (f := fun k => if digB c = true then impl_endsInNumber.l0 k s (s.size : Int) ((i + 1 : Nat) : Int) else some false) (fun k => ?_) ?_
    · simp only [impl_endsInNumber.l0]
      rw [if_pos (by omega), if_pos (by omega), if_pos (by omega), g2, isDigit_eq, Option.bind_some, w_succ i (by omega)]
    · rw [List.all_cons]
      cases digB c with
      | true => exact Ev.eq ih (fun k => if_pos rfl)
      | false => exact Ev.eq (Ev.now _) (fun k => if_neg (by simp))
theorem endsInNumber_ev (s : ByteArray) (hs : s.size < 4294967281) : Ev (fun k => impl_endsInNumber.f k s) (endsM (B s)) := by
  unfold impl_endsInNumber.f
  refine Ev.bindc (labels_impl s hs) ?_
  obtain ⟨p, hp, hp2⟩ := labels_last (B s)
  have hl := labels_len (B s)
  rw [B_len] at hl
  have h1 : 1 ≤ (labelsM (B s)).length := by
    have := labels_ne (B s)
    cases h : labelsM (B s) with
    | nil => exact absurd h this
    | cons a b => simp
  have hlm : ((labelsM (B s)).map mkB).length = (labelsM (B s)).length := List.length_map ..
  have hsm := label_small s hs p (List.mem_of_getLast? hp)
  rw [hlm, w_pred _ h1 (by omega), rdOf_get _ _ _ _ (last_get hp), mkB_toList]
  refine Ev.congr (fun k => (if_pos (by omega)).trans (if_pos (by omega))) ?_
  unfold endsM
  simp only [← hp2]
  by_cases e : p = []
  · rw [if_pos e]; exact Ev.eq (Ev.now _) (fun k => if_pos e)
  · rw [if_neg e, hasPrefix_eq, hasPrefix_eq, B_mkB]
    refine Ev.congr (fun k => if_neg e) ?_
    have hj : Ev (fun k => impl_endsInNumber.j0 k (mkB p) (isHex p)) (if isHex p = true then (lnumM p).isSome else p.all digB) := by
      cases hx : isHex p with
      | true =>
        have h := labelNumber_ev (mkB p) hsm
        refine Ev.step (f := fun k => (impl_labelNumber.f k (mkB p)).bind fun bt184 => (some bt184.2)) (fun k => by simp only [impl_endsInNumber.j0]; rfl) ?_
        refine Ev.bind h (Ev.cst ?_)
        rw [B_mkB]
        unfold lnumR
        cases lnumM p <;> rfl
      | false =>
        have h := endsLoop_go (mkB p) hsm p 0 (by rw [B_mkB]; rfl) (Nat.zero_le _)
        exact Ev.up h (fun k => by simp only [impl_endsInNumber.j0]; rw [if_neg (by simp)]; rfl)
    rw [isHex_prefix] at hj ⊢
    simp only [Option.bind_some]
    refine Ev.eq hj (fun k => ?_)
    show (if ([48, 120] : Bs).isPrefixOf p = true then _ else _) = _
    cases ([48, 120] : Bs).isPrefixOf p <;> rfl
theorem plainName_ev (s : ByteArray) (hs : s.size < 4294967281) : Ev (fun k => impl_plainName.f k s) (plainM (B s)) := by
  unfold impl_plainName.f plainM
  refine Ev.bind (isHostName_ev s hs) ?_
  cases isNameM (B s) with
  | true => exact Ev.eq (Ev.bind (endsInNumber_ev s hs) (Ev.now _)) (fun k => if_pos rfl)
  | false => exact Ev.eq (Ev.now _) (fun k => if_neg (by simp))
theorem l7Name_ev (s : ByteArray) (hs : s.size < 4294967281) : Ev (fun k => spec_l7Name.f k s) (plainM (B s)) := by
  unfold spec_l7Name.f
  refine Ev.bind (a := plainM (B s)) ?_ (Ev.now _)
  unfold spec_HostOk.f plainM
  simp only [show ¬ ((1 : Int) = 0) by omega, if_false, if_true]
  refine Ev.bind (l2Name_ev s hs) ?_
  cases isNameM (B s) with
  | true =>
    refine Ev.eq (Ev.bind (a := endsM (B s)) (f := fun k t139 => (if t139 = true then (some false) else (some ((0 : Int) == 0)))) (l2Ends_ev s hs) ?_) (fun k => if_pos rfl)
    cases endsM (B s) with
    | true => exact Ev.now _
    | false => exact Ev.now _
  | false => exact Ev.eq (Ev.now _) (fun k => if_neg (by simp))
/-! ### decimal numerals -/
theorem dec_len (u : Nat) (hu : u ≤ 9223372036854775807) : (Lib.decDigits u).length ≤ 21 := by
  have := Lib.itoa_length_le (u : Int) (by omega) (by omega)
  rwa [Lib.itoa_nonneg] at this
theorem itoa_impl (u : Nat) (hu : u ≤ 9223372036854775807) : strconv_Itoa.f (u : Int) = some (mkB (Lib.decDigits u)) := by
  unfold strconv_Itoa.f
  rw [if_pos (by omega), Lib.itoa_nonneg]
  rfl
theorem one_byte (v : Int) (u : Nat) (hv : v = (u : Int)) (h : u < 10) : strOfNums (([(wrap64 (48 + v)) % 256] : List Int)) = mkB [UInt8.ofNat (48 + u)] := by
  subst hv
  have e : ((48 + (u : Int)) % 256).toNat = 48 + u := by omega
  rw [w64 (by omega) (by omega)]
  simp [strOfNums, mkB, e]
theorem tdiv_nat (u d : Nat) (hu : u ≤ 9223372036854775807) : wrap64 (Int.tdiv (u : Int) (d : Int)) = ((u / d : Nat) : Int) := by
  have e : Int.tdiv (u : Int) (d : Int) = ((u / d : Nat) : Int) := by rw [Int.tdiv_eq_ediv_of_nonneg (by omega)]; rfl
  rw [e]
  have : u / d ≤ u := Nat.div_le_self _ _
  generalize u / d = q at *
  exact w64 (by omega) (by omega)
theorem tmod_nat (u d : Nat) : Int.tmod (u : Int) (d : Int) = ((u % d : Nat) : Int) := by rw [Int.tmod_eq_emod_of_nonneg (by omega)]; rfl
theorem l1Dec_ev (u : Nat) : u ≤ 9223372036854775807 → Ev (fun k => spec_l1Dec.f k (u : Int)) (mkB (Lib.decDigits u)) := by
  induction u using Nat.strongRecOn with
  | _ u ih =>
    intro hu
    by_cases h : u < 10
    · refine Ev.up (Ev.now _) (fun k => ?_)
      rw [spec_l1Dec.f, if_neg (by omega), if_neg (by omega), if_pos (by omega), one_byte _ u rfl h, Lib.decDigits_one h]
    · have i := ih (u / 10) (by omega) (by omega)
      have e1 := tdiv_nat u 10 hu
      have e2 := tmod_nat u 10
      refine Ev.up (f := fun k => (spec_l1Dec.f k ((u / 10 : Nat) : Int)).bind fun t151 => ((some (([(wrap64 (48 + ((u % 10 : Nat) : Int))) % 256] : List Int) : List Int)).bind fun y152 => (if t151.size + (strOfNums y152).size ≤ 9223372036854775807 then (some (t151 ++ (strOfNums y152))) else (none)))) (Ev.bind i ?_) (fun k => ?_)
      · refine Ev.eq (Ev.now _) (fun k => ?_)
        rw [Option.bind_some, one_byte _ (u % 10) rfl (by omega), if_pos, mkB_app, ← show Lib.decDigits u = Lib.decDigits (u / 10) ++ [UInt8.ofNat (48 + u % 10)] by rw [Lib.decDigits, dif_neg h]]
        have := dec_len (u / 10) (by omega)
        rw [mkB_size, mkB_size]
        simp
        omega
      · have e1' : wrap64 (Int.tdiv (u : Int) 10) = ((u / 10 : Nat) : Int) := e1
        have e2' : Int.tmod (u : Int) 10 = ((u % 10 : Nat) : Int) := e2
        rw [spec_l1Dec.f, if_neg (by omega), if_neg (by omega), if_neg (by omega), e1', e2']
/-! ### four numbers as a text -/
def fourT (u : Nat) : Bs := Lib.decDigits (u / 16777216) ++ 46 :: (Lib.decDigits (u / 65536 % 256) ++ 46 :: (Lib.decDigits (u / 256 % 256) ++ 46 :: Lib.decDigits (u % 256)))
theorem fourT_len (u : Nat) (hu : u < 4294967296) : (fourT u).length ≤ 87 := by
  have := dec_len (u / 16777216) (by omega)
  have := dec_len (u / 65536 % 256) (by omega)
  have := dec_len (u / 256 % 256) (by omega)
  have := dec_len (u % 256) (by omega)
  simp [fourT]
  omega
theorem dot_mk : (⟨#[46]⟩ : ByteArray) = mkB [46] := rfl
theorem l2Four_ev (u : Nat) (hu : u < 4294967296) : Ev (fun k => spec_l2Four.f k (u : Int)) (mkB (fourT u)) := by
  have l1 := dec_len (u / 16777216) (by omega)
  have l2 := dec_len (u / 65536 % 256) (by omega)
  have l3 := dec_len (u / 256 % 256) (by omega)
  have l4 := dec_len (u % 256) (by omega)
  have a1 : wrap64 (Int.tdiv (u : Int) 16777216) = ((u / 16777216 : Nat) : Int) := tdiv_nat u 16777216 (by omega)
  have b2 : wrap64 (Int.tdiv (u : Int) 65536) = ((u / 65536 : Nat) : Int) := tdiv_nat u 65536 (by omega)
  have b3 : wrap64 (Int.tdiv (u : Int) 256) = ((u / 256 : Nat) : Int) := tdiv_nat u 256 (by omega)
  have a2 : Int.tmod ((u / 65536 : Nat) : Int) 256 = ((u / 65536 % 256 : Nat) : Int) := tmod_nat _ 256
  have a3 : Int.tmod ((u / 256 : Nat) : Int) 256 = ((u / 256 % 256 : Nat) : Int) := tmod_nat _ 256
  have a4 : Int.tmod (u : Int) 256 = ((u % 256 : Nat) : Int) := tmod_nat _ 256
  unfold spec_l2Four.f
  rw [a1, b2, b3, a2, a3, a4]
  refine Ev.bind (l1Dec_ev _ (by omega)) ?_
  refine Ev.congr (fun k => if_pos (by rw [mkB_size]; omega)) ?_
  refine Ev.bind (l1Dec_ev _ (by omega)) ?_
  rw [dot_mk]
  simp only [mkB_app]
  refine Ev.congr (fun k => if_pos (by simp only [mkB_size, List.length_append, List.length_cons, List.length_nil]; omega)) ?_
  refine Ev.congr (fun k => if_pos (by simp only [mkB_size, List.length_append, List.length_cons, List.length_nil]; omega)) ?_
  refine Ev.bind (l1Dec_ev _ (by omega)) ?_
  simp only [mkB_app]
  refine Ev.congr (fun k => if_pos (by simp only [mkB_size, List.length_append, List.length_cons, List.length_nil]; omega)) ?_
  refine Ev.congr (fun k => if_pos (by simp only [mkB_size, List.length_append, List.length_cons, List.length_nil]; omega)) ?_
  refine Ev.bind (l1Dec_ev _ (by omega)) ?_
  simp only [mkB_app]
  refine Ev.congr (fun k => if_pos (by simp only [mkB_size, List.length_append, List.length_cons, List.length_nil]; omega)) ?_
  have e : Lib.decDigits (u / 16777216) ++ [46] ++ Lib.decDigits (u / 65536 % 256) ++ [46] ++ Lib.decDigits (u / 256 % 256) ++ [46] ++ Lib.decDigits (u % 256) = fourT u := by simp [fourT]
  rw [e]
  exact Ev.now _
theorem and255 (n : Int) : Go.bits .and .i64 n 255 = n % 256 := by
  have h255 : (BitVec.ofInt 64 255).toNat = 2 ^ 8 - 1 := by decide
  have key : (BitVec.ofInt 64 n &&& BitVec.ofInt 64 255).toNat = (n % ((2 ^ 64 : Nat) : Int)).toNat % 2 ^ 8 := by
    rw [BitVec.toNat_and, BitVec.toNat_ofInt, h255, Nat.and_two_pow_sub_one_eq_mod]
  show IntKind.i64.wrap ((BitVec.ofInt 64 n &&& BitVec.ofInt 64 255).toNat : Nat) = n % 256
  rw [key, IntKind.wrap_i64]
  omega
/-! ### hosts: admissible, written -/
def hostOkM (kind : Int) (name : Bs) (addr : Int) : Bool :=
  if kind = 0 then name == [] && addr == 0 else if kind = 1 then isNameM name && !endsM name && addr == 0 else if kind = 2 then name == [] && decide (0 ≤ addr ∧ addr ≤ 4294967295) else false
def hostPutM (kind : Int) (name : Bs) (addr : Int) : Bs := if hostOkM kind name addr = true then (if kind = 2 then fourT addr.toNat else name) else []
theorem hostOk_impl (kind : Int) (name : ByteArray) (addr : Int) (hs : name.size < 4294967281) : Ev (fun k => impl_HostOk.f k kind name addr) (hostOkM kind (B name) addr) := by
  unfold impl_HostOk.f hostOkM
  by_cases h0 : kind = 0
  · subst h0
    refine Ev.eq (Ev.now _) (fun k => ?_)
    rw [if_pos rfl, if_pos rfl, tl_B]; simp
  by_cases h1 : kind = 1
  · subst h1
    refine Ev.congr (fun k => (if_neg h0).trans (if_pos rfl)) ?_
    rw [if_neg h0, if_pos rfl]
    by_cases ha : addr = 0
    · subst ha
      refine Ev.congr (fun k => if_pos rfl) ?_
      refine Ev.bind (isHostName_ev name hs) ?_
      cases hn : isNameM (B name)
      · exact Ev.eq (Ev.now _) (fun k => by simp)
      · refine Ev.congr (fun k => if_pos rfl) ?_
        refine Ev.bind (endsInNumber_ev name hs) ?_
        exact Ev.eq (Ev.now _) (fun k => by simp)
    · refine Ev.eq (Ev.now _) (fun k => ?_)
      rw [if_neg ha]; simp [ha]
  by_cases h2 : kind = 2
  · subst h2
    refine Ev.congr (fun k => (if_neg h0).trans ((if_neg h1).trans (if_pos rfl))) ?_
    rw [if_neg h0, if_neg h1, if_pos rfl]
    by_cases hb : B name = []
    · refine Ev.congr (fun k => if_pos (by rw [tl_B]; exact hb)) ?_
      refine Ev.eq (Ev.now _) (fun k => ?_)
      rw [in_impl, Option.bind_some]; simp [hb]
    · refine Ev.congr (fun k => if_neg (by rw [tl_B]; exact hb)) ?_
      refine Ev.eq (Ev.now _) (fun k => ?_)
      simp [hb]
  · refine Ev.eq (Ev.now _) (fun k => ?_)
    rw [if_neg h0, if_neg h1, if_neg h2, if_neg h0, if_neg h1, if_neg h2]
theorem hostOk_spec (kind : Int) (name : ByteArray) (addr : Int) (hs : name.size < 4294967281) : Ev (fun k => spec_HostOk.f k kind name addr) (hostOkM kind (B name) addr) := by
  unfold spec_HostOk.f hostOkM
  by_cases h0 : kind = 0
  · subst h0
    refine Ev.congr (fun k => if_pos rfl) ?_
    rw [if_pos rfl]
    refine Ev.eq (Ev.now _) (fun k => ?_)
    rw [tl_B]
    by_cases hb : B name = []
    · rw [if_pos hb]; simp [hb]
    · rw [if_neg hb]; simp [hb]
  by_cases h1 : kind = 1
  · subst h1
    refine Ev.congr (fun k => (if_neg h0).trans (if_pos rfl)) ?_
    rw [if_neg h0, if_pos rfl]
    refine Ev.bind (l2Name_ev name hs) ?_
    cases hn : isNameM (B name)
    · exact Ev.eq (Ev.now _) (fun k => by simp)
    · refine Ev.congr (fun k => if_pos rfl) ?_
      refine Ev.bind (l2Ends_ev name hs) ?_
      cases endsM (B name)
      · exact Ev.eq (Ev.now _) (fun k => by simp)
      · exact Ev.eq (Ev.now _) (fun k => by simp)
  by_cases h2 : kind = 2
  · subst h2
    refine Ev.congr (fun k => (if_neg h0).trans ((if_neg h1).trans (if_pos rfl))) ?_
    rw [if_neg h0, if_neg h1, if_pos rfl]
    by_cases hb : B name = []
    · refine Ev.congr (fun k => if_pos (by rw [tl_B]; exact hb)) ?_
      refine Ev.eq (Ev.now _) (fun k => ?_)
      rw [in_spec, Option.bind_some]; simp [hb]
    · refine Ev.congr (fun k => if_neg (by rw [tl_B]; exact hb)) ?_
      refine Ev.eq (Ev.now _) (fun k => ?_)
      simp [hb]
  · refine Ev.eq (Ev.now _) (fun k => ?_)
    rw [if_neg h0, if_neg h1, if_neg h2, if_neg h0, if_neg h1, if_neg h2]
theorem hostOk_two {name : Bs} {addr : Int} (h : hostOkM 2 name addr = true) : name = [] ∧ 0 ≤ addr ∧ addr ≤ 4294967295 := by
  unfold hostOkM at h
  rw [if_neg (by omega), if_neg (by omega), if_pos rfl] at h
  simp at h
  exact h
theorem hostPut_spec (kind : Int) (name : ByteArray) (addr : Int) (hs : name.size < 4294967281) : Ev (fun k => spec_HostPut.f k kind name addr) (mkB (hostPutM kind (B name) addr)) := by
  unfold spec_HostPut.f hostPutM
  refine Ev.bind (hostOk_spec kind name addr hs) ?_
  cases h : hostOkM kind (B name) addr
  · exact Ev.eq (Ev.now _) (fun k => by simp [mkB])
  · refine Ev.congr (fun k => if_pos rfl) ?_
    rw [if_pos rfl]
    by_cases h2 : kind = 2
    · subst h2
      obtain ⟨_, ha0, ha1⟩ := hostOk_two h
      refine Ev.congr (fun k => if_pos rfl) ?_
      rw [if_pos rfl]
      have e : addr = ((addr.toNat : Nat) : Int) := by omega
      have := l2Four_ev addr.toNat (by omega)
      rw [← e] at this
      exact Ev.bind this (Ev.now _)
    · refine Ev.eq (Ev.now _) (fun k => ?_)
      rw [if_neg h2, if_neg h2, mkB_B]
theorem shr24 (u : Nat) : shr .i64 (u : Int) 24 = ((u / 16777216 : Nat) : Int) := by
  have : shr .i64 (u : Int) 24 = (u : Int) / (2 : Int) ^ (24 : Nat) := rfl
  rw [this, show (2 : Int) ^ (24 : Nat) = 16777216 from rfl]; omega
theorem shr16 (u : Nat) : shr .i64 (u : Int) 16 = ((u / 65536 : Nat) : Int) := by
  have : shr .i64 (u : Int) 16 = (u : Int) / (2 : Int) ^ (16 : Nat) := rfl
  rw [this, show (2 : Int) ^ (16 : Nat) = 65536 from rfl]; omega
theorem shr8 (u : Nat) : shr .i64 (u : Int) 8 = ((u / 256 : Nat) : Int) := by
  have : shr .i64 (u : Int) 8 = (u : Int) / (2 : Int) ^ (8 : Nat) := rfl
  rw [this, show (2 : Int) ^ (8 : Nat) = 256 from rfl]; omega
theorem shr0 (u : Nat) : shr .i64 (u : Int) 0 = (u : Int) := by
  have : shr .i64 (u : Int) 0 = (u : Int) / (2 : Int) ^ (0 : Nat) := rfl
  rw [this, show (2 : Int) ^ (0 : Nat) = 1 from rfl]; omega
theorem and_itoa (v : Int) (u : Nat) (hv : v = (u : Int)) : strconv_Itoa.f (Go.bits .and .i64 v 255) = some (mkB (Lib.decDigits (u % 256))) := by
  subst hv
  have e : ((u : Int) % 256) = ((u % 256 : Nat) : Int) := by omega
  rw [and255, e, itoa_impl _ (by omega)]
theorem join_four (a b c d : Bs) (ha : a.length ≤ 21) (hb : b.length ≤ 21) (hc : c.length ≤ 21) (hd : d.length ≤ 21) :
    strings_Join.f [mkB a, mkB b, mkB c, mkB d] (⟨#[46]⟩ : ByteArray) = some (mkB (a ++ 46 :: (b ++ 46 :: (c ++ 46 :: d)))) := by
  have e : Lib.join ([mkB a, mkB b, mkB c, mkB d].map (·.data.toList)) ((⟨#[46]⟩ : ByteArray).data.toList) = a ++ 46 :: (b ++ 46 :: (c ++ 46 :: d)) := by
    simp [Lib.join_cons, Lib.joinTail, mkB]
  unfold strings_Join.f
  rw [e, if_pos]
  · rfl
  · simp; omega
theorem hostPut_impl (kind : Int) (name : ByteArray) (addr : Int) (hs : name.size < 4294967281) : Ev (fun k => impl_HostPut.f k kind name addr) (mkB (hostPutM kind (B name) addr)) := by
  unfold impl_HostPut.f hostPutM
  refine Ev.bind (hostOk_impl kind name addr hs) ?_
  cases h : hostOkM kind (B name) addr
  · refine Ev.congr (fun k => if_neg (by simp)) ?_
    refine Ev.up (f := fun k => (impl_HostOk.f k kind name addr).bind fun t221 => (if t221 = true then (some name) else (some (⟨#[]⟩ : ByteArray)))) ?_ (fun k => by rw [impl_HostPut.j0, if_pos rfl])
    refine Ev.bind (hostOk_impl kind name addr hs) ?_
    rw [h]
    exact Ev.now _
  · refine Ev.congr (fun k => if_pos rfl) ?_
    rw [if_pos rfl]
    by_cases h2 : kind = 2
    · subst h2
      obtain ⟨_, ha0, ha1⟩ := hostOk_two h
      obtain ⟨u, rfl⟩ : ∃ u : Nat, addr = (u : Int) := ⟨addr.toNat, by omega⟩
      rw [if_pos rfl]
      refine Ev.up (f := fun k => impl_HostPut.l0 k ([] : List ByteArray) 24 2 name u) ?_ (fun k => by rw [impl_HostPut.j0, if_neg (by decide)])
      have w1 : wrap64 ((24 : Int) - 8) = 16 := by rw [w64 (by omega) (by omega)]; rfl
      have w2 : wrap64 ((16 : Int) - 8) = 8 := by rw [w64 (by omega) (by omega)]; rfl
      have w3 : wrap64 ((8 : Int) - 8) = 0 := by rw [w64 (by omega) (by omega)]; rfl
      have w4 : wrap64 ((0 : Int) - 8) = -8 := by rw [w64 (by omega) (by omega)]; rfl
      refine Ev.up (f := fun k => impl_HostPut.l0 k [mkB (Lib.decDigits (u / 16777216 % 256))] 16 2 name u) ?_ (fun k => by
        rw [impl_HostPut.l0, if_pos (by omega), if_pos (by omega), and_itoa _ _ (shr24 u), Option.bind_some, if_pos (by simp), w1]; rfl)
      refine Ev.up (f := fun k => impl_HostPut.l0 k [mkB (Lib.decDigits (u / 16777216 % 256)), mkB (Lib.decDigits (u / 65536 % 256))] 8 2 name u) ?_ (fun k => by
        rw [impl_HostPut.l0, if_pos (by omega), if_pos (by omega), and_itoa _ _ (shr16 u), Option.bind_some, if_pos (by simp), w2]; rfl)
      refine Ev.up (f := fun k => impl_HostPut.l0 k [mkB (Lib.decDigits (u / 16777216 % 256)), mkB (Lib.decDigits (u / 65536 % 256)), mkB (Lib.decDigits (u / 256 % 256))] 0 2 name u) ?_ (fun k => by
        rw [impl_HostPut.l0, if_pos (by omega), if_pos (by omega), and_itoa _ _ (shr8 u), Option.bind_some, if_pos (by simp), w3]; rfl)
      refine Ev.up (f := fun k => impl_HostPut.l0 k [mkB (Lib.decDigits (u / 16777216 % 256)), mkB (Lib.decDigits (u / 65536 % 256)), mkB (Lib.decDigits (u / 256 % 256)), mkB (Lib.decDigits (u % 256))] (-8) 2 name u) ?_ (fun k => by
        rw [impl_HostPut.l0, if_pos (by omega), if_pos (by omega), and_itoa _ _ (shr0 u), Option.bind_some, if_pos (by simp), w4]; rfl)
      refine Ev.up (Ev.now _) (fun k => ?_)
      rw [impl_HostPut.l0, if_neg (by omega), join_four _ _ _ _ (dec_len _ (by omega)) (dec_len _ (by omega)) (dec_len _ (by omega)) (dec_len _ (by omega)), Option.bind_some]
      have e : u / 16777216 % 256 = u / 16777216 := by omega
      rw [e]
      rfl
    · refine Ev.up (f := fun k => (impl_HostOk.f k kind name addr).bind fun t221 => (if t221 = true then (some name) else (some (⟨#[]⟩ : ByteArray)))) ?_ (fun k => by rw [impl_HostPut.j0, if_pos (by simpa using h2)])
      refine Ev.bind (hostOk_impl kind name addr hs) ?_
      rw [h, if_neg h2, mkB_B]
      exact Ev.now _
/-! ### a text as four numbers -/
def pw (i : Nat) : Int := if i = 0 then 4294967296 else if i = 1 then 16777216 else if i = 2 then 65536 else if i = 3 then 256 else 1
def fourGo : Nat → Int → List Bs → Option Int
  | _, v, [] => some v
  | i, v, [p] => match lnumM p with | some n => if n < pw i then some (v * pw i + n) else none | none => none
  | i, v, p :: q :: r => match lnumM p with | some n => if n ≤ 255 then fourGo (i + 1) (v * 256 + n) (q :: r) else none | none => none
def fourGetM (l : Bs) : Option Int := if 200 < l.length ∨ 4 < (labelsM l).length then none else fourGo 0 0 (labelsM l)
def fourR (o : Option Int) : Int × Bool := match o with | some v => (v, true) | none => (0, false)
theorem pw_range (i : Nat) : 1 ≤ pw i ∧ pw i ≤ 4294967296 := by unfold pw; repeat' split <;> omega
theorem pw_mul (i : Nat) (h : i ≤ 3) : pw i = 256 * pw (i + 1) := by
  obtain rfl | rfl | rfl | rfl : i = 0 ∨ i = 1 ∨ i = 2 ∨ i = 3 := by omega
  all_goals simp [pw]
def up (i : Nat) : Int := if i = 0 then 1 else if i = 1 then 256 else if i = 2 then 65536 else if i = 3 then 16777216 else 4294967296
theorem fourGo_range : ∀ (r : List Bs) (i : Nat) (v x : Int), i + r.length ≤ 4 → 0 ≤ v → v < up i → (r = [] → i = 4) → fourGo i v r = some x → 0 ≤ x ∧ x ≤ 4294967295
  | [], i, v, x, _, h0, h1, h2, h => by
    obtain rfl := h2 rfl
    simp [fourGo] at h
    simp [up] at h1
    omega
  | [p], i, v, x, hi, h0, h1, _, h => by
    simp only [fourGo] at h
    cases hn : lnumM p with
    | none => rw [hn] at h; simp at h
    | some n =>
      have := lnumM_range p n hn
      rw [hn] at h
      simp only [Option.ite_none_right_eq_some, Option.some.injEq] at h
      have h4 : i ≤ 3 := by simp at hi; omega
      obtain rfl | rfl | rfl | rfl : i = 0 ∨ i = 1 ∨ i = 2 ∨ i = 3 := by omega
      all_goals (simp [pw, up] at h h1; omega)
  | p :: q :: r, i, v, x, hi, h0, h1, _, h => by
    simp only [fourGo] at h
    cases hn : lnumM p with
    | none => rw [hn] at h; simp at h
    | some n =>
      have := lnumM_range p n hn
      rw [hn] at h
      simp only [Option.ite_none_right_eq_some] at h
      refine fourGo_range (q :: r) (i + 1) (v * 256 + n) x (by simp at hi ⊢; omega) (by omega) ?_ (by simp) h.2
      have h4 : i ≤ 2 := by simp at hi; omega
      obtain rfl | rfl | rfl : i = 0 ∨ i = 1 ∨ i = 2 := by omega
      all_goals (simp [up] at h1 ⊢; omega)
theorem fourGet_range (l : Bs) (x : Int) (h : fourGetM l = some x) : 0 ≤ x ∧ x ≤ 4294967295 := by
  unfold fourGetM at h
  split at h
  · cases h
  · refine fourGo_range (labelsM l) 0 0 x (by omega) (by omega) (by simp [up]) (fun e => absurd e (labels_ne l)) h
/-- One part of the text, as the reference reads it. -/
theorem specFour_go (ps : List Bs) (hps : ps.length ≤ 4) (hs : ∀ p ∈ ps, (mkB p).size < 4294967281) : ∀ (r : List Bs) (i : Nat) (v : Int), ps.drop i = r → i ≤ ps.length → 0 ≤ v → v < up i →
    Ev (fun k => spec_FourGet.l0 k (ps.map mkB) v (i : Int)) (fourR (fourGo i v r))
  | [], i, v, hr, hi, h0, h1 => by
    obtain rfl := get_nil hi hr
    refine Ev.up (Ev.now _) (fun k => ?_)
    rw [spec_FourGet.l0, if_neg (by simp)]
    rfl
  | p :: r, i, v, hr, hi, h0, h1 => by
    obtain ⟨g1, g2, g3⟩ := get_cons hr
    have hrd : rdOf ByteArray.empty (ps.map mkB) (i : Int) = mkB p := rdOf_get _ _ _ _ (by simp [g2])
    have hp := l2Part_ev (mkB p) (hs p (List.mem_of_getElem? g2))
    rw [B_mkB] at hp
    have hlen : ps.length = i + r.length + 1 := by
      have := congrArg List.length hr
      simp at this
      omega
    have hw : wrap64 ((((ps.map mkB).length : Nat) : Int) - 1) = (((ps.length - 1 : Nat)) : Int) := by rw [List.length_map]; exact w_pred _ (by omega) (by omega)
    refine Ev.up (f := fun k => (spec_l2Part.f k (mkB p)).bind fun t144 => (if (i : Int) = ((ps.length - 1 : Nat) : Int) then (spec_FourGet.l1 k (ps.map mkB) v i t144 255 i) else ((spec_l1In.f t144 0 255).bind fun t146 => (if t146 = true then (spec_FourGet.l0 k (ps.map mkB) (wrap64 ((wrap64 (v * 256)) + t144)) (wrap64 ((i : Int) + 1))) else (some (0, false)))))) ?_ (fun k => by
      rw [spec_FourGet.l0, if_pos (by simp; omega), if_pos (by omega), hrd, hw])
    refine Ev.bind hp ?_
    cases r with
    | nil =>
      have hi4 : i ≤ 3 := by simp at hlen; omega
      refine Ev.congr (fun k => if_pos (by simp at hlen; omega)) ?_
      have key : ∀ t : Int, -1 ≤ t → t ≤ 68719476735 → Ev (fun k => spec_FourGet.l1 k (ps.map mkB) v (i : Int) t (pw i - 1) 3) (if 0 ≤ t ∧ t < pw i then (v * pw i + t, true) else (0, false)) := by
        intro t ht0 ht1
        have hpw := pw_range i
        by_cases hc : 0 ≤ t ∧ t < pw i
        · rw [if_pos hc]
          have e1 : wrap64 (pw i - 1 + 1) = pw i := by rw [w64 (by omega) (by omega)]; omega
          have b : 0 ≤ v * pw i ∧ v * pw i + t ≤ 4294967295 := by
            obtain rfl | rfl | rfl | rfl : i = 0 ∨ i = 1 ∨ i = 2 ∨ i = 3 := by omega
            all_goals (simp [pw, up] at *; omega)
          have e2 : wrap64 (wrap64 (v * pw i) + t) = v * pw i + t := by rw [w64 (x := v * pw i) (by omega) (by omega), w64 (by omega) (by omega)]
          refine Ev.up (f := fun k => spec_FourGet.l0 k (ps.map mkB) (v * pw i + t) ((i + 1 : Nat) : Int)) ?_ (fun k => by
            rw [spec_FourGet.l1, if_neg (by omega), in_spec, Option.bind_some, if_pos (by simp; omega), e1, e2, w_succ i (by omega)])
          refine Ev.up (Ev.now _) (fun k => ?_)
          rw [spec_FourGet.l0, if_neg (by simp at hlen ⊢; omega)]
        · rw [if_neg hc]
          refine Ev.up (Ev.now _) (fun k => ?_)
          rw [spec_FourGet.l1, if_neg (by omega), in_spec, Option.bind_some, if_neg (by simp; omega)]
      have res : fourR (fourGo i v [p]) = (if 0 ≤ (lnumM p).getD (-1) ∧ (lnumM p).getD (-1) < pw i then (v * pw i + (lnumM p).getD (-1), true) else (0, false)) := by
        cases hn : lnumM p with
        | none => simp [fourGo, hn, fourR]
        | some n =>
          have := lnumM_range p n hn
          simp only [fourGo, hn, Option.getD]
          by_cases hc : n < pw i
          · rw [if_pos hc, if_pos ⟨this.1, hc⟩]; rfl
          · rw [if_neg hc, if_neg (by omega)]; rfl
      rw [res]
      have ht : -1 ≤ (lnumM p).getD (-1) ∧ (lnumM p).getD (-1) ≤ 68719476735 := by
        cases hn : lnumM p with
        | none => simp
        | some n => have := lnumM_range p n hn; simp; omega
      have k3 := key _ ht.1 ht.2
      generalize (lnumM p).getD (-1) = t at *
      have st : ∀ (x j : Int) (k : Nat), j < 3 → 0 ≤ x → x ≤ 16777215 → 0 ≤ j → spec_FourGet.l1 (k + 1) (ps.map mkB) v (i : Int) t x j = spec_FourGet.l1 k (ps.map mkB) v (i : Int) t (x * 256 + 255) (j + 1) := by
        intro x j k hj hx0 hx1 hj0
        rw [spec_FourGet.l1, if_pos hj, w64 (x := x * 256) (by omega) (by omega), w64 (by omega) (by omega), w64 (by omega) (by omega)]
      obtain rfl | rfl | rfl | rfl : i = 0 ∨ i = 1 ∨ i = 2 ∨ i = 3 := by omega
      · exact Ev.up (Ev.up (Ev.up k3 (fun k => st 16777215 2 k (by omega) (by omega) (by omega) (by omega))) (fun k => st 65535 1 k (by omega) (by omega) (by omega) (by omega))) (fun k => st 255 0 k (by omega) (by omega) (by omega) (by omega))
      · exact Ev.up (Ev.up k3 (fun k => st 65535 2 k (by omega) (by omega) (by omega) (by omega))) (fun k => st 255 1 k (by omega) (by omega) (by omega) (by omega))
      · exact Ev.up k3 (fun k => st 255 2 k (by omega) (by omega) (by omega) (by omega))
      · exact k3
    | cons q r =>
      have hi2 : i ≤ 2 := by simp at hlen; omega
      refine Ev.congr (fun k => if_neg (by simp at hlen; omega)) ?_
      refine Ev.bindc (in_spec _ 0 255) ?_
      cases hn : lnumM p with
      | none =>
        refine Ev.eq (Ev.now _) (fun k => ?_)
        simp [fourGo, hn, fourR]
      | some n =>
        have hr0 := lnumM_range p n hn
        simp only [Option.getD_some, fourGo, hn]
        by_cases hc : n ≤ 255
        · have hv : 0 ≤ v * 256 + n ∧ v * 256 + n < up (i + 1) ∧ v ≤ 4294967295 := by
            obtain rfl | rfl | rfl : i = 0 ∨ i = 1 ∨ i = 2 := by omega
            all_goals (simp [up] at *; omega)
          have hv2 : up (i + 1) ≤ 4294967296 := by unfold up; repeat' split <;> omega
          rw [if_pos hc]
          refine Ev.congr (fun k => if_pos (by simp; omega)) ?_
          rw [w64 (x := v * 256) (by omega) (by omega), w64 (by omega) (by omega), w_succ i (by omega)]
          exact specFour_go ps hps hs (q :: r) (i + 1) (v * 256 + n) g3 (by omega) hv.1 hv.2.1
        · rw [if_neg hc]
          refine Ev.eq (Ev.now _) (fun k => ?_)
          rw [if_neg (by simp; omega)]
          rfl
theorem spec_FourGet_ev (s : ByteArray) (hs : s.size < 4294967281) : Ev (fun k => spec_FourGet.f k s) (fourR (fourGetM (B s))) := by
  unfold spec_FourGet.f
  refine Ev.bind (l2Parts_ev s hs) ?_
  unfold fourGetM
  by_cases h4 : 4 < (labelsM (B s)).length
  · refine Ev.congr (fun k => if_pos (by simp; omega)) ?_
    rw [if_pos (Or.inr h4)]
    exact Ev.up (Ev.now _) (fun k => by rw [spec_FourGet.j0, if_pos rfl]; rfl)
  · refine Ev.congr (fun k => if_neg (by simp; omega)) ?_
    by_cases h2 : 200 < (B s).length
    · rw [if_pos (Or.inl h2)]
      refine Ev.up (Ev.now _) (fun k => ?_)
      rw [spec_FourGet.j0, if_pos (by rw [B_len] at h2; simp; omega)]; rfl
    · rw [if_neg (by omega)]
      refine Ev.up (f := fun k => spec_FourGet.l0 k ((labelsM (B s)).map mkB) 0 0) ?_ (fun k => by
        rw [spec_FourGet.j0, if_neg (by rw [B_len] at h2; simp; omega)])
      exact specFour_go (labelsM (B s)) (by omega) (fun p hp => label_small s hs p hp) _ 0 0 rfl (by omega) (by omega) (by simp [up])
theorem shl_c (x : Int) (c : Nat) (p : Int) (hp : (2 : Int) ^ c = p) (hc : c ≤ 64) (h0 : 0 ≤ x * p) (h1 : x * p ≤ 9223372036854775807) : shl .i64 x (c : Int) = x * p := by
  have : shl .i64 x (c : Int) = IntKind.i64.wrap (x * (2 : Int) ^ c) := by
    unfold shl
    rw [show min ((c : Int)).toNat IntKind.i64.bits = c by rw [Int.toNat_natCast]; exact Nat.min_eq_left hc]
  rw [this, hp, IntKind.wrap_i64]
  omega
theorem implFour_go (ps : List Bs) (hps : ps.length ≤ 4) (hs : ∀ p ∈ ps, (mkB p).size < 4294967281) : ∀ (r : List Bs) (i : Nat) (v : Int) (p : Bs), ps.drop i = p :: r → 0 ≤ v → v < up i →
    Ev (fun k => impl_FourGet.l0 k (ps.map mkB) (v * pw i) (ps.map mkB) (((ps.map mkB).length : Nat) : Int) (i : Int)) (fourR (fourGo i v (p :: r)))
  | r, i, v, p, hr, h0, h1 => by
    obtain ⟨g1, g2, g3⟩ := get_cons hr
    have hrd : rdOf ByteArray.empty (ps.map mkB) (i : Int) = mkB p := rdOf_get _ _ _ _ (by simp [g2])
    have hp := labelNumber_ev (mkB p) (hs p (List.mem_of_getElem? g2))
    rw [B_mkB] at hp
    have hlen : ps.length = i + r.length + 1 := by
      have := congrArg List.length hr
      simp at this
      omega
    have hl : (ps.map mkB).length = i + r.length + 1 := by rw [List.length_map]; exact hlen
    have hw : wrap64 ((((ps.map mkB).length : Nat) : Int) - 1) = ((i + r.length : Nat) : Int) := by rw [hl]; exact w_pred _ (by omega) (by omega)
    have hi4 : i ≤ 3 := by omega
    have hpw := pw_range i
    have hb : 0 ≤ v * pw i ∧ v * pw i ≤ 4294967295 := by
      obtain rfl | rfl | rfl | rfl : i = 0 ∨ i = 1 ∨ i = 2 ∨ i = 3 := by omega
      all_goals (simp [pw, up] at *; omega)
    refine Ev.up (f := fun k => (impl_labelNumber.f k (mkB p)).bind fun bt213 => (if (i : Int) = (((i + r.length : Nat)) : Int) then (if 0 ≤ (wrap64 (8 * (wrap64 (5 - (((ps.map mkB).length : Nat) : Int))))) then (impl_FourGet.j2 k (ps.map mkB) (v * pw i) i bt213.1 bt213.2 (wrap64 ((shl .i64 1 (wrap64 (8 * (wrap64 (5 - (((ps.map mkB).length : Nat) : Int)))))) - 1)) (ps.map mkB) (((ps.map mkB).length : Nat) : Int) i) else (none)) else (impl_FourGet.j2 k (ps.map mkB) (v * pw i) i bt213.1 bt213.2 255 (ps.map mkB) (((ps.map mkB).length : Nat) : Int) i))) ?_ (fun k => by
      rw [impl_FourGet.l0, if_pos (by omega), if_pos (by omega), if_pos (by omega), hrd, hw])
    refine Ev.bind hp ?_
    have bad : ∀ (n l : Int) (ok : Bool), ok = false ∨ n > l → Ev (fun k => impl_FourGet.j2 k (ps.map mkB) (v * pw i) i n ok l (ps.map mkB) (((ps.map mkB).length : Nat) : Int) i) (0, false) := by
      intro n l ok h
      cases ok with
      | false =>
        refine Ev.up (f := fun k => impl_FourGet.j3 k (ps.map mkB) (v * pw i) i n (ps.map mkB) (((ps.map mkB).length : Nat) : Int) i true) ?_ (fun k => by rw [impl_FourGet.j2, if_neg (by simp)])
        exact Ev.up (Ev.now _) (fun k => by rw [impl_FourGet.j3, if_pos rfl])
      | true =>
        have hn : n > l := h.resolve_left (by simp)
        refine Ev.up (f := fun k => impl_FourGet.j3 k (ps.map mkB) (v * pw i) i n (ps.map mkB) (((ps.map mkB).length : Nat) : Int) i true) ?_ (fun k => by rw [impl_FourGet.j2, if_pos rfl, decide_eq_true hn])
        exact Ev.up (Ev.now _) (fun k => by rw [impl_FourGet.j3, if_pos rfl])
    cases r with
    | nil =>
      have h5 : wrap64 (5 - (((ps.map mkB).length : Nat) : Int)) = ((4 - i : Nat) : Int) := by rw [hl, w64 (by simp; omega) (by simp; omega)]; simp; omega
      have h8 : wrap64 (8 * ((4 - i : Nat) : Int)) = ((8 * (4 - i) : Nat) : Int) := by rw [w64 (by omega) (by omega)]; omega
      have hlim : wrap64 (shl .i64 1 ((8 * (4 - i) : Nat) : Int) - 1) = pw i - 1 := by
        rw [shl_c 1 (8 * (4 - i)) (pw i) (by obtain rfl | rfl | rfl | rfl : i = 0 ∨ i = 1 ∨ i = 2 ∨ i = 3 := by omega
                                             all_goals rfl) (by omega) (by omega) (by omega), w64 (by omega) (by omega)]
        omega
      refine Ev.congr (fun k => if_pos (by simp)) ?_
      refine Ev.congr (fun k => if_pos (by rw [h5, h8]; omega)) ?_
      rw [h5, h8, hlim]
      cases hn : lnumM p with
      | none =>
        simp only [lnumR, hn, fourGo, fourR]
        exact bad _ _ _ (Or.inl rfl)
      | some n =>
        have hr0 := lnumM_range p n hn
        simp only [lnumR, hn, fourGo]
        by_cases hc : n < pw i
        · rw [if_pos hc]
          have b : v * pw i + n ≤ 4294967295 := by
            obtain rfl | rfl | rfl | rfl : i = 0 ∨ i = 1 ∨ i = 2 ∨ i = 3 := by omega
            all_goals (simp [pw, up] at *; omega)
          refine Ev.up (f := fun k => impl_FourGet.j3 k (ps.map mkB) (v * pw i) i n (ps.map mkB) (((ps.map mkB).length : Nat) : Int) i false) ?_ (fun k => by
            rw [impl_FourGet.j2, if_pos rfl, decide_eq_false (show ¬ n > pw i - 1 by omega)])
          refine Ev.up (f := fun k => impl_FourGet.l0 k (ps.map mkB) (v * pw i + n) (ps.map mkB) (((ps.map mkB).length : Nat) : Int) ((i + 1 : Nat) : Int)) ?_ (fun k => by
            rw [impl_FourGet.j3, if_neg (by simp), hw, if_neg (by simp), w64 (x := v * pw i + n) (by omega) (by omega), w_succ i (by omega)])
          exact Ev.up (Ev.now _) (fun k => by rw [impl_FourGet.l0, if_neg (by rw [hl]; simp)]; rfl)
        · rw [if_neg hc]
          exact bad _ _ _ (Or.inr (by omega))
    | cons q r =>
      have hi2 : i ≤ 2 := by simp at hlen; omega
      refine Ev.congr (fun k => if_neg (by simp; omega)) ?_
      cases hn : lnumM p with
      | none =>
        simp only [lnumR, hn, fourGo, fourR]
        exact bad _ _ _ (Or.inl rfl)
      | some n =>
        have hr0 := lnumM_range p n hn
        simp only [lnumR, hn, fourGo]
        by_cases hc : n ≤ 255
        · rw [if_pos hc]
          have hv : 0 ≤ v * 256 + n ∧ v * 256 + n < up (i + 1) ∧ v * pw i + n * pw (i + 1) = (v * 256 + n) * pw (i + 1) ∧ (v * 256 + n) * pw (i + 1) ≤ 4294967295 ∧ n * pw (i + 1) ≤ 4294967295 ∧ 0 ≤ n * pw (i + 1) ∧ 0 ≤ (v * 256 + n) * pw (i + 1) := by
            obtain rfl | rfl | rfl : i = 0 ∨ i = 1 ∨ i = 2 := by omega
            all_goals (simp [up, pw] at *; omega)
          have h3 : wrap64 (3 - (i : Int)) = ((3 - i : Nat) : Int) := by rw [w64 (by omega) (by omega)]; omega
          have h8 : wrap64 (8 * ((3 - i : Nat) : Int)) = ((8 * (3 - i) : Nat) : Int) := by rw [w64 (by omega) (by omega)]; omega
          have hsh : shl .i64 n ((8 * (3 - i) : Nat) : Int) = n * pw (i + 1) := shl_c n (8 * (3 - i)) (pw (i + 1)) (by
            obtain rfl | rfl | rfl : i = 0 ∨ i = 1 ∨ i = 2 := by omega
            all_goals rfl) (by omega) hv.2.2.2.2.2.1 (by omega)
          refine Ev.up (f := fun k => impl_FourGet.j3 k (ps.map mkB) (v * pw i) i n (ps.map mkB) (((ps.map mkB).length : Nat) : Int) i false) ?_ (fun k => by
            rw [impl_FourGet.j2, if_pos rfl, decide_eq_false (show ¬ n > 255 by omega)])
          refine Ev.up (f := fun k => impl_FourGet.l0 k (ps.map mkB) ((v * 256 + n) * pw (i + 1)) (ps.map mkB) (((ps.map mkB).length : Nat) : Int) ((i + 1 : Nat) : Int)) ?_ (fun k => by
            rw [impl_FourGet.j3, if_neg (by simp), hw, if_pos (by simp; omega), h3, h8, if_pos (by omega), hsh, hv.2.2.1, w64 (x := (v * 256 + n) * pw (i + 1)) (by omega) (by omega), w_succ i (by omega)])
          exact implFour_go ps hps hs r (i + 1) (v * 256 + n) q g3 hv.1 hv.2.1
        · rw [if_neg hc]
          exact bad _ _ _ (Or.inr (by omega))
theorem impl_FourGet_ev (s : ByteArray) (hs : s.size < 4294967281) : Ev (fun k => impl_FourGet.f k s) (fourR (fourGetM (B s))) := by
  unfold impl_FourGet.f
  refine Ev.bindc (labels_impl s hs) ?_
  unfold fourGetM
  by_cases h2 : 200 < (B s).length
  · rw [if_pos (Or.inl h2)]
    refine Ev.congr (fun k => if_pos (by rw [B_len] at h2; omega)) ?_
    exact Ev.up (Ev.now _) (fun k => by rw [impl_FourGet.j0, if_pos rfl]; rfl)
  · refine Ev.congr (fun k => if_neg (by rw [B_len] at h2; omega)) ?_
    by_cases h4 : 4 < (labelsM (B s)).length
    · rw [if_pos (Or.inr h4)]
      refine Ev.up (Ev.now _) (fun k => ?_)
      rw [impl_FourGet.j0, if_pos (by simp; omega)]; rfl
    · rw [if_neg (by omega)]
      refine Ev.up (f := fun k => impl_FourGet.l0 k ((labelsM (B s)).map mkB) 0 ((labelsM (B s)).map mkB) ((((labelsM (B s)).map mkB).length : Nat) : Int) 0) ?_ (fun k => by
        rw [impl_FourGet.j0, if_neg (by simp; omega)])
      cases hl : labelsM (B s) with
      | nil => exact absurd hl (labels_ne _)
      | cons p r =>
        have := implFour_go (labelsM (B s)) (by omega) (fun p hp => label_small s hs p hp) r 0 0 p hl (by omega) (by simp [up])
        rw [hl] at this
        exact this
/-- The texts that are four numbers, written as 'HostPut' writes them. -/
def isFourM (l : Bs) : Bool := match fourGetM l with | some v => fourT v.toNat == l | none => false
theorem hostPut_four (v : Int) (h : 0 ≤ v ∧ v ≤ 4294967295) : hostPutM 2 [] v = fourT v.toNat := by
  unfold hostPutM
  rw [if_pos (by simp [hostOkM]; omega), if_pos rfl]
theorem isFour_ev (s : ByteArray) (hs : s.size < 4294967281) : Ev (fun k => impl_isFour.f k s) (isFourM (B s)) := by
  unfold impl_isFour.f
  refine Ev.bind (impl_FourGet_ev s hs) ?_
  unfold isFourM
  cases h : fourGetM (B s) with
  | none => exact Ev.eq (Ev.now _) (fun k => by simp [fourR])
  | some v =>
    have hv := fourGet_range _ v h
    refine Ev.congr (fun k => if_pos rfl) ?_
    refine Ev.bind (hostPut_impl 2 (⟨#[]⟩ : ByteArray) v (by decide)) ?_
    refine Ev.eq (Ev.now _) (fun k => ?_)
    rw [tl_B, tl_B, B_mkB, show B (⟨#[]⟩ : ByteArray) = [] from rfl, hostPut_four v hv]
theorem l7Four_ev (s : ByteArray) (hs : s.size < 4294967281) : Ev (fun k => spec_l7Four.f k s) (isFourM (B s)) := by
  unfold spec_l7Four.f
  refine Ev.bind (spec_FourGet_ev s hs) ?_
  unfold isFourM
  cases h : fourGetM (B s) with
  | none => exact Ev.eq (Ev.now _) (fun k => by simp [fourR])
  | some v =>
    have hv := fourGet_range _ v h
    refine Ev.congr (fun k => if_pos rfl) ?_
    refine Ev.bind (hostPut_spec 2 (⟨#[]⟩ : ByteArray) v (by decide)) ?_
    refine Ev.eq (Ev.now _) (fun k => ?_)
    rw [tl_B, tl_B, B_mkB, show B (⟨#[]⟩ : ByteArray) = [] from rfl, hostPut_four v hv]
/-! ### cookies: names and values, prefixes, the whole -/
def tokB (c : UInt8) : Bool := decide (33 ≤ c.toNat) && decide (c.toNat ≤ 126) && !(c == 59 || c == 44 || c == 61 || c == 34)
def crumbM (l : Bs) : Bool := l.all tokB && decide (l.length ≤ 20)
theorem idx4 (c : UInt8) : (Lib.indexByte [59, 44, 61, 34] c ≥ 0) ↔ (c == 59 || c == 44 || c == 61 || c == 34) = true := by
  by_cases h1 : c = 59
  · subst h1; decide
  by_cases h2 : c = 44
  · subst h2; decide
  by_cases h3 : c = 61
  · subst h3; decide
  by_cases h4 : c = 34
  · subst h4; decide
  have e1 : ((59 : UInt8) == c) = false := by simpa using Ne.symm h1
  have e2 : ((44 : UInt8) == c) = false := by simpa using Ne.symm h2
  have e3 : ((61 : UInt8) == c) = false := by simpa using Ne.symm h3
  have e4 : ((34 : UInt8) == c) = false := by simpa using Ne.symm h4
  have : Lib.indexByte [59, 44, 61, 34] c = -1 := by simp only [Lib.indexByte, e1, e2, e3, e4]; rfl
  rw [this]
  simp [h1, h2, h3, h4]
theorem byte_back (c : UInt8) : ((c.toNat : Int)).toNat.toUInt8 = c := by simp
theorem isToken_go (s : ByteArray) (hs : s.size < 4294967281) : ∀ (l : Bs) (i : Nat), (B s).drop i = l → i ≤ s.size → Ev (fun k => impl_isToken.l0 k s (s.size : Int) (i : Int)) (l.all tokB && decide (s.size ≤ 20))
  | [], i, hl, hi => by
    obtain rfl := at_nil hi hl
    refine Ev.up (Ev.now _) (fun k => ?_)
    rw [impl_isToken.l0, if_neg (by omega)]
    simp
    omega
  | c :: l, i, hl, hi => by
    obtain ⟨h1, h2, h3, h4⟩ := at_cons hl
    have ih := isToken_go s hs l (i + 1) h3 (by omega)
    have hI : strings_IndexByte.f (⟨#[59, 44, 61, 34]⟩ : ByteArray) (c.toNat : Int) = some (Lib.indexByte [59, 44, 61, 34] c) := by
      unfold strings_IndexByte.f; rw [byte_back]
    by_cases ht : tokB c = true
    · have ht' := ht
      simp only [tokB, Bool.and_eq_true, decide_eq_true_eq, Bool.not_eq_true'] at ht'
      rw [List.all_cons, ht, Bool.true_and]
      refine Ev.up ih (fun k => ?_)
      rw [impl_isToken.l0, if_pos (by omega), if_pos (by omega), if_pos (by omega), h2, if_neg (by omega), if_neg (by omega), hI, Option.bind_some, if_neg (by rw [idx4, ht'.2]; simp), w_succ i (by omega)]
    · rw [List.all_cons, Bool.eq_false_iff.2 ht, Bool.false_and, Bool.false_and]
      refine Ev.up (Ev.now _) (fun k => ?_)
      rw [impl_isToken.l0, if_pos (by omega), if_pos (by omega), if_pos (by omega), h2]
      by_cases a : c.toNat < 33
      · rw [if_pos (by omega)]
      by_cases b : 126 < c.toNat
      · rw [if_neg (by omega), if_pos (by omega)]
      rw [if_neg (by omega), if_neg (by omega), hI, Option.bind_some, if_pos]
      rw [idx4]
      cases q : (c == 59 || c == 44 || c == 61 || c == 34)
      · exact absurd (by simp [tokB, q]; omega) ht
      · rfl
theorem isToken_ev (s : ByteArray) (hs : s.size < 4294967281) : Ev (fun k => impl_isToken.f k s) (crumbM (B s)) := by
  have := isToken_go s hs (B s) 0 rfl (by omega)
  unfold crumbM
  rw [B_len]
  exact this
theorem l7Crumb_go (s : ByteArray) (hs : s.size < 4294967281) : ∀ (l : Bs) (i : Nat), (B s).drop i = l → i ≤ s.size → Ev (fun k => spec_l7Crumb.l0 k s (i : Int)) (l.all tokB && decide (s.size ≤ 20))
  | [], i, hl, hi => by
    obtain rfl := at_nil hi hl
    refine Ev.up (Ev.now _) (fun k => ?_)
    rw [spec_l7Crumb.l0, if_neg (by omega)]
    simp
    omega
  | c :: l, i, hl, hi => by
    obtain ⟨h1, h2, h3, h4⟩ := at_cons hl
    have ih := l7Crumb_go s hs l (i + 1) h3 (by omega)
    have e1 : ((c.toNat : Int) = 59) ↔ c = 59 := (byte_is c 59).symm
    have e2 : ((c.toNat : Int) = 44) ↔ c = 44 := (byte_is c 44).symm
    have e3 : ((c.toNat : Int) = 61) ↔ c = 61 := (byte_is c 61).symm
    have e4 : ((c.toNat : Int) = 34) ↔ c = 34 := (byte_is c 34).symm
    by_cases ht : tokB c = true
    · have ht' := ht
      simp only [tokB, Bool.and_eq_true, decide_eq_true_eq, Bool.not_eq_true', Bool.or_eq_false_iff, beq_eq_false_iff_ne] at ht'
      rw [List.all_cons, ht, Bool.true_and]
      refine Ev.up ih (fun k => ?_)
      rw [spec_l7Crumb.l0, if_pos (by omega), if_pos (by omega), h2, if_neg (by omega), if_neg (by omega), if_neg (by rw [e1]; exact ht'.2.1.1.1), if_neg (by rw [e2]; exact ht'.2.1.1.2), if_neg (by rw [e3]; exact ht'.2.1.2), if_neg (by rw [e4]; exact ht'.2.2), w_succ i (by omega)]
    · rw [List.all_cons, Bool.eq_false_iff.2 ht, Bool.false_and, Bool.false_and]
      refine Ev.up (Ev.now _) (fun k => ?_)
      rw [spec_l7Crumb.l0, if_pos (by omega), if_pos (by omega), h2]
      by_cases a : c.toNat < 33
      · rw [if_pos (by omega)]
      by_cases b : 126 < c.toNat
      · rw [if_neg (by omega), if_pos (by omega)]
      rw [if_neg (by omega), if_neg (by omega)]
      by_cases q1 : c = 59
      · rw [if_pos (e1.2 q1)]
      by_cases q2 : c = 44
      · rw [if_neg (by rw [e1]; exact q1), if_pos (e2.2 q2)]
      by_cases q3 : c = 61
      · rw [if_neg (by rw [e1]; exact q1), if_neg (by rw [e2]; exact q2), if_pos (e3.2 q3)]
      by_cases q4 : c = 34
      · rw [if_neg (by rw [e1]; exact q1), if_neg (by rw [e2]; exact q2), if_neg (by rw [e3]; exact q3), if_pos (e4.2 q4)]
      exact absurd (by simp [tokB, q1, q2, q3, q4]; omega) ht
theorem l7Crumb_ev (s : ByteArray) (hs : s.size < 4294967281) : Ev (fun k => spec_l7Crumb.f k s) (crumbM (B s)) := by
  have := l7Crumb_go s hs (B s) 0 rfl (by omega)
  unfold crumbM
  rw [B_len]
  exact this
def hostPre : Bs := [95, 95, 72, 111, 115, 116, 45]
def securePre : Bs := [95, 95, 83, 101, 99, 117, 114, 101, 45]
def prefixM (name : Bs) (alone : Bool) (path : Bs) (safe : Bool) : Bool :=
  if hostPre.isPrefixOf name = true then safe && (alone && path == [47]) else if securePre.isPrefixOf name = true then safe else true
theorem pre_take (p l : Bs) : (l.take p.length == p) = p.isPrefixOf l := by
  rw [Bool.eq_iff_iff, beq_iff_eq, List.isPrefixOf_iff_prefix, List.prefix_iff_eq_take]
  exact eq_comm
theorem prefix_impl (n v d : ByteArray) (al : Bool) (p : ByteArray) (u : Int) (sf : Bool) (sm md : Int) : impl_Cookie_prefixOk.f n v d al p u sf sm md = some (prefixM (B n) al (B p) sf) := by
  unfold impl_Cookie_prefixOk.f prefixM
  rw [hasPrefix_eq, Option.bind_some, hasPrefix_eq, Option.bind_some]
  have e1 : B (⟨#[95, 95, 72, 111, 115, 116, 45]⟩ : ByteArray) = hostPre := rfl
  have e2 : B (⟨#[95, 95, 83, 101, 99, 117, 114, 101, 45]⟩ : ByteArray) = securePre := rfl
  rw [e1, e2, tl_B]
  cases hostPre.isPrefixOf (B n) <;> cases securePre.isPrefixOf (B n) <;> cases sf <;> cases al <;> simp
theorem l7Prefix_ev (n v d : ByteArray) (al : Bool) (p : ByteArray) (u : Int) (sf : Bool) (sm md : Int) : Ev (fun k => spec_l7Prefix.f k n v d al p u sf sm md) (prefixM (B n) al (B p) sf) := by
  have t7 : ((n.extract 0 7).toList == hostPre) = hostPre.isPrefixOf (B n) := by
    rw [tl_B, B_ext, List.drop_zero]; exact pre_take hostPre (B n)
  have t9 : ((n.extract 0 9).toList == securePre) = securePre.isPrefixOf (B n) := by
    rw [tl_B, B_ext, List.drop_zero]; exact pre_take securePre (B n)
  have short (q : Bs) (h : n.size < q.length) : q.isPrefixOf (B n) = false := by
    rw [Bool.eq_false_iff]
    intro e
    rw [List.isPrefixOf_iff_prefix] at e
    have := e.length_le
    rw [B_len] at this
    omega
  have last : ∀ b : Bool, b = hostPre.isPrefixOf (B n) → Ev (fun k => spec_l7Prefix.j0 k n b n v d al p u sf sm md) (prefixM (B n) al (B p) sf) := by
    intro b hb
    refine Ev.up (Ev.now _) (fun k => ?_)
    rw [spec_l7Prefix.j0]
    unfold prefixM
    rw [← hb]
    cases b with
    | true => rw [if_pos rfl, if_pos rfl, tl_B]; cases sf <;> cases al <;> simp
    | false =>
      rw [if_neg Bool.false_ne_true, show (if false = true then sf && (al && B p == [47]) else if securePre.isPrefixOf (B n) = true then sf else true) = (if securePre.isPrefixOf (B n) = true then sf else true) from if_neg Bool.false_ne_true]
      by_cases h9 : (n.size : Int) ≥ 9
      · rw [if_pos h9, if_pos (by omega), if_pos (by omega)]
        rw [show (if (n.extract 0 9).toList = ([95, 95, 83, 101, 99, 117, 114, 101, 45] : List UInt8) then some sf else some true) = (if (n.extract 0 9).toList = securePre then some sf else some true) from rfl]
        by_cases hq : (n.extract 0 9).toList = securePre
        · have : securePre.isPrefixOf (B n) = true := by rw [← t9, hq]; simp
          rw [if_pos hq, if_pos this]
        · have : ¬ securePre.isPrefixOf (B n) = true := by rw [← t9]; simpa using hq
          rw [if_neg hq, if_neg this]
      · rw [if_neg h9, short securePre (by simp [securePre]; omega)]; simp
  unfold spec_l7Prefix.f
  by_cases h7 : (n.size : Int) ≥ 7
  · refine Ev.congr (fun k => (if_pos h7).trans ((if_pos (by omega)).trans (if_pos (by omega)))) ?_
    exact last _ t7
  · refine Ev.congr (fun k => if_neg h7) ?_
    exact last _ (short hostPre (by simp [hostPre]; omega)).symm
/-- What comes behind the domain. -/
def cookieTailM (n v p : Bs) (al : Bool) (u : Int) (sf : Bool) (sm md : Int) : Bool :=
  crumbM n && !(n == []) && crumbM v && decide (1 ≤ p.length ∧ p.length ≤ 200) && (p.head? == some 47) && prefixM n al p sf && decide (0 ≤ u ∧ u ≤ 2000001) && decide (0 ≤ md ∧ md ≤ 1000000) && decide (0 ≤ sm ∧ sm ≤ 2) && (!(sm == 0) || sf)
def cookieOkM (n v d : Bs) (al : Bool) (p : Bs) (u : Int) (sf : Bool) (sm md : Int) : Bool := (plainM d || (al && isFourM d)) && cookieTailM n v p al u sf sm md
theorem bt_head (p : ByteArray) (h : 0 < p.size) : (bt p 0 = 47) ↔ ((B p).head? == some 47) = true := by
  cases hb : B p with
  | nil => rw [← B_len, hb] at h; simp at h
  | cons c r =>
    obtain ⟨_, h2, _, _⟩ := at_cons (s := p) (i := 0) (c := c) (l := r) (by rw [List.drop_zero]; exact hb)
    rw [show ((0 : Nat) : Int) = 0 from rfl] at h2
    rw [h2]
    have : ((c.toNat : Int) = 47) ↔ c = 47 := (byte_is c 47).symm
    rw [this]
    simp
theorem tail_impl (n v d : ByteArray) (al : Bool) (p : ByteArray) (u : Int) (sf : Bool) (sm md : Int) (hn : n.size < 4294967281) (hv : v.size < 4294967281) :
    Ev (fun k => ((impl_isToken.f k n).bind fun t236 => (if t236 = true then (if n.toList = ([] : List UInt8) then (some false) else ((impl_isToken.f k v).bind fun t237 => (if t237 = true then ((impl_in.f (p.size : Int) 1 200).bind fun t238 => (if t238 = true then (if 0 < (p.size : Int) then (if (bt p 0) = 47 then ((impl_Cookie_prefixOk.f n v d al p u sf sm md).bind fun t239 => (if t239 = true then ((impl_in.f u 0 2000001).bind fun t240 => (if t240 = true then ((impl_in.f md 0 1000000).bind fun t241 => (if t241 = true then ((impl_in.f sm 0 2).bind fun t242 => (if t242 = true then (if sm = 0 then (some sf) else (some true)) else (some false))) else (some false))) else (some false))) else (some false))) else (some false)) else (none)) else (some false))) else (some false)))) else (some false)))) (cookieTailM (B n) (B v) (B p) al u sf sm md) := by
  unfold cookieTailM
  refine Ev.bind (isToken_ev n hn) ?_
  cases crumbM (B n)
  · exact Ev.eq (Ev.now _) (fun k => by simp)
  refine Ev.congr (fun k => if_pos rfl) ?_
  by_cases hb : B n = []
  · refine Ev.eq (Ev.now _) (fun k => ?_)
    rw [if_pos (by rw [tl_B]; exact hb)]; simp [hb]
  refine Ev.congr (fun k => if_neg (by rw [tl_B]; exact hb)) ?_
  have hb' : (B n == []) = false := by simpa using hb
  rw [hb']
  refine Ev.bind (isToken_ev v hv) ?_
  cases crumbM (B v)
  · exact Ev.eq (Ev.now _) (fun k => by simp)
  refine Ev.congr (fun k => if_pos rfl) ?_
  refine Ev.bindc (in_impl _ _ _) ?_
  rw [B_len]
  by_cases hp : 1 ≤ p.size ∧ p.size ≤ 200
  case neg =>
    refine Ev.eq (Ev.now _) (fun k => ?_)
    rw [if_neg (by simp; omega), decide_eq_false hp]; simp
  refine Ev.congr (fun k => (if_pos (by simp; omega)).trans (if_pos (by omega))) ?_
  rw [decide_eq_true hp]
  have h47 := bt_head p (by omega)
  cases hh : ((B p).head? == some 47)
  · refine Ev.eq (Ev.now _) (fun k => ?_)
    rw [if_neg (by rw [h47, hh]; simp)]; simp
  refine Ev.congr (fun k => if_pos (h47.2 hh)) ?_
  refine Ev.bindc (prefix_impl n v d al p u sf sm md) ?_
  cases prefixM (B n) al (B p) sf
  · exact Ev.eq (Ev.now _) (fun k => by simp)
  refine Ev.eq (Ev.now _) (fun k => ?_)
  simp only [in_impl, Option.bind_some]
  by_cases q1 : 0 ≤ u ∧ u ≤ 2000001 <;> by_cases q2 : 0 ≤ md ∧ md ≤ 1000000 <;> by_cases q3 : 0 ≤ sm ∧ sm ≤ 2 <;> by_cases q4 : sm = 0 <;> simp [q1, q2, q3, q4]
theorem cookieOk_impl (n v d : ByteArray) (al : Bool) (p : ByteArray) (u : Int) (sf : Bool) (sm md : Int) (hn : n.size < 4294967281) (hv : v.size < 4294967281) (hd : d.size < 4294967281) :
    Ev (fun k => impl_CookieOk.f k n v d al p u sf sm md) (cookieOkM (B n) (B v) (B d) al (B p) u sf sm md) := by
  have T := tail_impl n v d al p u sf sm md hn hv
  unfold impl_CookieOk.f cookieOkM
  refine Ev.bind (plainName_ev d hd) ?_
  cases plainM (B d)
  · refine Ev.congr (fun k => if_neg Bool.false_ne_true) ?_
    cases al
    · exact Ev.eq (Ev.now _) (fun k => by simp)
    · refine Ev.congr (fun k => if_pos rfl) ?_
      refine Ev.bind (isFour_ev d hd) ?_
      cases isFourM (B d)
      · exact Ev.eq (Ev.now _) (fun k => by simp)
      · exact Ev.congr (fun k => if_pos rfl) T
  · exact Ev.congr (fun k => if_pos rfl) (by rw [Bool.true_or, Bool.true_and]; exact T)
theorem spec_j1 (n v d : ByteArray) (al : Bool) (p : ByteArray) (u : Int) (sf : Bool) (sm md : Int) (x : Bool) : Ev (fun k => spec_CookieOk.j1 k x n v d al p u sf sm md) (!x && (prefixM (B n) al (B p) sf && decide (0 ≤ u ∧ u ≤ 2000001) && decide (0 ≤ md ∧ md ≤ 1000000) && decide (0 ≤ sm ∧ sm ≤ 2) && (!(sm == 0) || sf))) := by
  cases x
  · refine Ev.up (f := fun k => (spec_l7Prefix.f k n v d al p u sf sm md).bind fun t171 => (if t171 = true then ((spec_l1In.f u 0 2000001).bind fun t172 => (if t172 = true then ((spec_l1In.f sm 0 2).bind fun t173 => (if t173 = true then ((spec_l1In.f md 0 1000000).bind fun t174 => (if t174 = true then (if sm = 0 then (some sf) else (some true)) else (some false))) else (some false))) else (some false))) else (some false))) ?_ (fun k => by rw [spec_CookieOk.j1, if_neg Bool.false_ne_true])
    refine Ev.bind (l7Prefix_ev n v d al p u sf sm md) ?_
    cases prefixM (B n) al (B p) sf
    · exact Ev.eq (Ev.now _) (fun k => by simp)
    refine Ev.eq (Ev.now _) (fun k => ?_)
    simp only [in_spec, Option.bind_some]
    by_cases q1 : 0 ≤ u ∧ u ≤ 2000001 <;> by_cases q2 : 0 ≤ md ∧ md ≤ 1000000 <;> by_cases q3 : 0 ≤ sm ∧ sm ≤ 2 <;> by_cases q4 : sm = 0 <;> simp [q1, q2, q3, q4]
  · exact Ev.up (Ev.now _) (fun k => by rw [spec_CookieOk.j1, if_pos rfl]; rfl)
theorem spec_j0 (n v d : ByteArray) (al : Bool) (p : ByteArray) (u : Int) (sf : Bool) (sm md : Int) (hn : n.size < 4294967281) (hv : v.size < 4294967281) (x : Bool) : Ev (fun k => spec_CookieOk.j0 k x n v d al p u sf sm md) (x && cookieTailM (B n) (B v) (B p) al u sf sm md) := by
  have J := fun x => spec_j1 n v d al p u sf sm md x
  have Jt := J true
  rw [Bool.not_true, Bool.false_and] at Jt
  unfold cookieTailM
  cases x
  · exact Ev.up Jt (fun k => by rw [spec_CookieOk.j0, if_neg Bool.false_ne_true])
  rw [Bool.true_and]
  by_cases hb : B n = []
  · rw [hb]
    have e : (!(([] : Bs) == [])) = false := rfl
    rw [e, Bool.and_false]
    simp only [Bool.false_and]
    exact Ev.up Jt (fun k => by rw [spec_CookieOk.j0, if_pos rfl, if_pos (by rw [tl_B]; exact hb)])
  have hb' : (B n == []) = false := by simpa using hb
  rw [hb']
  refine Ev.up (f := fun k => (spec_l7Crumb.f k n).bind fun t169 => (if t169 = true then ((spec_l7Crumb.f k v).bind fun t170 => (if t170 = true then (if (p.size : Int) = 0 then (spec_CookieOk.j1 k true n v d al p u sf sm md) else (if 0 < (p.size : Int) then (if (bt p 0) = 47 then (spec_CookieOk.j1 k (decide ((p.size : Int) > 200)) n v d al p u sf sm md) else (spec_CookieOk.j1 k true n v d al p u sf sm md)) else (none))) else (spec_CookieOk.j1 k true n v d al p u sf sm md))) else (spec_CookieOk.j1 k true n v d al p u sf sm md))) ?_ (fun k => by
    rw [spec_CookieOk.j0, if_pos rfl, if_neg (by rw [tl_B]; exact hb)])
  refine Ev.bind (l7Crumb_ev n hn) ?_
  cases crumbM (B n)
  · exact Ev.congr (fun k => if_neg Bool.false_ne_true) Jt
  refine Ev.congr (fun k => if_pos rfl) ?_
  refine Ev.bind (l7Crumb_ev v hv) ?_
  cases crumbM (B v)
  · exact Ev.congr (fun k => if_neg Bool.false_ne_true) Jt
  refine Ev.congr (fun k => if_pos rfl) ?_
  rw [B_len]
  by_cases h0 : p.size = 0
  · refine Ev.congr (fun k => if_pos (by omega)) ?_
    rw [decide_eq_false (by omega)]
    exact Jt
  refine Ev.congr (fun k => (if_neg (by omega)).trans (if_pos (by omega))) ?_
  have h47 := bt_head p (by omega)
  cases hh : ((B p).head? == some 47)
  · refine Ev.congr (fun k => if_neg (by rw [h47, hh]; simp)) ?_
    simp only [Bool.and_false, Bool.false_and]
    exact Jt
  refine Ev.congr (fun k => if_pos (h47.2 hh)) ?_
  have := J (decide ((p.size : Int) > 200))
  by_cases hp : p.size ≤ 200
  · rw [decide_eq_true (show 1 ≤ p.size ∧ p.size ≤ 200 by omega)]
    rw [decide_eq_false (show ¬ (p.size : Int) > 200 by omega)] at this ⊢
    exact this
  · rw [decide_eq_false (show ¬ (1 ≤ p.size ∧ p.size ≤ 200) by omega)]
    rw [decide_eq_true (show (p.size : Int) > 200 by omega)] at this ⊢
    exact this
theorem cookieOk_spec (n v d : ByteArray) (al : Bool) (p : ByteArray) (u : Int) (sf : Bool) (sm md : Int) (hn : n.size < 4294967281) (hv : v.size < 4294967281) (hd : d.size < 4294967281) :
    Ev (fun k => spec_CookieOk.f k n v d al p u sf sm md) (cookieOkM (B n) (B v) (B d) al (B p) u sf sm md) := by
  have J := fun x => spec_j0 n v d al p u sf sm md hn hv x
  unfold spec_CookieOk.f cookieOkM
  refine Ev.bind (l7Name_ev d hd) ?_
  cases plainM (B d)
  · refine Ev.congr (fun k => if_neg Bool.false_ne_true) ?_
    refine Ev.bind (l7Four_ev d hd) ?_
    cases isFourM (B d)
    · refine Ev.congr (fun k => if_neg Bool.false_ne_true) ?_
      rw [Bool.and_false, Bool.or_false]
      exact J false
    · refine Ev.congr (fun k => if_pos rfl) ?_
      rw [Bool.and_true, Bool.false_or]
      exact J al
  · refine Ev.congr (fun k => if_pos rfl) ?_
    rw [Bool.true_or]
    exact J true
theorem szCookie_eq (n v d : ByteArray) (al : Bool) (p : ByteArray) (u : Int) (sf : Bool) (sm md : Int) (gn : GStr n) (gv : GStr v) (gd : GStr d) (gp : GStr p) (left : Int) (h0 : 0 ≤ left) (h1 : left ≤ 1048576) :
    ∃ z, laws_szCookie.f n v d al p u sf sm md left = some z ∧ -1 ≤ z ∧ z ≤ left ∧ (0 ≤ z → n.size ≤ 1048576 ∧ v.size ≤ 1048576 ∧ d.size ≤ 1048576 ∧ p.size ≤ 1048576) := by
  unfold GStr at *
  unfold laws_szCookie.f
  rw [w64 (x := left - (n.size : Int)) (by omega) (by omega)]
  by_cases c1 : left - (n.size : Int) < 0
  · exact ⟨-1, if_pos c1, by omega, by omega, by omega⟩
  rw [if_neg c1, w64 (x := left - (n.size : Int) - (v.size : Int)) (by omega) (by omega)]
  by_cases c2 : left - (n.size : Int) - (v.size : Int) < 0
  · exact ⟨-1, if_pos c2, by omega, by omega, by omega⟩
  rw [if_neg c2, w64 (x := left - (n.size : Int) - (v.size : Int) - (d.size : Int)) (by omega) (by omega)]
  by_cases c3 : left - (n.size : Int) - (v.size : Int) - (d.size : Int) < 0
  · exact ⟨-1, if_pos c3, by omega, by omega, by omega⟩
  rw [if_neg c3, w64 (x := left - (n.size : Int) - (v.size : Int) - (d.size : Int) - (p.size : Int)) (by omega) (by omega)]
  by_cases c4 : left - (n.size : Int) - (v.size : Int) - (d.size : Int) - (p.size : Int) < 0
  · exact ⟨-1, if_pos c4, by omega, by omega, by omega⟩
  rw [if_neg c4]
  exact ⟨_, rfl, by omega, by omega, by omega⟩
/-! ### rows of cookies: measured, turned, compared -/
abbrev CkI := S39
abbrev CkL := S36
noncomputable instance : DecidableEq CkI := fun a b => Classical.propDecidable (a = b)
def ckOf (x : CkL) : CkI := ⟨x.f0, x.f1, x.f2, x.f3, x.f4, x.f5, x.f6, x.f7, x.f8⟩
def gCk (x : CkL) : Prop := GStr x.f0 ∧ GStr x.f1 ∧ GStr x.f2 ∧ (fun _ => True) x.f3 ∧ GStr x.f4 ∧ GInt x.f5 ∧ (fun _ => True) x.f6 ∧ GInt x.f7 ∧ GInt x.f8
/-- Its texts are small. -/
def smallCk (x : CkI) : Prop := x.f0.size ≤ 1048576 ∧ x.f1.size ≤ 1048576 ∧ x.f2.size ≤ 1048576 ∧ x.f4.size ≤ 1048576
theorem rdI_get (l : List CkI) (i : Nat) (a : CkI) (h : l[i]? = some a) : rd_T39 l (i : Int) = a := by simp [rd_T39, List.getD, h]
theorem rdL_get (l : List CkL) (i : Nat) (a : CkL) (h : l[i]? = some a) : rd_T36 l (i : Int) = a := by simp [rd_T36, List.getD, h]
theorem toList_inj (a b : ByteArray) : a.toList = b.toList ↔ a = b := ⟨fun h => B_inj (by rw [← tl_B, ← tl_B, h]), fun h => by rw [h]⟩
theorem szCk_go (l : List CkL) (hl : l.length ≤ 9223372036854775807) : ∀ (r : List CkL) (i : Nat) (left : Int), l.drop i = r → i ≤ l.length → 0 ≤ left → left ≤ 1048576 → (∀ s ∈ r, gCk s) →
    ∃ z, Ev (fun k => laws_szCookieS.l0 k l left (i : Int)) z ∧ -1 ≤ z ∧ z ≤ left ∧ (0 ≤ z → ∀ s ∈ r, smallCk (ckOf s))
  | [], i, left, hr, hi, h0, h1, hs => by
    have := get_nil hi hr
    exact ⟨left, Ev.step (f := fun _ => some left) (fun k => by simp only [laws_szCookieS.l0]; rw [if_neg (by omega)]) (Ev.now _), by omega, by omega, fun _ s h => by cases h⟩
  | s :: r, i, left, hr, hi, h0, h1, hs => by
    obtain ⟨g1, g2, g3⟩ := get_cons hr
    obtain ⟨q0, q1, q2, _, q4, _⟩ := hs s (by simp)
    obtain ⟨z0, hz0, a1, a2, a3⟩ := szCookie_eq s.f0 s.f1 s.f2 s.f3 s.f4 s.f5 s.f6 s.f7 s.f8 q0 q1 q2 q4 left h0 h1
    by_cases q : z0 < 0
    · refine ⟨-1, Ev.step (f := fun _ => some (-1)) (fun k => ?_) (Ev.now _), by omega, by omega, fun h => by omega⟩
      simp only [laws_szCookieS.l0]
      rw [if_pos (by omega), if_pos (by omega), rdL_get _ _ _ g2, hz0, Option.bind_some, if_pos q]
    · obtain ⟨z, hz, z1, z2, z3⟩ := szCk_go l hl r (i + 1) z0 g3 (by omega) (by omega) (by omega) (fun x hx => hs x (by simp [hx]))
      refine ⟨z, Ev.up hz (fun k => ?_), z1, by omega, fun h x hx => ?_⟩
      · simp only [laws_szCookieS.l0]
        rw [if_pos (by omega), if_pos (by omega), rdL_get _ _ _ g2, hz0, Option.bind_some, if_neg q, w_succ i (by omega)]
      · rcases List.mem_cons.1 hx with rfl | hx
        · obtain ⟨b1, b2, b3, b4⟩ := a3 (by omega); exact ⟨b1, b2, b3, b4⟩
        · exact z3 h x hx
theorem szCk_ev (l : List CkL) (hl : GList gCk l) (left : Int) (h0 : 0 ≤ left) (h1 : left ≤ 1048576) :
    ∃ z, Ev (fun k => laws_szCookieS.f k l left) z ∧ -1 ≤ z ∧ z ≤ left ∧ (0 ≤ z → (l.length : Int) ≤ left ∧ ∀ s ∈ l, smallCk (ckOf s)) := by
  have hlen := hl.1
  have hw : wrap64 (left - (l.length : Int)) = left - (l.length : Int) := w64 (by omega) (by omega)
  unfold laws_szCookieS.f
  rw [hw]
  by_cases q : left - (l.length : Int) < 0
  · exact ⟨-1, Ev.eq (Ev.now _) (fun k => if_pos q), by omega, by omega, fun h => by omega⟩
  · obtain ⟨z, hz, z1, z2, z3⟩ := szCk_go l hl.1 l 0 (left - (l.length : Int)) rfl (by omega) (by omega) (by omega) hl.2
    exact ⟨z, Ev.eq hz (fun k => if_neg q), z1, by omega, fun h => ⟨by omega, fun s hs => z3 h s hs⟩⟩
theorem toCk_go (l : List CkL) (hl : l.length ≤ 1048576) : ∀ (r : List CkL) (i : Nat), l.drop i = r → i ≤ l.length →
    Ev (fun k => laws_toCookieS.l0 k l ((l.take i).map ckOf ++ List.replicate (l.length - i) z39) (i : Int)) (l.map ckOf)
  | [], i, hr, hi => by
    have := get_nil hi hr
    subst this
    refine Ev.step (f := fun _ => some (l.map ckOf)) (fun k => ?_) (Ev.now _)
    simp only [laws_toCookieS.l0]
    rw [if_neg (by omega)]
    simp
  | s :: r, i, hr, hi => by
    obtain ⟨g1, g2, g3⟩ := get_cons hr
    refine Ev.up (toCk_go l hl r (i + 1) g3 (by omega)) (fun k => ?_)
    simp only [laws_toCookieS.l0]
    rw [if_pos (by omega), if_pos (by omega), rdL_get _ _ _ g2]
    have e : ((i : Int)).toNat = i := by omega
    have e2 : i - ((l.take i).map ckOf).length = 0 := by simp; omega
    have e3 : l.length - i = (l.length - (i + 1)) + 1 := by omega
    simp only [laws_toCookie.f, Option.bind_some]
    rw [if_pos (by simp; omega), w_succ i (by omega)]
    congr 1
    rw [e, List.set_append, if_neg (by simp; omega), e2, e3, List.replicate_succ, List.set_cons_zero, List.take_add_one, g2]
    simp [ckOf]
theorem toCk_ev (l : List CkL) (hl : l.length ≤ 1048576) : Ev (fun k => laws_toCookieS.f k l) (l.map ckOf) := by
  unfold laws_toCookieS.f
  refine Ev.eq (toCk_go l hl l 0 rfl (Nat.zero_le _)) (fun k => ?_)
  rw [if_pos (by omega), if_pos (by omega)]
  simp
theorem eqCk_eq (a b : CkI) : laws_eqCookie.f a.f0 a.f1 a.f2 a.f3 a.f4 a.f5 a.f6 a.f7 a.f8 b.f0 b.f1 b.f2 b.f3 b.f4 b.f5 b.f6 b.f7 b.f8 = some (decide (a = b)) := by
  obtain ⟨a0, a1, a2, a3, a4, a5, a6, a7, a8⟩ := a
  obtain ⟨b0, b1, b2, b3, b4, b5, b6, b7, b8⟩ := b
  unfold laws_eqCookie.f
  simp only [toList_inj, bne_iff_ne, ne_eq, S39.mk.injEq]
  by_cases h0 : a0 = b0 <;> by_cases h1 : a1 = b1 <;> by_cases h2 : a2 = b2 <;> by_cases h3 : a3 = b3 <;> by_cases h4 : a4 = b4 <;> by_cases h5 : a5 = b5 <;> by_cases h6 : a6 = b6 <;> by_cases h7 : a7 = b7 <;> by_cases h8 : a8 = b8 <;> simp [*]
theorem eqCkS_go (a b : List CkI) (h : a.length = b.length) (hl : a.length ≤ 9223372036854775800) : ∀ (r r' : List CkI) (i : Nat), a.drop i = r → b.drop i = r' → i ≤ a.length →
    Ev (fun k => laws_eqCookieS.l0 k a b (i : Int)) (decide (r = r'))
  | [], r', i, hr, hr', hi => by
    have := get_nil hi hr
    have : r' = [] := by rw [← hr']; exact List.drop_eq_nil_of_le (by omega)
    subst this
    exact Ev.step (f := fun _ => some true) (fun k => by simp only [laws_eqCookieS.l0]; rw [if_neg (by omega)]) (Ev.now _)
  | s :: r, [], i, hr, hr', hi => by
    obtain ⟨g1, _, _⟩ := get_cons hr
    have := get_nil (by omega) hr'
    omega
  | s :: r, s' :: r', i, hr, hr', hi => by
    obtain ⟨g1, g2, g3⟩ := get_cons hr
    obtain ⟨g1', g2', g3'⟩ := get_cons hr'
    by_cases q : s = s'
    · subst q
      have ih := eqCkS_go a b h hl r r' (i + 1) g3 g3' (by omega)
      rw [show decide (s :: r = s :: r') = decide (r = r') from decide_eq_decide.2 (by simp)]
      refine Ev.up ih (fun k => ?_)
      simp only [laws_eqCookieS.l0]
      rw [if_pos (by omega), if_pos (by omega), if_pos (by omega), rdI_get _ _ _ g2, rdI_get _ _ _ g2', eqCk_eq, Option.bind_some, if_pos (by simp), w_succ i (by omega)]
    · rw [show decide (s :: r = s' :: r') = false from decide_eq_false (by simp [q])]
      refine Ev.step (f := fun _ => some false) (fun k => ?_) (Ev.now _)
      simp only [laws_eqCookieS.l0]
      rw [if_pos (by omega), if_pos (by omega), if_pos (by omega), rdI_get _ _ _ g2, rdI_get _ _ _ g2', eqCk_eq, Option.bind_some, if_neg (by simp [q])]
theorem eqCkS_ev (a b : List CkI) (hl : a.length ≤ 9223372036854775800) : Ev (fun k => laws_eqCookieS.f k a b) (decide (a = b)) := by
  unfold laws_eqCookieS.f
  by_cases q : a.length = b.length
  · exact Ev.eq (eqCkS_go a b q hl a b 0 rfl rfl (Nat.zero_le _)) (fun k => if_pos (by omega))
  · rw [decide_eq_false (fun e => q (by rw [e]))]
    exact Ev.eq (Ev.now _) (fun k => if_neg (by omega))
/-! ### jars -/
def ckOkM (c : CkI) : Bool := cookieOkM (B c.f0) (B c.f1) (B c.f2) c.f3 (B c.f4) c.f5 c.f6 c.f7 c.f8
def twinM (a b : CkI) : Bool := (B a.f0 == B b.f0) && (B a.f2 == B b.f2) && (a.f3 == b.f3) && (B a.f4 == B b.f4)
theorem ckOk_impl (c : CkI) (h : smallCk c) : Ev (fun k => impl_CookieOk.f k c.f0 c.f1 c.f2 c.f3 c.f4 c.f5 c.f6 c.f7 c.f8) (ckOkM c) := by
  obtain ⟨h0, h1, h2, _⟩ := h
  exact cookieOk_impl c.f0 c.f1 c.f2 c.f3 c.f4 c.f5 c.f6 c.f7 c.f8 (by omega) (by omega) (by omega)
theorem ckOk_spec (c : CkI) (h : smallCk c) : Ev (fun k => spec_CookieOk.f k c.f0 c.f1 c.f2 c.f3 c.f4 c.f5 c.f6 c.f7 c.f8) (ckOkM c) := by
  obtain ⟨h0, h1, h2, _⟩ := h
  exact cookieOk_spec c.f0 c.f1 c.f2 c.f3 c.f4 c.f5 c.f6 c.f7 c.f8 (by omega) (by omega) (by omega)
theorem twin_eq (a b : CkI) : impl_Cookie_twin.f a.f0 a.f1 a.f2 a.f3 a.f4 a.f5 a.f6 a.f7 a.f8 b.f0 b.f1 b.f2 b.f3 b.f4 b.f5 b.f6 b.f7 b.f8 = some (twinM a b) := by
  unfold impl_Cookie_twin.f twinM
  simp only [tl_B]
  by_cases h0 : B a.f0 = B b.f0 <;> by_cases h2 : B a.f2 = B b.f2 <;> by_cases h3 : (a.f3 == b.f3) = true <;> simp [h0, h2, h3]
theorem same_eq (a b : CkI) : spec_l7Same.f a.f0 a.f1 a.f2 a.f3 a.f4 a.f5 a.f6 a.f7 a.f8 b.f0 b.f1 b.f2 b.f3 b.f4 b.f5 b.f6 b.f7 b.f8 = some (twinM a b) := by
  unfold spec_l7Same.f twinM
  simp only [tl_B]
  by_cases h0 : B a.f0 = B b.f0 <;> by_cases h2 : B a.f2 = B b.f2 <;> by_cases h3 : (a.f3 == b.f3) = true <;> simp [h0, h2, h3]
theorem idxTwin_go (l : List CkI) (hl : l.length ≤ 1048576) (c : CkI) : ∀ (r : List CkI) (i : Nat), l.drop i = r → i ≤ l.length →
    ∃ z, Ev (fun k => impl_Cookie_77.l0 k l (l.length : Int) (i : Int) c.f0 c.f1 c.f2 c.f3 c.f4 c.f5 c.f6 c.f7 c.f8) z ∧ decide (z ≥ 0) = r.any (twinM c)
  | [], i, hr, hi => by
    obtain rfl := get_nil hi hr
    exact ⟨-1, Ev.up (Ev.now _) (fun k => by rw [impl_Cookie_77.l0, if_neg (by omega)]), by simp⟩
  | d :: r, i, hr, hi => by
    obtain ⟨g1, g2, g3⟩ := get_cons hr
    cases ht : twinM c d
    · obtain ⟨z, hz, e⟩ := idxTwin_go l hl c r (i + 1) g3 (by omega)
      refine ⟨z, Ev.up hz (fun k => ?_), by rw [e]; simp [ht]⟩
      rw [impl_Cookie_77.l0, if_pos (by omega), if_pos (by omega), if_pos (by omega), rdI_get _ _ _ g2, twin_eq, Option.bind_some, if_neg (by simp [ht]), w_succ i (by omega)]
    · refine ⟨i, Ev.up (Ev.now _) (fun k => ?_), by simp [ht]⟩
      rw [impl_Cookie_77.l0, if_pos (by omega), if_pos (by omega), if_pos (by omega), rdI_get _ _ _ g2, twin_eq, Option.bind_some, if_pos ht]
theorem hasTwin_ev (l : List CkI) (hl : l.length ≤ 1048576) (c : CkI) : Ev (fun k => impl_Cookie_50.f k l c.f0 c.f1 c.f2 c.f3 c.f4 c.f5 c.f6 c.f7 c.f8) (l.any (twinM c)) := by
  obtain ⟨z, hz, e⟩ := idxTwin_go l hl c l 0 rfl (Nat.zero_le _)
  unfold impl_Cookie_50.f impl_Cookie_77.f
  refine Ev.bind hz ?_
  rw [e]
  exact Ev.now _
def jarFrom (l : List CkI) : Nat → List CkI → Bool
  | _, [] => decide (l.length ≤ 10)
  | i, c :: r => ckOkM c && !((l.take i).any (twinM c)) && jarFrom l (i + 1) r
def jarOkM (l : List CkI) : Bool := jarFrom l 0 l
theorem implJar_go (l : List CkI) (hl : l.length ≤ 1048576) (hs : ∀ c ∈ l, smallCk c) : ∀ (r : List CkI) (i : Nat), l.drop i = r → i ≤ l.length →
    Ev (fun k => impl_JarOk.l0 k l l (l.length : Int) (i : Int)) (jarFrom l i r)
  | [], i, hr, hi => by
    obtain rfl := get_nil hi hr
    refine Ev.up (Ev.now _) (fun k => ?_)
    rw [impl_JarOk.l0, if_neg (by omega)]
    simp [jarFrom]; omega
  | c :: r, i, hr, hi => by
    obtain ⟨g1, g2, g3⟩ := get_cons hr
    have ih := implJar_go l hl hs r (i + 1) g3 (by omega)
    have hc := ckOk_impl c (hs c (List.mem_of_getElem? g2))
    have hT := hasTwin_ev (l.take i) (by simp; omega) c
    refine Ev.up (f := fun k => (impl_CookieOk.f k c.f0 c.f1 c.f2 c.f3 c.f4 c.f5 c.f6 c.f7 c.f8).bind fun t281 => (if t281 = true then (if (i : Int) ≤ (l.length : Int) then ((impl_Cookie_50.f k (l.take i) c.f0 c.f1 c.f2 c.f3 c.f4 c.f5 c.f6 c.f7 c.f8).bind fun t286 => (if t286 = true then (some false) else (impl_JarOk.l0 k l l (l.length : Int) ((i + 1 : Nat) : Int)))) else (none)) else (some false))) ?_ (fun k => by
      rw [impl_JarOk.l0, if_pos (by omega), if_pos (by omega), if_pos (by omega), rdI_get _ _ _ g2, w_succ i (by omega), show ((i : Int)).toNat = i by omega])
    refine Ev.bind hc ?_
    unfold jarFrom
    cases ckOkM c
    · exact Ev.eq (Ev.now _) (fun k => by simp)
    refine Ev.congr (fun k => (if_pos rfl).trans (if_pos (by omega))) ?_
    refine Ev.bind hT ?_
    cases (l.take i).any (twinM c)
    · refine Ev.congr (fun k => if_neg Bool.false_ne_true) ?_
      simpa using ih
    · exact Ev.eq (Ev.now _) (fun k => by simp)
theorem jarOk_impl (l : List CkI) (hl : l.length ≤ 1048576) (hs : ∀ c ∈ l, smallCk c) : Ev (fun k => impl_JarOk.f k l) (jarOkM l) := implJar_go l hl hs l 0 rfl (Nat.zero_le _)
theorem specJar1_go (l : List CkI) (hl : l.length ≤ 1048576) (i : Nat) (c : CkI) (hc : l[i]? = some c) (b : Bool) (H : Ev (fun k => spec_JarOk.l0 k l ((i + 1 : Nat) : Int)) b) : ∀ (r : List CkI) (j : Nat), (l.take i).drop j = r → j ≤ i →
    Ev (fun k => spec_JarOk.l1 k l (i : Int) (j : Int)) (!(r.any (twinM c)) && b)
  | [], j, hr, hj => by
    have hi : i < l.length := (List.getElem?_eq_some_iff.1 hc).1
    have := get_nil (l := l.take i) (i := j) (by simp; omega) hr
    have : j = i := by simp at this; omega
    subst this
    refine Ev.up (f := fun k => spec_JarOk.l0 k l ((j + 1 : Nat) : Int)) (by simpa using H) (fun k => ?_)
    rw [spec_JarOk.l1, if_neg (by omega), w_succ j (by omega)]
  | d :: r, j, hr, hj => by
    have hi : i < l.length := (List.getElem?_eq_some_iff.1 hc).1
    obtain ⟨g1, g2, g3⟩ := get_cons hr
    have hj2 : j < i := by simp at g1; omega
    have g2' : l[j]? = some d := by rw [List.getElem?_take, if_pos hj2] at g2; exact g2
    cases ht : twinM c d
    · have ih := specJar1_go l hl i c hc b H r (j + 1) g3 (by omega)
      rw [List.any_cons, ht, Bool.false_or]
      refine Ev.up ih (fun k => ?_)
      rw [spec_JarOk.l1, if_pos (by omega), if_pos (by omega), if_pos (by omega), if_pos (by omega), if_pos (by omega), rdI_get _ _ _ hc, rdI_get _ _ _ g2', same_eq, Option.bind_some, if_neg (by simp [ht]), w_succ j (by omega)]
    · refine Ev.up (Ev.now _) (fun k => ?_)
      rw [spec_JarOk.l1, if_pos (by omega), if_pos (by omega), if_pos (by omega), if_pos (by omega), if_pos (by omega), rdI_get _ _ _ hc, rdI_get _ _ _ g2', same_eq, Option.bind_some, if_pos ht]
      simp [ht]
theorem specJar_go (l : List CkI) (hl : l.length ≤ 1048576) (hs : ∀ c ∈ l, smallCk c) : ∀ (r : List CkI) (i : Nat), l.drop i = r → i ≤ l.length →
    Ev (fun k => spec_JarOk.l0 k l (i : Int)) (jarFrom l i r)
  | [], i, hr, hi => by
    obtain rfl := get_nil hi hr
    refine Ev.up (Ev.now _) (fun k => ?_)
    rw [spec_JarOk.l0, if_neg (by omega)]
    simp [jarFrom]; omega
  | c :: r, i, hr, hi => by
    obtain ⟨g1, g2, g3⟩ := get_cons hr
    have ih := specJar_go l hl hs r (i + 1) g3 (by omega)
    have hc := ckOk_spec c (hs c (List.mem_of_getElem? g2))
    refine Ev.up (f := fun k => (spec_CookieOk.f k c.f0 c.f1 c.f2 c.f3 c.f4 c.f5 c.f6 c.f7 c.f8).bind fun t180 => (if t180 = true then (spec_JarOk.l1 k l (i : Int) 0) else (some false))) ?_ (fun k => by
      rw [spec_JarOk.l0, if_pos (by omega), if_pos (by omega), rdI_get _ _ _ g2])
    refine Ev.bind hc ?_
    unfold jarFrom
    cases ckOkM c
    · exact Ev.eq (Ev.now _) (fun k => by simp)
    refine Ev.congr (fun k => if_pos rfl) ?_
    have := specJar1_go l hl i c g2 _ ih _ 0 rfl (Nat.zero_le _)
    rw [List.drop_zero] at this
    rw [Bool.true_and]
    exact this
theorem jarOk_spec (l : List CkI) (hl : l.length ≤ 1048576) (hs : ∀ c ∈ l, smallCk c) : Ev (fun k => spec_JarOk.f k l) (jarOkM l) := specJar_go l hl hs l 0 rfl (Nat.zero_le _)
/-! ### joins, and how long a jar is -/
theorem jarFrom_len (l : List CkI) : ∀ (r : List CkI) (i : Nat), jarFrom l i r = true → l.length ≤ 10
  | [], _, h => by simpa [jarFrom] using h
  | c :: r, i, h => by
    simp only [jarFrom, Bool.and_eq_true] at h
    exact jarFrom_len l r (i + 1) h.2
theorem jarOk_len {l : List CkI} (h : jarOkM l = true) : l.length ≤ 10 := jarFrom_len l l 0 h
theorem join_snoc (xs : List Bs) (x sep : Bs) (h : xs ≠ []) : Lib.join (xs ++ [x]) sep = Lib.join xs sep ++ sep ++ x := by
  cases xs with
  | nil => exact absurd rfl h
  | cons y ys => rw [List.cons_append, Lib.join_cons, Lib.join_cons]; simp [Lib.joinTail]
theorem join_len_le (xs : List Bs) (sep : Bs) (M : Nat) (h : ∀ x ∈ xs, x.length ≤ M) : (Lib.join xs sep).length ≤ xs.length * (M + sep.length) := by
  cases xs with
  | nil => simp [Lib.join_nil]
  | cons y ys =>
    rw [Lib.join_cons]
    have : ∀ r : List Bs, (∀ x ∈ r, x.length ≤ M) → (Lib.joinTail sep r).length ≤ r.length * (M + sep.length) := by
      intro r
      induction r with
      | nil => intro _; simp [Lib.joinTail]
      | cons z r ih =>
        intro hr
        have := ih (fun x hx => hr x (by simp [hx]))
        have hz := hr z (by simp)
        simp only [Lib.joinTail, List.map_cons, List.flatten_cons, List.length_append] at *
        rw [List.length_cons, Nat.add_mul]
        omega
    have t := this ys (fun x hx => h x (by simp [hx]))
    have hy := h y (by simp)
    rw [List.length_append, List.length_cons, Nat.add_mul]
    omega
/-! ### a jar's saved text -/
def numsOf (l : Bs) : List Int := l.map fun c => (c.toNat : Int)
theorem strOf_nums (l : Bs) : strOfNums (numsOf l) = mkB l := by
  refine B_inj ?_
  rw [B_mkB]
  have : ∀ c : UInt8, UInt8.ofNat ((c.toNat : Int)).toNat = c := fun c => by simp
  simp [B, strOfNums, numsOf, Function.comp_def]
def hexDs : Bs := [48, 49, 50, 51, 52, 53, 54, 55, 56, 57, 97, 98, 99, 100, 101, 102]
def hexD (n : Nat) : UInt8 := hexDs.getD n 0
def hexRow : Bs → Bs
  | [] => []
  | c :: l => hexD (c.toNat / 16) :: hexD (c.toNat % 16) :: hexRow l
def hexSM (l : Bs) : Bs := if l = [] then [45] else hexRow l
theorem hexRow_len : ∀ l : Bs, (hexRow l).length = 2 * l.length
  | [] => rfl
  | c :: l => by simp [hexRow, hexRow_len l]; omega
theorem hexRow_app : ∀ a b : Bs, hexRow (a ++ b) = hexRow a ++ hexRow b
  | [], _ => rfl
  | c :: a, b => by simp [hexRow, hexRow_app a b]
theorem hex_bt (n : Nat) (h : n < 16) : bt (⟨#[48, 49, 50, 51, 52, 53, 54, 55, 56, 57, 97, 98, 99, 100, 101, 102]⟩ : ByteArray) (n : Int) = ((hexD n).toNat : Int) := by
  refine bt_get _ _ _ ?_
  show hexDs[n]? = some (hexDs.getD n 0)
  have : n < hexDs.length := h
  simp [List.getD, this]
theorem hex_size : (⟨#[48, 49, 50, 51, 52, 53, 54, 55, 56, 57, 97, 98, 99, 100, 101, 102]⟩ : ByteArray).size = 16 := rfl
set_option maxRecDepth 100000 in
theorem and15 (c : UInt8) : Go.bits .and .u8 (c.toNat : Int) 15 = ((c.toNat % 16 : Nat) : Int) := by
  have h : ∀ c : Fin 256, Go.bits .and .u8 (c.val : Int) 15 = ((c.val % 16 : Nat) : Int) := by decide
  exact h ⟨c.toNat, c.toNat_lt⟩
theorem hexS_size (s : ByteArray) (hs : s.size ≤ 1048576) : (mkB (hexSM (B s))).size ≤ 2097153 := by
  rw [mkB_size]; unfold hexSM
  split
  · simp
  · rw [hexRow_len, B_len]; omega
theorem hexText_go (s : ByteArray) (hs : s.size ≤ 1048576) : ∀ (l : Bs) (i : Nat), (B s).drop i = l → i ≤ s.size →
    Ev (fun k => impl_hexText.l0 k s (numsOf (hexRow ((B s).take i))) (s.size : Int) (i : Int)) (mkB (hexRow (B s)))
  | [], i, hr, hi => by
    obtain rfl := at_nil hi hr
    refine Ev.up (Ev.now _) (fun k => ?_)
    rw [impl_hexText.l0, if_neg (by omega), strOf_nums, ← B_len, List.take_length]
  | c :: l, i, hr, hi => by
    obtain ⟨h1, h2, h3, h4⟩ := at_cons hr
    have hc := c.toNat_lt
    have d1 : ((c.toNat : Int) / 16) = ((c.toNat / 16 : Nat) : Int) := by omega
    refine Ev.up (hexText_go s hs l (i + 1) h3 (by omega)) (fun k => ?_)
    rw [impl_hexText.l0, if_pos (by omega), if_pos (by omega), if_pos (by omega), h2, and15, d1, if_pos (by omega), if_pos (by omega), if_pos (by omega), if_pos (by omega), Option.bind_some, if_pos, w_succ i (by omega), hex_bt _ (by omega), hex_bt _ (by omega)]
    · congr 1
      rw [List.take_add_one, h4, Option.toList_some, hexRow_app]
      simp [numsOf, hexRow]
    · simp [numsOf, hexRow_len, B_len]; omega
theorem hexText_ev (s : ByteArray) (hs : s.size ≤ 1048576) : Ev (fun k => impl_hexText.f k s) (mkB (hexSM (B s))) := by
  unfold impl_hexText.f hexSM
  by_cases h : B s = []
  · rw [if_pos h]
    exact Ev.eq (Ev.now _) (fun k => by rw [if_pos (by rw [tl_B]; exact h)]; rfl)
  · rw [if_neg h]
    exact Ev.eq (hexText_go s hs _ 0 rfl (Nat.zero_le _)) (fun k => by rw [if_neg (by rw [tl_B]; exact h)]; rfl)
theorem l9Hex_go (s : ByteArray) (hs : s.size ≤ 1048576) : ∀ (l : Bs) (i : Nat), (B s).drop i = l → i ≤ s.size →
    Ev (fun k => spec_l9Hex.l0 k s (⟨#[48, 49, 50, 51, 52, 53, 54, 55, 56, 57, 97, 98, 99, 100, 101, 102]⟩ : ByteArray) (numsOf (hexRow ((B s).take i))) (i : Int)) (mkB (hexRow (B s)))
  | [], i, hr, hi => by
    obtain rfl := at_nil hi hr
    refine Ev.up (Ev.now _) (fun k => ?_)
    rw [spec_l9Hex.l0, if_neg (by omega), strOf_nums, ← B_len, List.take_length]
  | c :: l, i, hr, hi => by
    obtain ⟨h1, h2, h3, h4⟩ := at_cons hr
    have hc := c.toNat_lt
    have d0 : Int.tdiv (c.toNat : Int) 16 = (c.toNat : Int) / 16 := Int.tdiv_eq_ediv_of_nonneg (by omega)
    have d1 : Int.tdiv (c.toNat : Int) 16 % 256 = ((c.toNat / 16 : Nat) : Int) := by rw [d0]; omega
    have d2 : Int.tmod (c.toNat : Int) 16 = ((c.toNat % 16 : Nat) : Int) := tmod_nat _ 16
    refine Ev.up (l9Hex_go s hs l (i + 1) h3 (by omega)) (fun k => ?_)
    rw [spec_l9Hex.l0, if_pos (by omega), if_pos (by omega), h2, d1, d2, hex_size, if_pos (by omega), if_pos (by omega), if_pos (by omega), if_pos (by omega), Option.bind_some, if_pos, w_succ i (by omega), hex_bt _ (by omega), hex_bt _ (by omega)]
    · congr 1
      rw [List.take_add_one, h4, Option.toList_some, hexRow_app]
      simp [numsOf, hexRow]
    · simp [numsOf, hexRow_len, B_len]; omega
theorem l9Hex_ev (s : ByteArray) (hs : s.size ≤ 1048576) : Ev (fun k => spec_l9Hex.f k s) (mkB (hexSM (B s))) := by
  unfold spec_l9Hex.f hexSM
  by_cases h : B s = []
  · rw [if_pos h]
    exact Ev.eq (Ev.now _) (fun k => by rw [if_pos (by rw [tl_B]; exact h)]; rfl)
  · rw [if_neg h]
    exact Ev.eq (l9Hex_go s hs _ 0 rfl (Nat.zero_le _)) (fun k => by rw [if_neg (by rw [tl_B]; exact h)]; rfl)
def bitM (b : Bool) : Bs := if b = true then [49] else [48]
theorem bit_impl (b : Bool) : impl_bit.f b = some (mkB (bitM b)) := by cases b <;> rfl
theorem bit_spec (b : Bool) : spec_l9Bit.f b = some (mkB (bitM b)) := by cases b <;> rfl
theorem bit_len (b : Bool) : (bitM b).length = 1 := by cases b <;> rfl
def decM (v : Int) : Bs := Lib.decDigits v.toNat
def fieldsM (c : CkI) : List Bs := [B c.f0, hexSM (B c.f1), B c.f2, bitM c.f3, hexSM (B c.f4), decM c.f5, bitM c.f6, decM c.f7, decM c.f8]
def lineM (c : CkI) : Bs := Lib.join (fieldsM c) [32] ++ [10]
def numOk (c : CkI) : Prop := (0 ≤ c.f5 ∧ c.f5 ≤ 2000001) ∧ (0 ≤ c.f7 ∧ c.f7 ≤ 2) ∧ (0 ≤ c.f8 ∧ c.f8 ≤ 1000000)
theorem decM_nat (v : Int) (h : 0 ≤ v) : v = ((v.toNat : Nat) : Int) := by omega
theorem itoa_ev (v : Int) (h : 0 ≤ v ∧ v ≤ 2000001) : strconv_Itoa.f v = some (mkB (decM v)) := by
  obtain ⟨u, rfl⟩ : ∃ u : Nat, v = (u : Int) := ⟨v.toNat, by omega⟩
  exact itoa_impl u (by omega)
theorem l1Dec_int (v : Int) (h : 0 ≤ v ∧ v ≤ 2000001) : Ev (fun k => spec_l1Dec.f k v) (mkB (decM v)) := by
  obtain ⟨u, rfl⟩ : ∃ u : Nat, v = (u : Int) := ⟨v.toNat, by omega⟩
  exact l1Dec_ev u (by omega)
theorem decM_len (v : Int) (h : 0 ≤ v ∧ v ≤ 2000001) : (decM v).length ≤ 21 := dec_len _ (by omega)
theorem fields_len (c : CkI) (h : smallCk c) (hn : numOk c) : ∀ x ∈ fieldsM c, x.length ≤ 2097153 := by
  obtain ⟨h0, h1, h2, h4⟩ := h
  obtain ⟨n5, n7, n8⟩ := hn
  have e1 := hexS_size c.f1 h1
  have e4 := hexS_size c.f4 h4
  rw [mkB_size] at e1 e4
  have d5 := decM_len c.f5 (by omega)
  have d7 := decM_len c.f7 (by omega)
  have d8 := decM_len c.f8 (by omega)
  intro x hx
  simp only [fieldsM, List.mem_cons, List.not_mem_nil, or_false] at hx
  rcases hx with rfl | rfl | rfl | rfl | rfl | rfl | rfl | rfl | rfl
  · rw [B_len]; omega
  · exact e1
  · rw [B_len]; omega
  · rw [bit_len]; omega
  · exact e4
  · omega
  · rw [bit_len]; omega
  · omega
  · omega
theorem join_fields (c : CkI) (h : smallCk c) (hn : numOk c) : (Lib.join (fieldsM c) [32]).length ≤ 18874386 := by
  have := join_len_le (fieldsM c) [32] 2097153 (fields_len c h hn)
  simp [fieldsM] at this ⊢
  omega
theorem line_len (c : CkI) (h : smallCk c) (hn : numOk c) : (lineM c).length ≤ 18874387 := by
  have := join_fields c h hn
  simp [lineM]; omega
theorem row_ev (c : CkI) (h : smallCk c) (hn : numOk c) : impl_row.f [c.f0, mkB (hexSM (B c.f1)), c.f2, mkB (bitM c.f3), mkB (hexSM (B c.f4)), mkB (decM c.f5), mkB (bitM c.f6), mkB (decM c.f7), mkB (decM c.f8)] = some (mkB (lineM c)) := by
  have hl := join_fields c h hn
  have e : Lib.join ([c.f0, mkB (hexSM (B c.f1)), c.f2, mkB (bitM c.f3), mkB (hexSM (B c.f4)), mkB (decM c.f5), mkB (bitM c.f6), mkB (decM c.f7), mkB (decM c.f8)].map (·.data.toList)) ((⟨#[32]⟩ : ByteArray).data.toList) = Lib.join (fieldsM c) [32] := by
    simp [fieldsM, mkB, B]
  unfold impl_row.f strings_Join.f
  rw [e, if_pos ⟨by simp, by omega⟩, Option.bind_some, if_pos]
  · congr 1
  · show (mkB (Lib.join (fieldsM c) [32])).size + 1 ≤ _
    rw [mkB_size]; omega
theorem sp_mk : (⟨#[32]⟩ : ByteArray) = mkB [32] := rfl
theorem nl_mk : (⟨#[10]⟩ : ByteArray) = mkB [10] := rfl
theorem l9Cookie_ev (c : CkI) (h : smallCk c) (hn : numOk c) : Ev (fun k => spec_l9Cookie.f k c.f0 c.f1 c.f2 c.f3 c.f4 c.f5 c.f6 c.f7 c.f8) (mkB (lineM c)) := by
  obtain ⟨h0, h1, h2, h4⟩ := h
  obtain ⟨n5, n7, n8⟩ := hn
  have e1 := hexS_size c.f1 h1
  have e4 := hexS_size c.f4 h4
  have d5 := decM_len c.f5 (by omega)
  have d7 := decM_len c.f7 (by omega)
  have d8 := decM_len c.f8 (by omega)
  have b3 := bit_len c.f3
  have b6 := bit_len c.f6
  rw [← mkB_size] at d5 d7 d8 b3 b6
  have y1 : (⟨#[32]⟩ : ByteArray).size = 1 := rfl
  have y2 : (⟨#[10]⟩ : ByteArray).size = 1 := rfl
  have hE1 := l9Hex_ev c.f1 h1
  have hE4 := l9Hex_ev c.f4 h4
  have hD5 := l1Dec_int c.f5 (by omega)
  have hD7 := l1Dec_int c.f7 (by omega)
  have hD8 := l1Dec_int c.f8 (by omega)
  unfold spec_l9Cookie.f
  refine Ev.congr (fun k => if_pos (by omega)) ?_
  refine Ev.bind hE1 ?_
  iterate 4 refine Ev.congr (fun k => if_pos (by simp only [ByteArray.size_append]; omega)) ?_
  refine Ev.bindc (bit_spec _) ?_
  iterate 2 refine Ev.congr (fun k => if_pos (by simp only [ByteArray.size_append]; omega)) ?_
  refine Ev.bind hE4 ?_
  iterate 2 refine Ev.congr (fun k => if_pos (by simp only [ByteArray.size_append]; omega)) ?_
  refine Ev.bind hD5 ?_
  iterate 2 refine Ev.congr (fun k => if_pos (by simp only [ByteArray.size_append]; omega)) ?_
  refine Ev.bindc (bit_spec _) ?_
  iterate 2 refine Ev.congr (fun k => if_pos (by simp only [ByteArray.size_append]; omega)) ?_
  refine Ev.bind hD7 ?_
  iterate 2 refine Ev.congr (fun k => if_pos (by simp only [ByteArray.size_append]; omega)) ?_
  refine Ev.bind hD8 ?_
  iterate 2 refine Ev.congr (fun k => if_pos (by simp only [ByteArray.size_append]; omega)) ?_
  refine Ev.eq (Ev.now _) (fun k => ?_)
  refine congrArg some (B_inj ?_)
  simp only [B_app, B_mkB]
  simp [lineM, fieldsM, Lib.join_cons, Lib.joinTail, B]
def saveM (l : List CkI) : Bs := if jarOkM l = true then (l.map lineM).flatten else []
theorem lines_len : ∀ (r : List CkI), (∀ c ∈ r, smallCk c) → (∀ c ∈ r, numOk c) → ((r.map lineM).flatten).length ≤ r.length * 18874387
  | [], _, _ => by simp
  | c :: r, h, hn => by
    have := lines_len r (fun x hx => h x (by simp [hx])) (fun x hx => hn x (by simp [hx]))
    have := line_len c (h c (by simp)) (hn c (by simp))
    simp only [List.map_cons, List.flatten_cons, List.length_append, List.length_cons]
    omega
theorem take_line (l : List CkI) (i : Nat) (c : CkI) (h : l[i]? = some c) : mkB (((l.take (i + 1)).map lineM).flatten) = mkB (((l.take i).map lineM).flatten) ++ mkB (lineM c) := by
  rw [List.take_add_one, h, Option.toList_some, List.map_append, List.flatten_append, mkB_app]
  simp
theorem jar_nums (l : List CkI) : ∀ (r : List CkI) (i : Nat), jarFrom l i r = true → ∀ c ∈ r, numOk c
  | [], _, _ => fun c hc => by cases hc
  | d :: r, i, h => by
    simp only [jarFrom, Bool.and_eq_true] at h
    have h2 := jar_nums l r (i + 1) h.2
    have h3 : ckOkM d = true := by first | exact h.1.1 | exact h.1
    intro c hc
    rcases List.mem_cons.1 hc with rfl | hc
    · simp only [ckOkM, cookieOkM, cookieTailM, Bool.and_eq_true, decide_eq_true_eq] at h3
      exact ⟨h3.2.1.1.1.2, h3.2.1.2, h3.2.1.1.2⟩
    · exact h2 c hc
theorem implSave_go (l : List CkI) (hl : l.length ≤ 10) (hs : ∀ c ∈ l, smallCk c) (hn : ∀ c ∈ l, numOk c) : ∀ (r : List CkI) (i : Nat), l.drop i = r → i ≤ l.length →
    Ev (fun k => impl_JarSave.l0 k (mkB (((l.take i).map lineM).flatten)) l (l.length : Int) (i : Int)) (mkB ((l.map lineM).flatten))
  | [], i, hr, hi => by
    obtain rfl := get_nil hi hr
    refine Ev.up (Ev.now _) (fun k => ?_)
    rw [impl_JarSave.l0, if_neg (by omega), List.take_length]
    rfl
  | c :: r, i, hr, hi => by
    obtain ⟨g1, g2, g3⟩ := get_cons hr
    have hc := hs c (List.mem_of_getElem? g2)
    have hcn := hn c (List.mem_of_getElem? g2)
    obtain ⟨n5, n7, n8⟩ := hcn
    have ih := implSave_go l hl hs hn r (i + 1) g3 (by omega)
    rw [take_line l i c g2] at ih
    have hlen := lines_len (l.take i) (fun x hx => hs x (List.mem_of_mem_take hx)) (fun x hx => hn x (List.mem_of_mem_take hx))
    have : (l.take i).length * 18874387 ≤ 10 * 18874387 := Nat.mul_le_mul_right _ (by simp; omega)
    have hline := line_len c hc ⟨n5, n7, n8⟩
    refine Ev.up (f := fun k => ((impl_hexText.f k c.f1).bind fun t324 => ((impl_bit.f c.f3).bind fun t325 => ((impl_hexText.f k c.f4).bind fun t326 => ((strconv_Itoa.f c.f5).bind fun t327 => ((impl_bit.f c.f6).bind fun t328 => ((strconv_Itoa.f c.f7).bind fun t329 => ((strconv_Itoa.f c.f8).bind fun t330 => ((impl_row.f (([c.f0, t324, c.f2, t325, t326, t327, t328, t329, t330] : List ByteArray))).bind fun t334 => ((strings_Builder_WriteString.f (mkB (((l.take i).map lineM).flatten)) t334).bind fun t335 => (impl_JarSave.l0 k t335 l (l.length : Int) ((i + 1 : Nat) : Int))))))))))) ) ?_ (fun k => by
      rw [impl_JarSave.l0, if_pos (by omega), if_pos (by omega), if_pos (by omega), rdI_get _ _ _ g2, w_succ i (by omega)])
    refine Ev.bind (hexText_ev c.f1 hc.2.1) ?_
    refine Ev.bindc (bit_impl _) ?_
    refine Ev.bind (hexText_ev c.f4 hc.2.2.2) ?_
    refine Ev.bindc (itoa_ev _ (by omega)) ?_
    refine Ev.bindc (bit_impl _) ?_
    refine Ev.bindc (itoa_ev _ (by omega)) ?_
    refine Ev.bindc (itoa_ev _ (by omega)) ?_
    refine Ev.bindc (row_ev c hc ⟨n5, n7, n8⟩) ?_
    refine Ev.bindc (a := mkB (((l.take i).map lineM).flatten) ++ mkB (lineM c)) (by
      unfold strings_Builder_WriteString.f
      rw [if_pos (by rw [mkB_size, mkB_size]; omega)]) ?_
    exact ih
theorem jarSave_impl (l : List CkI) (hl : l.length ≤ 1048576) (hs : ∀ c ∈ l, smallCk c) : Ev (fun k => impl_JarSave.f k l) (mkB (saveM l)) := by
  unfold impl_JarSave.f saveM
  refine Ev.bind (jarOk_impl l hl hs) ?_
  cases h : jarOkM l
  · exact Ev.eq (Ev.now _) (fun k => by simp [mkB])
  · refine Ev.congr (fun k => if_pos rfl) ?_
    rw [if_pos rfl]
    exact implSave_go l (jarOk_len h) hs (jar_nums l l 0 h) l 0 rfl (Nat.zero_le _)
theorem specSave_go (l : List CkI) (hl : l.length ≤ 10) (hs : ∀ c ∈ l, smallCk c) (hn : ∀ c ∈ l, numOk c) : ∀ (r : List CkI) (i : Nat), l.drop i = r → i ≤ l.length →
    Ev (fun k => spec_l9Jar.l0 k l (mkB (((l.take i).map lineM).flatten)) (i : Int)) (mkB ((l.map lineM).flatten))
  | [], i, hr, hi => by
    obtain rfl := get_nil hi hr
    refine Ev.up (Ev.now _) (fun k => ?_)
    rw [spec_l9Jar.l0, if_neg (by omega), List.take_length]
  | c :: r, i, hr, hi => by
    obtain ⟨g1, g2, g3⟩ := get_cons hr
    have hc := hs c (List.mem_of_getElem? g2)
    have hcn := hn c (List.mem_of_getElem? g2)
    have ih := specSave_go l hl hs hn r (i + 1) g3 (by omega)
    rw [take_line l i c g2] at ih
    have hlen := lines_len (l.take i) (fun x hx => hs x (List.mem_of_mem_take hx)) (fun x hx => hn x (List.mem_of_mem_take hx))
    have : (l.take i).length * 18874387 ≤ 10 * 18874387 := Nat.mul_le_mul_right _ (by simp; omega)
    have hline := line_len c hc hcn
    refine Ev.up (f := fun k => (spec_l9Cookie.f k c.f0 c.f1 c.f2 c.f3 c.f4 c.f5 c.f6 c.f7 c.f8).bind fun t224 => (if (mkB (((l.take i).map lineM).flatten)).size + t224.size ≤ 9223372036854775807 then (spec_l9Jar.l0 k l (mkB (((l.take i).map lineM).flatten) ++ t224) ((i + 1 : Nat) : Int)) else (none))) ?_ (fun k => by
      rw [spec_l9Jar.l0, if_pos (by omega), if_pos (by omega), rdI_get _ _ _ g2, w_succ i (by omega)])
    refine Ev.bind (l9Cookie_ev c hc hcn) ?_
    refine Ev.congr (fun k => if_pos (by rw [mkB_size, mkB_size]; omega)) ?_
    exact ih
theorem jarSave_spec (l : List CkI) (hl : l.length ≤ 1048576) (hs : ∀ c ∈ l, smallCk c) : Ev (fun k => spec_JarSave.f k l) (mkB (saveM l)) := by
  unfold spec_JarSave.f saveM
  refine Ev.bind (jarOk_spec l hl hs) ?_
  cases h : jarOkM l
  · exact Ev.eq (Ev.now _) (fun k => by simp [mkB])
  · refine Ev.congr (fun k => if_pos rfl) ?_
    rw [if_pos rfl]
    exact Ev.bind (specSave_go l (jarOk_len h) hs (jar_nums l l 0 h) l 0 rfl (Nat.zero_le _)) (Ev.now _)
theorem FnExactJarSave : ∀ (b0 : List CkL) (_ : (GList gCk) b0), ∃ k, laws_FnExactJarSave.f k b0 = some true := by
  intro l hl
  refine Ev.rounds ?_
  unfold laws_FnExactJarSave.f
  obtain ⟨z, hz, z1, z2, z3⟩ := szCk_ev l hl 1048576 (by omega) (by omega)
  refine Ev.bind hz ?_
  by_cases q : z < 0
  · exact Ev.eq (Ev.now _) (fun k => if_pos q)
  obtain ⟨h1, h2⟩ := z3 (by omega)
  have ht := toCk_ev l (by omega)
  have hm : ∀ c ∈ l.map ckOf, smallCk c := fun c hc => by
    obtain ⟨x, hx, rfl⟩ := List.mem_map.1 hc
    exact h2 x hx
  have hlen : (l.map ckOf).length ≤ 1048576 := by simp; omega
  refine Ev.congr (fun k => if_neg q) ?_
  refine Ev.bind ht (Ev.bind (jarSave_spec _ hlen hm) (Ev.bind ht (Ev.bind (jarSave_impl _ hlen hm) ?_)))
  refine Ev.congr (fun k => if_pos rfl) ?_
  refine Ev.bind ht (Ev.bind (eqCkS_ev _ _ (by omega)) ?_)
  rw [decide_eq_true rfl]
  exact Ev.now _
end Go.Proofs.YtakobibclhdakaaDoor.Pure
