/- What the law FnExactSureOk says of lists and numbers: the printed functions answer as told. -/
import Derived.Test.YtakobibclhdakaaDoorPFnExactSureOkx
import Derived.Test.YtakobibclhdakaaDoorO
import Derived.Lib.CountLaws
import Derived.Lib.SplitLaws

namespace Go.Proofs.YtakobibclhdakaaDoor.Pure
open Go.RowKit Go.Proofs.YtakobibclhdakaaDoorW.PrintWords Go.Proofs.YtakobibclhdakaaDoorG Go.Proofs.YtakobibclhdakaaDoorO Go.Proofs.YtakobibclhdakaaDoor.PFnExactSureOk
set_option linter.unusedVariables false
set_option linter.unusedSimpArgs false
/-! ### bytes, rounds, rows -/
abbrev Bs := List UInt8
def B (s : ByteArray) : Bs := s.data.toList
def mkB (l : Bs) : ByteArray := ⟨l.toArray⟩
theorem B_mkB (l : Bs) : B (mkB l) = l := by simp [B, mkB]
theorem mkB_B (s : ByteArray) : mkB (B s) = s := by cases s; simp [B, mkB]
theorem B_inj {a b : ByteArray} (h : B a = B b) : a = b := by rw [← mkB_B a, h, mkB_B]
theorem mkB_inj {a b : Bs} (h : mkB a = mkB b) : a = b := by rw [← B_mkB a, h, B_mkB]
theorem B_len (s : ByteArray) : (B s).length = s.size := by simp [B]
theorem mkB_size (l : Bs) : (mkB l).size = l.length := by rw [← B_len, B_mkB]
theorem tl_B (s : ByteArray) : s.toList = B s := ByteArray.toList_eq s
theorem B_ext (s : ByteArray) (a b : Nat) : B (s.extract a b) = ((B s).take b).drop a := by
  simp [B, ByteArray.data_extract, List.drop_take]
theorem ext_mkB (s : ByteArray) (a b : Nat) : s.extract a b = mkB (((B s).take b).drop a) := by rw [← B_ext, mkB_B]
theorem ext_end (s : ByteArray) (a : Nat) : s.extract a s.size = mkB ((B s).drop a) := by rw [ext_mkB, ← B_len, List.take_length]
theorem B_app (a b : ByteArray) : B (a ++ b) = B a ++ B b := by simp [B]
theorem mkB_app (a b : Bs) : mkB a ++ mkB b = mkB (a ++ b) := B_inj (by rw [B_app, B_mkB, B_mkB, B_mkB])
theorem B_empty : B ByteArray.empty = [] := rfl
theorem mkB_nil : mkB [] = ByteArray.empty := rfl
theorem bt_get (s : ByteArray) (i : Nat) (c : UInt8) (h : (B s)[i]? = some c) : bt s (i : Int) = (c.toNat : Int) := by
  obtain ⟨hl, hc⟩ := List.getElem?_eq_some_iff.1 h
  have hs : i < s.size := by rw [← B_len]; exact hl
  unfold bt
  rw [dif_pos (by simpa using hs)]
  have : s[i] = c := by rw [← hc]; rfl
  simp [this]
theorem at_cons {s : ByteArray} {i : Nat} {c : UInt8} {l : Bs} (h : (B s).drop i = c :: l) : i < s.size ∧ bt s (i : Int) = (c.toNat : Int) ∧ (B s).drop (i + 1) = l ∧ (B s)[i]? = some c := by
  have h1 : (B s)[i]? = some c := by rw [← List.head?_drop, h]; rfl
  have h2 : i < s.size := by rw [← B_len]; exact (List.getElem?_eq_some_iff.1 h1).1
  refine ⟨h2, bt_get s i c h1, ?_, h1⟩
  rw [← List.drop_drop, h]; rfl
theorem at_nil {s : ByteArray} {i : Nat} (hi : i ≤ s.size) (h : (B s).drop i = []) : i = s.size := by
  rw [List.drop_eq_nil_iff, B_len] at h
  omega
theorem w64 {x : Int} (h1 : -9223372036854775808 ≤ x) (h2 : x ≤ 9223372036854775807) : wrap64 x = x := by unfold wrap64; omega
theorem w_succ (i : Nat) (h : i < 9223372036854775807) : wrap64 ((i : Int) + 1) = ((i + 1 : Nat) : Int) := by rw [w64 (by omega) (by omega)]; omega
theorem w_pred (i : Nat) (h1 : 1 ≤ i) (h : i ≤ 9223372036854775807) : wrap64 ((i : Int) - 1) = ((i - 1 : Nat) : Int) := by rw [w64 (by omega) (by omega)]; omega
theorem rdOf_get {α : Type} (d : α) (l : List α) (i : Nat) (a : α) (h : l[i]? = some a) : rdOf d l (i : Int) = a := by
  simp [rdOf, List.getD, h]
theorem get_cons {α : Type} {l : List α} {i : Nat} {c : α} {r : List α} (h : l.drop i = c :: r) : i < l.length ∧ l[i]? = some c ∧ l.drop (i + 1) = r := by
  have h1 : l[i]? = some c := by rw [← List.head?_drop, h]; rfl
  refine ⟨(List.getElem?_eq_some_iff.1 h1).1, h1, ?_⟩
  rw [← List.drop_drop, h]; rfl
theorem get_nil {α : Type} {l : List α} {i : Nat} (hi : i ≤ l.length) (h : l.drop i = []) : i = l.length := by
  rw [List.drop_eq_nil_iff] at h
  omega
theorem Ev.cst {α : Type} {g : Option α} {r : α} (h : g = some r) : Ev (fun _ => g) r := by rw [h]; exact Ev.now r
/-- A step of a loop, and what it comes to. -/
theorem Ev.up {α : Type} {g f : Nat → Option α} {r : α} (k : Ev f r) (h : ∀ k, g (k + 1) = f k) : Ev g r := Ev.step h k
theorem Ev.eq {α : Type} {g f : Nat → Option α} {r : α} (k : Ev f r) (h : ∀ k, g k = f k) : Ev g r := Ev.congr h k
theorem Ev.bindc {α β : Type} {g : Option α} {f : Nat → α → Option β} {a : α} {r : β} (h : g = some a) (k : Ev (fun n => f n a) r) : Ev (fun n => g.bind (f n)) r := by
  subst h; exact k
theorem nat_eq {a b : UInt8} : ((a.toNat : Int) = (b.toNat : Int)) ↔ a = b := by
  rw [← UInt8.toNat_inj]; omega
theorem byte_lt (c : UInt8) : c.toNat < 256 := c.toNat_lt
/-! ### a text cut at a byte -/
def cutM (c : UInt8) : Bs → List Bs
  | [] => [[]]
  | x :: l => if x = c then [] :: cutM c l else (x :: (cutM c l).headD []) :: (cutM c l).tail
theorem cutM_ne (c : UInt8) (l : Bs) : cutM c l = (cutM c l).headD [] :: (cutM c l).tail := by
  cases l with
  | nil => rfl
  | cons x l => unfold cutM; split <;> rfl
theorem cutM_len (c : UInt8) : ∀ l : Bs, (cutM c l).length ≤ l.length + 1
  | [] => by simp [cutM]
  | x :: l => by
    have ih := cutM_len c l
    rw [cutM_ne c l] at ih
    unfold cutM
    split
    · rw [cutM_ne c l]; simp at *; omega
    · simp at *; omega
theorem cutM_none (c : UInt8) : ∀ l : Bs, c ∉ l → cutM c l = [l]
  | [], _ => rfl
  | x :: l, h => by
    have h1 : x ≠ c := fun e => h (by simp [e])
    have h2 : c ∉ l := fun e => h (by simp [e])
    unfold cutM
    rw [if_neg h1, cutM_none c l h2]
    rfl
theorem cutM_app (c : UInt8) : ∀ a b : Bs, c ∉ a → cutM c (a ++ c :: b) = a :: cutM c b
  | [], b, _ => by simp [cutM]
  | x :: a, b, h => by
    have h1 : x ≠ c := fun e => h (by simp [e])
    have h2 : c ∉ a := fun e => h (by simp [e])
    have ih := cutM_app c a b h2
    show cutM c (x :: (a ++ c :: b)) = _
    rw [cutM, if_neg h1, ih]
    rfl
theorem cutM_mem (c : UInt8) : ∀ (l p : Bs), p ∈ cutM c l → (c ∉ p) ∧ (∀ x ∈ p, x ∈ l)
  | [], p, h => by simp [cutM] at h; subst h; simp
  | x :: l, p, h => by
    unfold cutM at h
    split at h
    · rcases List.mem_cons.1 h with rfl | h
      · simp
      · have := cutM_mem c l p h
        exact ⟨this.1, fun y hy => by simp [this.2 y hy]⟩
    · rename_i hx
      have hn := cutM_ne c l
      rcases List.mem_cons.1 h with rfl | h
      · have := cutM_mem c l ((cutM c l).headD []) (by rw [hn]; simp)
        refine ⟨fun e => ?_, fun y hy => ?_⟩
        · rcases List.mem_cons.1 e with e | e
          · exact hx e.symm
          · exact this.1 e
        · rcases List.mem_cons.1 hy with e | e
          · simp [e]
          · simp [this.2 y e]
      · have := cutM_mem c l p (by rw [hn]; simp [h])
        exact ⟨this.1, fun y hy => by simp [this.2 y hy]⟩
theorem cutM_all (c : UInt8) (f : UInt8 → Bool) : ∀ l : Bs, ((cutM c l).all fun p => p.all f) = l.all fun x => x == c || f x
  | [] => rfl
  | x :: l => by
    have ih := cutM_all c f l
    rw [cutM_ne c l] at ih
    simp only [List.all_cons] at ih
    unfold cutM
    by_cases h : x = c
    · subst h
      rw [if_pos rfl, cutM_ne x l]
      simp [← ih]
    · rw [if_neg h]
      rw [List.all_cons, List.all_cons, List.all_cons, ← ih]
      have : (x == c) = false := by simpa using h
      rw [this, Bool.false_or, Bool.and_assoc]
theorem first_of (c : UInt8) : ∀ l : Bs, c ∈ l → ∃ a b, l = a ++ c :: b ∧ c ∉ a
  | [], h => by cases h
  | x :: l, h => by
    by_cases e : x = c
    · exact ⟨[], l, by simp [e], by simp⟩
    · obtain ⟨a, b, rfl, ha⟩ := first_of c l (by
        rcases List.mem_cons.1 h with r | r
        · exact absurd r.symm e
        · exact r)
      refine ⟨x :: a, b, rfl, fun r => ?_⟩
      rcases List.mem_cons.1 r with r | r
      · exact e r.symm
      · exact ha r
theorem split_all (c : UInt8) : ∀ (n : Nat) (l : Bs), l.length ≤ n → Lib.splitK [c] 0 (Lib.count l [c]) l = cutM c l
  | n, l, hn => by
    by_cases hc : c ∈ l
    · obtain ⟨a, b, rfl, ha⟩ := first_of c l hc
      have hi : Lib.index (a ++ c :: b) [c] = (a.length : Int) := by
        apply Lib.index_first (by simp)
        · simp [Lib.occAt]
        · intro j hj
          have : (a ++ c :: b).drop j = a.drop j ++ c :: b := by rw [List.drop_append_of_le_length (by omega)]
          simp only [Lib.occAt, this]
          have h2 : ∃ y r, a.drop j = y :: r := by
            cases h : a.drop j with
            | nil => rw [List.drop_eq_nil_iff] at h; omega
            | cons y r => exact ⟨y, r, rfl⟩
          obtain ⟨y, r, h2⟩ := h2
          rw [h2]
          have : y ≠ c := fun e => ha (by
            have : y ∈ a.drop j := by rw [h2]; simp
            exact e ▸ List.mem_of_mem_drop this)
          simp [List.isPrefixOf, Ne.symm this]
      have hd : (a ++ c :: b).drop (a.length + 1) = b := by
        rw [← List.drop_drop, List.drop_left]; rfl
      rw [Lib.count_hit (by simp) hi, show [c].length = 1 from rfl, hd, Nat.add_comm, cutM_app c a b ha]
      unfold Lib.splitK
      rw [hi]
      have : ¬ (((a.length : Nat) : Int) == -1) = true := by simp
      rw [if_neg this]
      have h3 : ((a.length : Nat) : Int).toNat = a.length := by omega
      simp only [h3, List.length_singleton, Nat.add_zero, hd]
      have ht : (a ++ c :: b).take a.length = a := List.take_left
      cases n with
      | zero => simp at hn
      | succ n => rw [ht, split_all c n b (by simp at hn; omega)]
    · have hi : Lib.index l [c] = -1 := by
        apply Lib.index_none
        intro j _
        simp only [Lib.occAt]
        cases h : l.drop j with
        | nil => rfl
        | cons y r =>
          have : y ≠ c := fun e => hc (by
            have : y ∈ l.drop j := by rw [h]; simp
            exact e ▸ List.mem_of_mem_drop this)
          simp [List.isPrefixOf, Ne.symm this]
      rw [Lib.count_miss hi, cutM_none c l hc]
      rfl
theorem splitB_cut (c : UInt8) (s : ByteArray) : Lib.splitB (⟨#[c]⟩ : ByteArray) 0 (Lib.countB s ⟨#[c]⟩) s = (cutM c (B s)).map mkB := by
  have h := Lib.splitB_data ⟨#[c]⟩ 0 (Lib.countB s ⟨#[c]⟩) s
  have h2 : Lib.countB s ⟨#[c]⟩ = Lib.count (B s) [c] := rfl
  rw [show (⟨#[c]⟩ : ByteArray).data.toList = [c] from rfl, show s.data.toList = B s from rfl, h2, split_all c _ (B s) (Nat.le_refl _)] at h
  rw [h2, ← h, List.map_map]
  conv => lhs; rw [← List.map_id (Lib.splitB _ _ _ _)]
  apply List.map_congr_left
  intro x _
  exact (mkB_B x).symm
/-! ### labels, host names, numbers: the models -/
def labelsM (l : Bs) : List Bs := if 1 < (cutM 46 l).length ∧ (cutM 46 l).getLast? = some [] then (cutM 46 l).dropLast else cutM 46 l
def nb (c : UInt8) : Bool := (decide (97 ≤ c.toNat) && decide (c.toNat ≤ 122)) || (decide (48 ≤ c.toNat) && decide (c.toNat ≤ 57)) || c == 45 || c == 95
def isNameM (l : Bs) : Bool := (l.all fun c => c == 46 || nb c) && decide (1 ≤ l.length) && decide (l.length ≤ 60) && !(labelsM l).contains []
def digB (c : UInt8) : Bool := decide (48 ≤ c.toNat) && decide (c.toNat ≤ 57)
def hexM (c : UInt8) : Int := if 48 ≤ c.toNat ∧ c.toNat ≤ 57 then (c.toNat : Int) - 48 else if 97 ≤ c.toNat ∧ c.toNat ≤ 102 then (c.toNat : Int) - 87 else if 65 ≤ c.toNat ∧ c.toNat ≤ 70 then (c.toNat : Int) - 55 else -1
def digM (b : Int) : Int → Bs → Option Int
  | n, [] => some n
  | n, c :: l => if hexM c < 0 ∨ b ≤ hexM c ∨ 4294967295 < n then none else digM b (n * b + hexM c) l
def isHex (l : Bs) : Bool := match l with
  | 48 :: c :: _ => c == 120 || c == 88
  | _ => false
def lnumM (l : Bs) : Option Int :=
  if l = [] then none else if isHex l = true then digM 16 0 (l.drop 2) else if l.head? = some 48 ∧ 1 < l.length then digM 8 0 (l.drop 1) else digM 10 0 l
def endsM (l : Bs) : Bool :=
  let last := (labelsM l).getLast?.getD []
  if last = [] then false else if isHex last = true then (lnumM last).isSome else last.all digB
def plainM (l : Bs) : Bool := isNameM l && !endsM l
theorem hexM_range (c : UInt8) : -1 ≤ hexM c ∧ hexM c ≤ 15 := by
  unfold hexM
  have := byte_lt c
  repeat' split
  all_goals omega
theorem cut_len_pos (c : UInt8) (l : Bs) : 1 ≤ (cutM c l).length := by rw [cutM_ne]; simp
theorem labels_ne (l : Bs) : labelsM l ≠ [] := by
  unfold labelsM
  split
  · rename_i h
    intro e
    have := congrArg List.length e
    simp at this
    omega
  · rw [cutM_ne]; simp
theorem labels_last (l : Bs) : ∃ p, (labelsM l).getLast? = some p ∧ p = (labelsM l).getLast?.getD [] := by
  cases h : (labelsM l).getLast? with
  | none => exact absurd (List.getLast?_eq_none_iff.1 h) (labels_ne l)
  | some p => exact ⟨p, rfl, rfl⟩
theorem labels_len (l : Bs) : (labelsM l).length ≤ l.length + 1 := by
  have := cutM_len 46 l
  unfold labelsM
  split
  · simp; omega
  · exact this
theorem labels_mem (l p : Bs) (h : p ∈ labelsM l) : p ∈ cutM 46 l := by
  unfold labelsM at h
  split at h
  · exact List.mem_of_mem_take (by rw [← List.dropLast_eq_take]; exact h)
  · exact h
/-! ### labels, host names, numbers: what the printed functions answer -/
theorem in_spec (a b c : Int) : spec_l1In.f a b c = some (decide (b ≤ a ∧ a ≤ c)) := by
  unfold spec_l1In.f
  split
  · congr 1; simp; omega
  · congr 1; simp; omega
theorem l1Cut_go (s : ByteArray) (c : UInt8) (hs : s.size < 4294967281) : ∀ (l : Bs) (out : List ByteArray) (fr i : Nat), (B s).drop i = l → fr ≤ i → i ≤ s.size → out.length ≤ i →
    Ev (fun k => spec_l1Cut.l0 k s (c.toNat : Int) out (fr : Int) (i : Int)) (out ++ (((((B s).take i).drop fr ++ (cutM c l).headD []) :: (cutM c l).tail).map mkB))
  | [], out, fr, i, hl, hf, hi, ho => by
    obtain rfl := at_nil hi hl
    refine Ev.up (f := fun _ => some (out ++ [s.extract fr s.size])) ?_ (fun k => ?_)
    · rw [ext_end]
      have : (B s).take s.size = B s := by rw [← B_len, List.take_length]
      simp only [cutM, this, List.headD, List.append_nil, List.tail, List.map]
      exact Ev.now _
    · simp only [spec_l1Cut.l0]
      rw [if_neg (by omega), if_pos (by omega), if_pos (by omega), if_pos (by omega), show ((fr : Int)).toNat = fr by omega]
  | x :: l, out, fr, i, hl, hf, hi, ho => by
    obtain ⟨h1, h2, h3, h4⟩ := at_cons hl
    have hw := w_succ i (by omega)
    by_cases hx : x = c
    · have ih := l1Cut_go s c hs l (out ++ [s.extract fr i]) (i + 1) (i + 1) h3 (by omega) (by omega) (by simp; omega)
      subst hx
      have e : out ++ List.map mkB ((List.drop fr (List.take i (B s)) ++ (cutM x (x :: l)).headD []) :: (cutM x (x :: l)).tail) = (out ++ [s.extract fr i]) ++ List.map mkB ((List.drop (i + 1) (List.take (i + 1) (B s)) ++ (cutM x l).headD []) :: (cutM x l).tail) := by
        have e1 : cutM x (x :: l) = [] :: cutM x l := by simp [cutM]
        have e2 : List.drop (i + 1) (List.take (i + 1) (B s)) = [] := List.drop_eq_nil_of_le (by simp; omega)
        rw [e1, e2, ext_mkB, List.nil_append, ← cutM_ne]
        simp
      rw [e]
      refine Ev.up ih (fun k => ?_)
      simp only [spec_l1Cut.l0]
      rw [if_pos (by omega), if_pos (by omega), if_pos h2, if_pos (by omega), if_pos (by omega), if_pos (by omega), if_pos (by omega), hw, show ((fr : Int)).toNat = fr by omega, show ((i : Int)).toNat = i by omega]
    · have ih := l1Cut_go s c hs l out fr (i + 1) h3 (by omega) (by omega) (by omega)
      have e : out ++ List.map mkB ((List.drop fr (List.take i (B s)) ++ (cutM c (x :: l)).headD []) :: (cutM c (x :: l)).tail) = out ++ List.map mkB ((List.drop fr (List.take (i + 1) (B s)) ++ (cutM c l).headD []) :: (cutM c l).tail) := by
        have e2 : List.take (i + 1) (B s) = List.take i (B s) ++ [x] := by rw [List.take_add_one, h4]; rfl
        rw [cutM, if_neg hx, e2, List.drop_append_of_le_length (by simp; rw [B_len]; omega)]
        simp
      rw [e]
      refine Ev.up ih (fun k => ?_)
      simp only [spec_l1Cut.l0]
      rw [if_pos (by omega), if_pos (by omega), if_neg (by rw [h2, nat_eq]; exact hx), hw]
theorem l1Cut_ev (s : ByteArray) (c : UInt8) (hs : s.size < 4294967281) : Ev (fun k => spec_l1Cut.f k s (c.toNat : Int)) ((cutM c (B s)).map mkB) := by
  have h := l1Cut_go s c hs (B s) [] 0 0 rfl (Nat.le_refl _) (Nat.zero_le _) (Nat.le_refl _)
  rw [List.take_zero, List.drop_nil, List.nil_append, List.nil_append, ← cutM_ne] at h
  exact h
theorem mkB_toList (l : Bs) : (mkB l).toList = l := by rw [tl_B, B_mkB]
theorem last_get {l : List Bs} {p : Bs} (h : l.getLast? = some p) : (l.map mkB)[l.length - 1]? = some (mkB p) := by
  rw [List.getLast?_eq_getElem?] at h
  rw [List.getElem?_map, h]; rfl
/-- What both programs do with the pieces. -/
theorem parts_eq {α : Type} (ps : List Bs) (h1 : 1 ≤ ps.length) (h2 : ps.length < 4294967290) (n : Option α) (F : List ByteArray → Option α) :
    (if (((ps.map mkB).length : Nat) : Int) > 1 then (if 0 ≤ (wrap64 (((ps.map mkB).length : Int) - 1)) then (if (wrap64 (((ps.map mkB).length : Int) - 1)) < ((ps.map mkB).length : Int) then (if (rdOf ByteArray.empty (ps.map mkB) (wrap64 (((ps.map mkB).length : Int) - 1))).toList = ([] : List UInt8) then (if (wrap64 (((ps.map mkB).length : Int) - 1)) ≤ ((ps.map mkB).length : Int) then (F ((ps.map mkB).take ((wrap64 (((ps.map mkB).length : Int) - 1)) : Int).toNat)) else n) else (F (ps.map mkB))) else n) else n) else (F (ps.map mkB))) =
      F ((if 1 < ps.length ∧ ps.getLast? = some [] then ps.dropLast else ps).map mkB) := by
  have hl : (ps.map mkB).length = ps.length := List.length_map ..
  rw [hl, w_pred ps.length h1 (by omega)]
  by_cases g : 1 < ps.length
  · rw [if_pos (by omega), if_pos (by omega), if_pos (by omega)]
    cases hp : ps.getLast? with
    | none => rw [List.getLast?_eq_none_iff] at hp; subst hp; simp at g
    | some p =>
      rw [rdOf_get _ _ _ _ (last_get hp), mkB_toList]
      by_cases e : p = []
      · subst e
        rw [if_pos rfl, if_pos (by omega), if_pos ⟨g, rfl⟩, List.map_dropLast, List.dropLast_eq_take, hl]
        rfl
      · rw [if_neg e, if_neg (fun h => e (Option.some.inj h.2))]
  · rw [if_neg (by omega), if_neg (fun h => g h.1)]
theorem l2Parts_ev (s : ByteArray) (hs : s.size < 4294967281) : Ev (fun k => spec_l2Parts.f k s) ((labelsM (B s)).map mkB) := by
  unfold spec_l2Parts.f
  refine Ev.bind (l1Cut_ev s 46 hs) ?_
  have hl := cutM_len 46 (B s)
  rw [B_len] at hl
  have h := parts_eq (cutM 46 (B s)) (cut_len_pos _ _) (by omega) none some
  rw [h]
  exact Ev.now _
theorem labels_impl (s : ByteArray) (hs : s.size < 4294967281) : impl_labels.f s = some ((labelsM (B s)).map mkB) := by
  unfold impl_labels.f strings_Split.f
  rw [if_pos ⟨hs, by decide⟩, splitB_cut, Option.bind_some]
  have hl := cutM_len 46 (B s)
  rw [B_len] at hl
  exact parts_eq (cutM 46 (B s)) (cut_len_pos _ _) (by omega) none some
/-! ### host names -/
theorem nbI (c : UInt8) : nb c = true ↔ ((97 ≤ (c.toNat : Int) ∧ (c.toNat : Int) ≤ 122) ∨ (48 ≤ (c.toNat : Int) ∧ (c.toNat : Int) ≤ 57) ∨ (c.toNat : Int) = 45 ∨ (c.toNat : Int) = 95) := by
  unfold nb
  simp only [Bool.or_eq_true, Bool.and_eq_true, decide_eq_true_eq, beq_iff_eq, ← UInt8.toNat_inj]
  have : (45 : UInt8).toNat = 45 := rfl
  have : (95 : UInt8).toNat = 95 := rfl
  omega
theorem isDigit_eq (c : UInt8) : impl_isDigit.f (c.toNat : Int) = some (digB c) := by
  unfold impl_isDigit.f digB
  split
  · congr 1
    have : decide (48 ≤ c.toNat) = true := by simp; omega
    rw [this, Bool.true_and]
    congr 1
    simp; omega
  · congr 1
    have : decide (48 ≤ c.toNat) = false := by simp; omega
    rw [this]; rfl
theorem digB_int (c : UInt8) : digB c = (decide (48 ≤ (c.toNat : Int)) && decide ((c.toNat : Int) ≤ 57)) := by
  unfold digB
  congr 1
  · exact decide_eq_decide.2 (by omega)
  · exact decide_eq_decide.2 (by omega)
theorem byte_is (c d : UInt8) : c = d ↔ (c.toNat : Int) = (d.toNat : Int) := by rw [← UInt8.toNat_inj]; omega
theorem in_impl (a b c : Int) : impl_in.f a b c = some (decide (b ≤ a ∧ a ≤ c)) := by
  unfold impl_in.f
  split
  · congr 1; simp; omega
  · congr 1; simp; omega
theorem contains_go (l : List Bs) : ∀ (r : List Bs) (i : Nat), l.drop i = r → i ≤ l.length → l.length < 4294967290 →
    Ev (fun k => slices_Index_string_string.l0 k (l.map mkB) (⟨#[]⟩ : ByteArray) ((l.map mkB).length : Int) (i : Int)) (if r.contains [] then ((i + r.findIdx (· == []) : Nat) : Int) else -1)
  | [], i, hr, hi, hb => by
    have := get_nil hi hr
    refine Ev.up (f := fun _ => some (-1)) (Ev.now _) (fun k => ?_)
    simp only [slices_Index_string_string.l0]
    rw [if_neg (by simp; omega)]
  | p :: r, i, hr, hi, hb => by
    obtain ⟨h1, h2, h3⟩ := get_cons hr
    have hg : (l.map mkB)[i]? = some (mkB p) := by rw [List.getElem?_map, h2]; rfl
    have hw := w_succ i (by omega)
    by_cases e : p = []
    · subst e
      refine Ev.up (f := fun _ => some (i : Int)) ?_ (fun k => ?_)
      · simp; exact Ev.now _
      · simp only [slices_Index_string_string.l0]
        rw [if_pos (by simp; omega), if_pos (by omega), if_pos (by simp; omega), rdOf_get _ _ _ _ hg, mkB_toList, if_pos (by rw [tl_B]; rfl)]
    · have ih := contains_go l r (i + 1) h3 (by omega) hb
      have e2 : (if (p :: r).contains [] then ((i + (p :: r).findIdx (· == []) : Nat) : Int) else -1) = (if r.contains [] then (((i + 1) + r.findIdx (· == []) : Nat) : Int) else -1) := by
        have h5 : (p == ([] : Bs)) = false := by simpa using e
        rw [List.findIdx_cons, h5]
        have h6 : (([] : Bs) == p) = false := by simpa using Ne.symm e
        rw [List.contains_cons, h6, Bool.false_or]
        simp only [cond_false]
        split
        · congr 1; omega
        · rfl
      rw [e2]
      refine Ev.up ih (fun k => ?_)
      simp only [slices_Index_string_string.l0]
      rw [if_pos (by simp; omega), if_pos (by omega), if_pos (by simp; omega), rdOf_get _ _ _ _ hg, mkB_toList, if_neg (by rw [tl_B]; exact fun h => e h.symm), hw]
theorem contains_ev (l : List Bs) (hb : l.length < 4294967290) : Ev (fun k => slices_Contains_string_string.f k (l.map mkB) (⟨#[]⟩ : ByteArray)) (l.contains []) := by
  unfold slices_Contains_string_string.f slices_Index_string_string.f
  refine Ev.bind (contains_go l l 0 rfl (by omega) hb) ?_
  refine Ev.cst ?_
  congr 1
  cases h : l.contains [] with
  | true => simp
  | false => simp
/-- The end of impl.isHostName, behind the loop. -/
theorem isHostName_go (s : ByteArray) (hs : s.size < 4294967281) : ∀ (l : Bs) (i : Nat), (B s).drop i = l → i ≤ s.size →
    Ev (fun k => impl_isHostName.l0 k s (s.size : Int) (i : Int)) ((l.all fun c => c == 46 || nb c) && decide (1 ≤ s.size) && decide (s.size ≤ 60) && !(labelsM (B s)).contains [])
  | [], i, hl, hi => by
    obtain rfl := at_nil hi hl
    have hll := labels_len (B s)
    rw [B_len] at hll
    refine Ev.step (fun k => by simp only [impl_isHostName.l0]; rw [if_neg (by omega)]) ?_
    refine Ev.bindc (in_impl _ _ _) ?_
    by_cases h : (1 : Int) ≤ (s.size : Int) ∧ (s.size : Int) ≤ 60
    · rw [decide_eq_true h]
      refine Ev.eq (f := fun k => (impl_labels.f s).bind fun t170 => ((slices_Contains_string_string.f k t170 (⟨#[]⟩ : ByteArray)).bind fun t173 => (some (!t173)))) ?_ (fun k => if_pos rfl)
      refine Ev.bindc (labels_impl s hs) ?_
      refine Ev.bind (contains_ev _ (by omega)) ?_
      have e1 : decide (1 ≤ s.size) = true := by simp; omega
      have e2 : decide (s.size ≤ 60) = true := by simp; omega
      rw [e1, e2]
      simp
      exact Ev.now _
    · rw [decide_eq_false h]
      refine Ev.eq (f := fun k => some false) ?_ (fun k => if_neg (by simp))
      have : (decide (1 ≤ s.size) && decide (s.size ≤ 60)) = false := by simp; omega
      rw [Bool.and_assoc (List.all [] _), this]
      simp
      exact Ev.now _
  | c :: l, i, hl, hi => by
    obtain ⟨h1, h2, h3, h4⟩ := at_cons hl
    have hw := w_succ i (by omega)
    have ih := isHostName_go s hs l (i + 1) h3 (by omega)
    have hc := nbI c
    by_cases hn : c == 46 || nb c
    · rw [List.all_cons, hn, Bool.true_and]
      refine Ev.up ih (fun k => ?_)
      simp only [impl_isHostName.l0]
      rw [if_pos (by omega), if_pos (by omega), if_pos (by omega), h2, hw]
      have hd := digB_int c
      have h46 : c = 46 ↔ (c.toNat : Int) = 46 := byte_is c 46
      simp only [isDigit_eq, Option.bind_some, hd]
      have hx : (c.toNat : Int) = 46 ∨ ((97 ≤ (c.toNat : Int) ∧ (c.toNat : Int) ≤ 122) ∨ (48 ≤ (c.toNat : Int) ∧ (c.toNat : Int) ≤ 57) ∨ (c.toNat : Int) = 45 ∨ (c.toNat : Int) = 95) := by
        rcases (by simpa using hn : c = 46 ∨ nb c = true) with h | h
        · exact .inl (h46.1 h)
        · exact .inr (hc.1 h)
      generalize (c.toNat : Int) = z at *
      repeat' split
      all_goals first | rfl | (exfalso; simp at *; omega)
    · have hn' : (c == 46 || nb c) = false := by simpa using hn
      rw [List.all_cons, hn', Bool.false_and, Bool.false_and, Bool.false_and, Bool.false_and]
      refine Ev.step (f := fun _ => some false) (fun k => ?_) (Ev.now _)
      simp only [impl_isHostName.l0]
      rw [if_pos (by omega), if_pos (by omega), if_pos (by omega), h2, hw]
      have hd := digB_int c
      have h46 : c = 46 ↔ (c.toNat : Int) = 46 := byte_is c 46
      simp only [isDigit_eq, Option.bind_some, hd]
      have hx : ¬ ((c.toNat : Int) = 46 ∨ ((97 ≤ (c.toNat : Int) ∧ (c.toNat : Int) ≤ 122) ∨ (48 ≤ (c.toNat : Int) ∧ (c.toNat : Int) ≤ 57) ∨ (c.toNat : Int) = 45 ∨ (c.toNat : Int) = 95)) := by
        rintro (h | h)
        · rw [h46.2 h] at hn'; simp at hn'
        · rw [hc.2 h] at hn'; simp at hn'
      generalize (c.toNat : Int) = z at *
      repeat' split
      all_goals first | rfl | (exfalso; simp at *; omega)
theorem isHostName_ev (s : ByteArray) (hs : s.size < 4294967281) : Ev (fun k => impl_isHostName.f k s) (isNameM (B s)) := by
  have h := isHostName_go s hs (B s) 0 rfl (Nat.zero_le _)
  unfold isNameM
  rw [B_len]
  exact h
/-! ### spec.l2Name -/
theorem cutM_sub (c : UInt8) : ∀ (l p : Bs), p ∈ cutM c l → p.length ≤ l.length
  | [], p, h => by simp [cutM] at h; subst h; simp
  | x :: l, p, h => by
    have hn := cutM_ne c l
    unfold cutM at h
    split at h
    · rcases List.mem_cons.1 h with rfl | h
      · simp
      · have := cutM_sub c l p h
        simp; omega
    · rcases List.mem_cons.1 h with rfl | h
      · have := cutM_sub c l ((cutM c l).headD []) (by rw [hn]; simp)
        simpa using this
      · have := cutM_sub c l p (by rw [hn]; simp [h])
        simp; omega
theorem empties (ps : List Bs) (h1 : 1 ≤ ps.length) : (ps.zipIdx.any fun p => p.1 == [] && (decide (p.2 + 1 < ps.length) || p.2 == 0)) = (if 1 < ps.length ∧ ps.getLast? = some [] then ps.dropLast else ps).contains [] := by
  rw [Bool.eq_iff_iff, List.any_eq_true, List.contains_iff_mem]
  constructor
  · rintro ⟨⟨q, i⟩, hm, hc⟩
    rw [List.mk_mem_zipIdx_iff_getElem?] at hm
    simp only [Bool.and_eq_true, beq_iff_eq, Bool.or_eq_true, decide_eq_true_eq] at hc
    obtain ⟨rfl, hc⟩ := hc
    split
    · rename_i h
      have hi : i < ps.dropLast.length := by simp; omega
      refine List.mem_of_getElem? (i := i) ?_
      rw [List.getElem?_dropLast, if_pos (by omega)]
      exact hm
    · exact List.mem_of_getElem? hm
  · intro hm
    by_cases h : 1 < ps.length
    · have hd : [] ∈ ps.dropLast := by
        split at hm
        · exact hm
        · rename_i hn
          have hne : ps ≠ [] := by intro e; subst e; simp at h
          rw [← List.dropLast_concat_getLast hne] at hm
          rcases List.mem_append.1 hm with r | r
          · exact r
          · exfalso
            apply hn
            refine ⟨h, ?_⟩
            rw [List.getLast?_eq_some_getLast hne]
            rw [← List.mem_singleton.1 r]
      obtain ⟨i, hi⟩ := List.getElem?_of_mem hd
      have hil := (List.getElem?_eq_some_iff.1 hi).1
      rw [List.getElem?_dropLast] at hi
      simp at hil
      rw [if_pos (by omega)] at hi
      exact ⟨([], i), (List.mk_mem_zipIdx_iff_getElem?).2 hi, by simp; omega⟩
    · rw [if_neg (fun z => h z.1)] at hm
      obtain ⟨i, hi⟩ := List.getElem?_of_mem hm
      have hil := (List.getElem?_eq_some_iff.1 hi).1
      exact ⟨([], i), (List.mk_mem_zipIdx_iff_getElem?).2 hi, by simp; omega⟩
theorem names_eq (l : Bs) : ((((cutM 46 l).all fun p => p.all nb) && !((cutM 46 l).zipIdx.any fun p => p.1 == [] && (decide (p.2 + 1 < (cutM 46 l).length) || p.2 == 0))) && (decide (1 ≤ l.length) && decide (l.length ≤ 60))) = isNameM l := by
  rw [cutM_all, empties _ (cut_len_pos _ _)]
  unfold isNameM labelsM
  have e : ∀ X Y Z V : Bool, ((X && !Y) && (Z && V)) = (X && Z && V && !Y) := by decide
  exact e _ _ _ _
theorem l2Name_in (s : ByteArray) (ps : List Bs) (i : Nat) (p : Bs) (hp : ps[i]? = some p) (hps : ps.length < 4294967290) (hlen : p.length < 4294967290) (r : Bool)
    (hk : Ev (fun k => spec_l2Name.l0 k s (ps.map mkB) ((i + 1 : Nat) : Int)) r) : ∀ (l : Bs) (j : Nat), p.drop j = l → j ≤ p.length →
    Ev (fun k => spec_l2Name.l1 k s (ps.map mkB) (i : Int) (j : Int)) (l.all nb && r)
  | [], j, hl, hj => by
    have := get_nil hj hl
    have hi : i < ps.length := (List.getElem?_eq_some_iff.1 hp).1
    have hg : (ps.map mkB)[i]? = some (mkB p) := by rw [List.getElem?_map, hp]; rfl
    rw [List.all_nil, Bool.true_and]
    refine Ev.up hk (fun k => ?_)
    simp only [spec_l2Name.l1]
    rw [rdOf_get _ _ _ _ hg, if_pos (by omega), if_pos (by simp; omega), if_neg (by rw [mkB_size]; omega), w_succ i (by omega)]
  | c :: l, j, hl, hj => by
    obtain ⟨h1, h2, h3⟩ := get_cons hl
    have hi : i < ps.length := (List.getElem?_eq_some_iff.1 hp).1
    have hg : (ps.map mkB)[i]? = some (mkB p) := by rw [List.getElem?_map, hp]; rfl
    have hb : bt (mkB p) (j : Int) = (c.toNat : Int) := bt_get _ _ _ (by rw [B_mkB]; exact h2)
    have ih := l2Name_in s ps i p hp hps hlen r hk l (j + 1) h3 (by omega)
    have hc := nbI c
    have hw := w_succ j (by omega)
    by_cases hn : nb c = true
    · rw [List.all_cons, hn, Bool.true_and]
      have hx := hc.1 hn
      refine Ev.up ih (fun k => ?_)
      simp only [spec_l2Name.l1]
      rw [rdOf_get _ _ _ _ hg, if_pos (by omega), if_pos (by simp; omega), if_pos (by rw [mkB_size]; omega), if_pos (by omega), hb, hw]
      generalize (c.toNat : Int) = z at *
      repeat' split
      all_goals first | rfl | (exfalso; omega)
    · have hx : ¬ _ := fun h => hn (hc.2 h)
      have hn' : nb c = false := by simpa using hn
      rw [List.all_cons, hn', Bool.false_and, Bool.false_and]
      refine Ev.step (f := fun _ => some false) (fun k => ?_) (Ev.now _)
      simp only [spec_l2Name.l1]
      rw [rdOf_get _ _ _ _ hg, if_pos (by omega), if_pos (by simp; omega), if_pos (by rw [mkB_size]; omega), if_pos (by omega), hb, hw]
      generalize (c.toNat : Int) = z at *
      repeat' split
      all_goals first | rfl | (exfalso; omega)
theorem l2Name_go (s : ByteArray) (ps : List Bs) (hps : ps.length < 4294967290) (hlen : ∀ p ∈ ps, p.length < 4294967290) : ∀ (r : List Bs) (i : Nat), ps.drop i = r → i ≤ ps.length →
    Ev (fun k => spec_l2Name.l0 k s (ps.map mkB) (i : Int)) ((r.all (fun p => p.all nb) && !((r.zipIdx i).any fun p => p.1 == [] && (decide (p.2 + 1 < ps.length) || p.2 == 0))) && (decide (1 ≤ s.size) && decide (s.size ≤ 60)))
  | [], i, hr, hi => by
    have := get_nil hi hr
    refine Ev.step (fun k => by simp only [spec_l2Name.l0]; rw [if_neg (by simp; omega)]) ?_
    refine Ev.bindc (in_spec _ _ _) (Ev.cst ?_)
    simp only [List.all_nil, List.zipIdx_nil, List.any_nil, Bool.not_false, Bool.true_and, Bool.and_true, Option.some.injEq]
    rw [← Bool.decide_and]
    exact decide_eq_decide.2 (by omega)
  | p :: r, i, hr, hi => by
    obtain ⟨h1, h2, h3⟩ := get_cons hr
    have hg : (ps.map mkB)[i]? = some (mkB p) := by rw [List.getElem?_map, h2]; rfl
    have ih := l2Name_go s ps hps hlen r (i + 1) h3 (by omega)
    have hin := l2Name_in s ps i p h2 hps (hlen p (List.mem_of_getElem? h2)) _ ih p 0 rfl (Nat.zero_le _)
    have hl : (ps.map mkB).length = ps.length := List.length_map ..
    have hj : ∀ b : Bool, Ev (fun k => spec_l2Name.j1 k s (ps.map mkB) (i : Int) b) (if b = true then false else p.all nb && ((r.all (fun p => p.all nb) && !((r.zipIdx (i + 1)).any fun p => p.1 == [] && (decide (p.2 + 1 < ps.length) || p.2 == 0))) && (decide (1 ≤ s.size) && decide (s.size ≤ 60)))) := by
      intro b
      cases b with
      | true => exact Ev.step (f := fun _ => some false) (fun k => by simp only [spec_l2Name.j1]; rfl) (Ev.now _)
      | false => exact Ev.up hin (fun k => by simp only [spec_l2Name.j1]; rw [if_neg (by simp)]; rfl)
    have e : ∀ X Y Z V : Bool, ((((X && Y) && !(Z || V)))) = (if Z = true then false else X && (Y && !V)) := by decide
    rw [List.all_cons, List.zipIdx_cons, List.any_cons, e]
    by_cases hp : p = []
    · subst hp
      have e1 : ((([] : Bs) == [])) = true := rfl
      by_cases hlt : i + 1 < ps.length
      · have h := hj true
        simp only [e1, Bool.true_and, decide_eq_true hlt, Bool.true_or, if_true] at h ⊢
        refine Ev.up h (fun k => ?_)
        simp only [spec_l2Name.l0]
        rw [hl, if_pos (by omega), if_pos (by omega), rdOf_get _ _ _ _ hg, if_pos (by rw [mkB_toList]), w_pred _ (by omega) (by omega), if_pos (by omega)]
      · have h := hj (i == 0)
        simp only [e1, Bool.true_and, decide_eq_false hlt, Bool.false_or] at h ⊢
        rw [show (if (i == 0) = true then false else List.all [] nb && ((r.all (fun p => p.all nb) && !((r.zipIdx (i + 1)).any fun p => p.1 == [] && (decide (p.2 + 1 < ps.length) || p.2 == 0))))) = _ from rfl]
        have h9 : ∀ X Y W : Bool, ((if X = true then false else Y) && W) = (if X = true then false else Y && W) := by decide
        rw [h9, Bool.and_assoc]
        refine Ev.up h (fun k => ?_)
        simp only [spec_l2Name.l0]
        rw [hl, if_pos (by omega), if_pos (by omega), rdOf_get _ _ _ _ hg, if_pos (by rw [mkB_toList]), w_pred _ (by omega) (by omega), if_neg (by omega)]
        congr 1
        rw [Bool.eq_iff_iff]
        simp
    · have e1 : (p == []) = false := by simpa using hp
      have h := hj false
      simp only [e1, Bool.false_and, Bool.false_eq_true, if_false] at h ⊢
      rw [Bool.and_assoc]
      refine Ev.up h (fun k => ?_)
      simp only [spec_l2Name.l0]
      rw [hl, if_pos (by omega), if_pos (by omega), rdOf_get _ _ _ _ hg, if_neg (by rw [mkB_toList]; exact hp)]
theorem l2Name_ev (s : ByteArray) (hs : s.size < 4294967281) : Ev (fun k => spec_l2Name.f k s) (isNameM (B s)) := by
  unfold spec_l2Name.f
  refine Ev.bind (l1Cut_ev s 46 hs) ?_
  have hl := cutM_len 46 (B s)
  rw [B_len] at hl
  have h := l2Name_go s (cutM 46 (B s)) (by omega) (fun p hp => by
    have := cutM_sub 46 (B s) p hp
    rw [B_len] at this
    omega) (cutM 46 (B s)) 0 rfl (Nat.zero_le _)
  rw [← names_eq, B_len]
  exact h
/-! ### numbers -/
theorem hex_all (c : UInt8) : (if 48 ≤ (c.toNat : Int) ∧ (c.toNat : Int) ≤ 57 then ((c.toNat : Int) - 48) % 256 else if 97 ≤ (c.toNat : Int) ∧ (c.toNat : Int) ≤ 102 then ((c.toNat : Int) - 97) % 256 + 10 else if 65 ≤ (c.toNat : Int) ∧ (c.toNat : Int) ≤ 70 then ((c.toNat : Int) - 65) % 256 + 10 else -1) = hexM c := by
  unfold hexM
  have := byte_lt c
  repeat' split
  all_goals omega
theorem specHex_ev (c : UInt8) : Ev (fun k => spec_l1Hex.f k (c.toNat : Int)) (hexM c) := by
  refine ⟨3, fun k hk => ?_⟩
  obtain ⟨k, rfl⟩ : ∃ m, k = m + 3 := ⟨k - 3, by omega⟩
  rw [← hex_all]
  unfold spec_l1Hex.f
  simp only [spec_l1Hex.j0, spec_l1Hex.j1, decide_eq_true_eq]
  have := byte_lt c
  generalize (c.toNat : Int) = z at *
  repeat' split
  all_goals first | rfl | contradiction | (exfalso; omega) | (congr 1; omega)
theorem implHex_ev (c : UInt8) : Ev (fun k => impl_hex.f k (c.toNat : Int)) (hexM c) := by
  refine ⟨3, fun k hk => ?_⟩
  obtain ⟨k, rfl⟩ : ∃ m, k = m + 3 := ⟨k - 3, by omega⟩
  rw [← hex_all]
  unfold impl_hex.f
  simp only [impl_hex.j0, impl_hex.j1, decide_eq_true_eq]
  have := byte_lt c
  generalize (c.toNat : Int) = z at *
  repeat' split
  all_goals first | rfl | contradiction | (exfalso; omega) | (congr 1; omega)
theorem specDigits_go (s : ByteArray) (b : Int) (hb : 2 ≤ b ∧ b ≤ 16) (hs : s.size < 4294967281) : ∀ (l : Bs) (n : Int) (i : Nat), (B s).drop i = l → i ≤ s.size → 0 ≤ n → n ≤ 68719476735 →
    Ev (fun k => spec_l2Digits.l0 k s b n (i : Int)) ((digM b n l).getD (-1)) ∧ ∀ r, digM b n l = some r → 0 ≤ r ∧ r ≤ 68719476735
  | [], n, i, hl, hi, h0, h1 => by
    obtain rfl := at_nil hi hl
    refine ⟨Ev.step (f := fun _ => some n) (fun k => by simp only [spec_l2Digits.l0]; rw [if_neg (by omega)]) (Ev.now _), fun r hr => ?_⟩
    obtain rfl := Option.some.inj hr
    exact ⟨h0, h1⟩
  | c :: l, n, i, hl, hi, h0, h1 => by
    obtain ⟨g1, g2, g3, g4⟩ := at_cons hl
    have hr := hexM_range c
    have hw := w_succ i (by omega)
    unfold digM
    by_cases hc : hexM c < 0 ∨ b ≤ hexM c ∨ 4294967295 < n
    · rw [if_pos hc]
      refine ⟨?_, fun r h => by cases h⟩
      refine Ev.step (f := fun k => (spec_l1Hex.f k (c.toNat : Int)).bind fun t127 => (if t127 < 0 then (some (-1)) else (if t127 ≥ b then (some (-1)) else (if n > 4294967295 then (some (-1)) else (spec_l2Digits.l0 k s b (wrap64 ((wrap64 (n * b)) + t127)) (wrap64 ((i : Int) + 1))))))) (fun k => ?_) ?_
      · simp only [spec_l2Digits.l0]; rw [if_pos (by omega), if_pos (by omega), g2]
      · refine Ev.bind (specHex_ev c) (Ev.eq (Ev.now (-1)) (fun k => ?_))
        by_cases q1 : hexM c < 0
        · rw [if_pos q1]
        · rw [if_neg q1]
          by_cases q2 : b ≤ hexM c
          · rw [if_pos q2]
          · rw [if_neg q2, if_pos (by omega)]
    · rw [if_neg hc]
      have hn : n ≤ 4294967295 := by omega
      have hm : 0 ≤ n * b ∧ n * b ≤ 4294967295 * 16 := ⟨Int.mul_nonneg h0 (by omega), Int.mul_le_mul hn hb.2 (by omega) (by omega)⟩
      have hw2 : wrap64 (wrap64 (n * b) + hexM c) = n * b + hexM c := by rw [w64 (by omega) (by omega : n * b ≤ _), w64 (by omega) (by omega)]
      obtain ⟨ih, ihr⟩ := specDigits_go s b hb hs l (n * b + hexM c) (i + 1) g3 (by omega) (by omega) (by omega)
      refine ⟨?_, ihr⟩
      refine Ev.step (f := fun k => (spec_l1Hex.f k (c.toNat : Int)).bind fun t127 => (if t127 < 0 then (some (-1)) else (if t127 ≥ b then (some (-1)) else (if n > 4294967295 then (some (-1)) else (spec_l2Digits.l0 k s b (wrap64 ((wrap64 (n * b)) + t127)) (wrap64 ((i : Int) + 1))))))) (fun k => ?_) ?_
      · simp only [spec_l2Digits.l0]; rw [if_pos (by omega), if_pos (by omega), g2]
      · refine Ev.bind (specHex_ev c) (Ev.eq ih (fun k => ?_))
        rw [if_neg (by omega), if_neg (by omega), if_neg (by omega), hw2, hw]
theorem specDigits_ev (s : ByteArray) (b : Int) (hb : 2 ≤ b ∧ b ≤ 16) (hs : s.size < 4294967281) : Ev (fun k => spec_l2Digits.f k s b) ((digM b 0 (B s)).getD (-1)) :=
  (specDigits_go s b hb hs (B s) 0 0 rfl (Nat.zero_le _) (by omega) (by omega)).1
theorem digM_range (b : Int) (hb : 2 ≤ b ∧ b ≤ 16) : ∀ (l : Bs) (n r : Int), 0 ≤ n → n ≤ 68719476735 → digM b n l = some r → 0 ≤ r ∧ r ≤ 68719476735
  | [], n, r, h0, h1, h => by obtain rfl := Option.some.inj h; exact ⟨h0, h1⟩
  | c :: l, n, r, h0, h1, h => by
    unfold digM at h
    have hr := hexM_range c
    split at h
    · cases h
    · rename_i hc
      have hn : n ≤ 4294967295 := by omega
      have hm : 0 ≤ n * b ∧ n * b ≤ 4294967295 * 16 := ⟨Int.mul_nonneg h0 (by omega), Int.mul_le_mul hn hb.2 (by omega) (by omega)⟩
      exact digM_range b hb l _ r (by omega) (by omega) h
theorem lnum_go (s : ByteArray) (b : Int) (hb : 2 ≤ b ∧ b ≤ 16) (hs : s.size < 4294967281) : ∀ (l : Bs) (n : Int) (i : Nat), (B s).drop i = l → i ≤ s.size → 0 ≤ n → n ≤ 68719476735 →
    Ev (fun k => impl_labelNumber.l0 k s b n (s.size : Int) (i : Int)) (match digM b n l with | some r => (r, true) | none => (0, false))
  | [], n, i, hl, hi, h0, h1 => by
    obtain rfl := at_nil hi hl
    exact Ev.step (f := fun _ => some (n, true)) (fun k => by simp only [impl_labelNumber.l0]; rw [if_neg (by omega)]) (Ev.now _)
  | c :: l, n, i, hl, hi, h0, h1 => by
    obtain ⟨g1, g2, g3, g4⟩ := at_cons hl
    have hr := hexM_range c
    have hw := w_succ i (by omega)
    unfold digM
    refine Ev.step (f := fun k => (impl_hex.f k (c.toNat : Int)).bind fun t177 => (if t177 < 0 then (some (0, false)) else (if t177 ≥ b then (some (0, false)) else (if n > 4294967295 then (some (0, false)) else (impl_labelNumber.l0 k s b (wrap64 ((wrap64 (b * n)) + t177)) (s.size : Int) (wrap64 ((i : Int) + 1))))))) (fun k => ?_) ?_
    · simp only [impl_labelNumber.l0]; rw [if_pos (by omega), if_pos (by omega), if_pos (by omega), g2]
    · refine Ev.bind (implHex_ev c) ?_
      by_cases hc : hexM c < 0 ∨ b ≤ hexM c ∨ 4294967295 < n
      · rw [if_pos hc]
        refine Ev.eq (Ev.now (0, false)) (fun k => ?_)
        by_cases q1 : hexM c < 0
        · rw [if_pos q1]
        · rw [if_neg q1]
          by_cases q2 : b ≤ hexM c
          · rw [if_pos q2]
          · rw [if_neg q2, if_pos (by omega)]
      · rw [if_neg hc]
        have hn : n ≤ 4294967295 := by omega
        have hm : 0 ≤ n * b ∧ n * b ≤ 4294967295 * 16 := ⟨Int.mul_nonneg h0 (by omega), Int.mul_le_mul hn hb.2 (by omega) (by omega)⟩
        have hw2 : wrap64 (wrap64 (b * n) + hexM c) = n * b + hexM c := by rw [Int.mul_comm b n, w64 (by omega) (by omega : n * b ≤ _), w64 (by omega) (by omega)]
        have ih := lnum_go s b hb hs l (n * b + hexM c) (i + 1) g3 (by omega) (by omega) (by omega)
        refine Ev.eq ih (fun k => ?_)
        rw [if_neg (by omega), if_neg (by omega), if_neg (by omega), hw2, hw]
theorem hasPrefix_eq (s p : ByteArray) : strings_HasPrefix.f s p = some ((B p).isPrefixOf (B s)) := by
  unfold strings_HasPrefix.f stringslite_HasPrefix.f
  have e : ((B s).take (B p).length == B p) = (B p).isPrefixOf (B s) := by
    rw [Bool.eq_iff_iff, List.isPrefixOf_iff_prefix, List.prefix_iff_eq_take, beq_iff_eq]
    exact ⟨fun h => h.symm, fun h => h.symm⟩
  by_cases h : (s.size : Int) ≥ (p.size : Int)
  · rw [if_pos h, if_pos (by omega), if_pos h, Option.bind_some, tl_B, tl_B, B_ext, List.drop_zero, show ((p.size : Int)).toNat = (B p).length by rw [B_len]; omega, e]
  · rw [if_neg h, Option.bind_some, ← e]
    congr 1
    have : (B s).take (B p).length ≠ B p := by
      intro z
      have := congrArg List.length z
      rw [List.length_take, B_len, B_len] at this
      omega
    exact (beq_eq_false_iff_ne.2 this).symm
theorem isHex_prefix (l : Bs) : isHex l = (([48, 120] : Bs).isPrefixOf l || ([48, 88] : Bs).isPrefixOf l) := by
  match l with
  | [] => rfl
  | [c] => simp [isHex, List.isPrefixOf]
  | c :: d :: r =>
    by_cases h : c = 48
    · subst h; simp [isHex, List.isPrefixOf, Bool.beq_comm]
    · have : (48 == c) = false := by simpa using Ne.symm h
      simp [List.isPrefixOf, this, isHex]
      split <;> simp_all
theorem isHex_len (l : Bs) (h : isHex l = true) : 2 ≤ l.length := by
  unfold isHex at h
  split at h
  · simp
  · cases h
/-- impl.labelNumber -/
def lnumR (l : Bs) : Int × Bool := match lnumM l with | some r => (r, true) | none => (0, false)
theorem labelNumber_ev (s : ByteArray) (hs : s.size < 4294967281) : Ev (fun k => impl_labelNumber.f k s) (lnumR (B s)) := by
  have hj1 : ∀ (t : ByteArray) (b : Int), 2 ≤ b ∧ b ≤ 16 → t.size < 4294967281 → Ev (fun k => impl_labelNumber.j1 k t b) (match digM b 0 (B t) with | some r => (r, true) | none => (0, false)) := by
    intro t b hb ht
    exact Ev.up (lnum_go t b hb ht (B t) 0 0 rfl (Nat.zero_le _) (by omega) (by omega)) (fun k => by simp only [impl_labelNumber.j1]; rfl)
  unfold lnumR lnumM
  by_cases h0 : B s = []
  · rw [if_pos h0]
    exact Ev.eq (Ev.now _) (fun k => by unfold impl_labelNumber.f; rw [if_pos (by rw [tl_B]; exact h0)])
  rw [if_neg h0]
  have hpos : 1 ≤ s.size := by
    rw [← B_len]
    cases h : B s with
    | nil => exact absurd h h0
    | cons c l => simp
  have hj0 : Ev (fun k => impl_labelNumber.j0 k s 10 (isHex (B s))) (match (if isHex (B s) = true then digM 16 0 ((B s).drop 2) else if (B s).head? = some 48 ∧ 1 < (B s).length then digM 8 0 ((B s).drop 1) else digM 10 0 (B s)) with | some r => (r, true) | none => (0, false)) := by
    by_cases hx : isHex (B s) = true
    · have h2 := isHex_len _ hx
      rw [B_len] at h2
      have h := hj1 (s.extract 2 s.size) 16 (by omega) (by rw [ext_end, mkB_size, List.length_drop, B_len]; omega)
      rw [ext_end, B_mkB] at h
      rw [if_pos hx, hx]
      refine Ev.up h (fun k => ?_)
      simp only [impl_labelNumber.j0]
      rw [if_pos trivial, if_pos (by omega), ext_end]
    · rw [if_neg hx]
      have hx' : isHex (B s) = false := by simpa using hx
      rw [hx']
      obtain ⟨c, l, hc⟩ : ∃ c l, B s = c :: l := by
        cases h : B s with
        | nil => exact absurd h h0
        | cons c l => exact ⟨c, l, rfl⟩
      have hb0 : bt s (0 : Int) = (c.toNat : Int) := bt_get s 0 c (by rw [hc]; rfl)
      by_cases h8 : (B s).head? = some 48 ∧ 1 < (B s).length
      · rw [if_pos h8]
        have h := hj1 (s.extract 1 s.size) 8 (by omega) (by rw [ext_end, mkB_size, List.length_drop, B_len]; omega)
        rw [ext_end, B_mkB] at h
        have hc48 : c = 48 := by have := h8.1; rw [hc] at this; exact Option.some.inj this
        subst hc48
        rw [B_len] at h8
        refine Ev.up h (fun k => ?_)
        simp only [impl_labelNumber.j0]
        rw [if_neg (by simp), if_pos (by omega), if_pos (by rw [hb0]; rfl), if_pos (by omega), if_pos (by omega), ext_end]
      · rw [if_neg h8]
        refine Ev.up (hj1 s 10 (by omega) hs) (fun k => ?_)
        simp only [impl_labelNumber.j0]
        rw [if_neg (by simp), if_pos (by omega), hb0]
        by_cases q : (c.toNat : Int) = 48
        · have hc48 : c = 48 := (byte_is c 48).2 q
          subst hc48
          rw [if_pos q, if_neg (fun z => h8 ⟨by rw [hc]; rfl, by rw [B_len]; omega⟩)]
        · rw [if_neg q]
  rw [isHex_prefix] at hj0 ⊢
  refine Ev.eq (f := fun k => (some (([48, 120] : Bs).isPrefixOf (B s))).bind fun t175 => (if t175 = true then (impl_labelNumber.j0 k s 10 true) else ((some (([48, 88] : Bs).isPrefixOf (B s))).bind fun t176 => (impl_labelNumber.j0 k s 10 t176)))) ?_ (fun k => by unfold impl_labelNumber.f; rw [if_neg (by rw [tl_B]; exact h0), hasPrefix_eq, hasPrefix_eq]; rfl)
  refine Ev.eq hj0 (fun k => ?_)
  rw [Option.bind_some]
  cases ([48, 120] : Bs).isPrefixOf (B s) with
  | true => rfl
  | false => rfl
/-! ### ends in a number -/
theorem hexbytes (s : ByteArray) (c d : UInt8) (r : Bs) (h : B s = c :: d :: r) : bt s (0 : Int) = (c.toNat : Int) ∧ bt s (1 : Int) = (d.toNat : Int) ∧ 2 ≤ s.size := by
  refine ⟨bt_get s 0 c (by rw [h]; rfl), bt_get s 1 d (by rw [h]; rfl), ?_⟩
  rw [← B_len, h]; simp
theorem l2Part_ev (s : ByteArray) (hs : s.size < 4294967281) : Ev (fun k => spec_l2Part.f k s) ((lnumM (B s)).getD (-1)) := by
  unfold lnumM
  by_cases h0 : B s = []
  · rw [if_pos h0]
    exact Ev.eq (Ev.now _) (fun k => by unfold spec_l2Part.f; rw [if_pos (by rw [tl_B]; exact h0)]; rfl)
  rw [if_neg h0]
  obtain ⟨c, l, hc⟩ : ∃ c l, B s = c :: l := by
    cases h : B s with
    | nil => exact absurd h h0
    | cons c l => exact ⟨c, l, rfl⟩
  have hsz : s.size = l.length + 1 := by rw [← B_len, hc]; simp
  have hb0 : bt s (0 : Int) = (c.toNat : Int) := bt_get s 0 c (by rw [hc]; rfl)
  have hj1 : isHex (B s) = false → Ev (fun k => spec_l2Part.j0 k s false) ((if (B s).head? = some 48 ∧ 1 < (B s).length then digM 8 0 ((B s).drop 1) else digM 10 0 (B s)).getD (-1)) := by
    intro hx
    by_cases h8 : (B s).head? = some 48 ∧ 1 < (B s).length
    · rw [if_pos h8]
      have hc48 : c = 48 := by have := h8.1; rw [hc] at this; exact Option.some.inj this
      subst hc48
      rw [B_len] at h8
      have h := specDigits_ev (s.extract 1 s.size) 8 (by omega) (by rw [ext_end, mkB_size, List.length_drop, B_len]; omega)
      rw [ext_end, B_mkB] at h
      refine Ev.step (f := fun k => spec_l2Part.j1 k s true) (fun k => ?_) (Ev.step (f := fun k => (spec_l2Digits.f k (s.extract 1 s.size) 8).bind fun t129 => (some t129)) (fun k => ?_) ?_)
      · simp only [spec_l2Part.j0]
        rw [if_neg (by simp), if_pos (by omega), if_pos (by omega), hb0]; rfl
      · simp only [spec_l2Part.j1]
        rw [if_pos trivial, if_pos (by omega)]
      · rw [ext_end]; exact Ev.bind h (Ev.now _)
    · rw [if_neg h8]
      have h := specDigits_ev s 10 (by omega) hs
      refine Ev.step (f := fun k => spec_l2Part.j1 k s false) (fun k => ?_) (Ev.step (f := fun k => (spec_l2Digits.f k s 10).bind fun t130 => (some t130)) (fun k => ?_) (Ev.bind h (Ev.now _)))
      · simp only [spec_l2Part.j0]
        rw [if_neg (by simp)]
        by_cases g : (s.size : Int) ≥ 2
        · rw [if_pos g, if_pos (by omega), hb0]
          congr 1
          have : ¬ (c.toNat : Int) = 48 := fun q => h8 ⟨by rw [hc, (byte_is c 48).2 q]; rfl, by rw [B_len]; omega⟩
          simpa using this
        · rw [if_neg g]
      · simp only [spec_l2Part.j1]
        rw [if_neg (by simp)]
  cases l with
  | nil =>
    have hx : isHex (B s) = false := by
      rw [hc]; unfold isHex; split
      · rename_i h; cases h
      · rfl
    rw [if_neg (by simp [hx])]
    refine Ev.eq (hj1 hx) (fun k => ?_)
    unfold spec_l2Part.f
    rw [if_neg (by rw [tl_B]; exact h0), if_neg (by simp at hsz; omega)]
  | cons d r =>
    obtain ⟨_, hb1, h2⟩ := hexbytes s c d r hc
    have hx : isHex (B s) = (c == 48 && (d == 120 || d == 88)) := by
      rw [isHex_prefix, hc]
      simp only [List.isPrefixOf, Bool.and_true]
      rw [Bool.and_or_distrib_left, Bool.beq_comm (a := (48 : UInt8)), Bool.beq_comm (a := (120 : UInt8)), Bool.beq_comm (a := (88 : UInt8))]
    have hf : ∀ k, spec_l2Part.f k s = (if (c.toNat : Int) = 48 then (if (d.toNat : Int) = 120 then (spec_l2Part.j0 k s true) else (spec_l2Part.j0 k s ((d.toNat : Int) == 88))) else (spec_l2Part.j0 k s false)) := by
      intro k
      unfold spec_l2Part.f
      rw [if_neg (by rw [tl_B]; exact h0), if_pos (by omega), if_pos (by omega), hb0, hb1]
      by_cases q : (c.toNat : Int) = 48
      · rw [if_pos q, if_pos q, if_pos (by omega)]
      · rw [if_neg q, if_neg q]
    have hd : ((d.toNat : Int) == 88) = (d == 88) := by rw [Bool.eq_iff_iff]; simp [byte_is d 88]
    have h16 : isHex (B s) = true → Ev (fun k => spec_l2Part.j0 k s true) ((digM 16 0 ((B s).drop 2)).getD (-1)) := by
      intro _
      have h := specDigits_ev (s.extract 2 s.size) 16 (by omega) (by rw [ext_end, mkB_size, List.length_drop, B_len]; omega)
      rw [ext_end, B_mkB] at h
      refine Ev.step (f := fun k => (spec_l2Digits.f k (s.extract 2 s.size) 16).bind fun t128 => (some t128)) (fun k => ?_) ?_
      · simp only [spec_l2Part.j0]
        rw [if_pos trivial, if_pos (by omega)]
      · rw [ext_end]; exact Ev.bind h (Ev.now _)
    by_cases q : c = 48
    · have q1 : (c.toNat : Int) = 48 := (byte_is c 48).1 q
      by_cases q2 : d = 120
      · have q3 : (d.toNat : Int) = 120 := (byte_is d 120).1 q2
        have hx1 : isHex (B s) = true := by rw [hx, q, q2]; rfl
        rw [if_pos hx1]
        exact Ev.eq (h16 hx1) (fun k => by rw [hf, if_pos q1, if_pos q3])
      · have q3 : ¬ (d.toNat : Int) = 120 := fun z => q2 ((byte_is d 120).2 z)
        cases q4 : (d == 88) with
        | true =>
          have hx1 : isHex (B s) = true := by rw [hx, q, q4]; simp
          rw [if_pos hx1]
          exact Ev.eq (h16 hx1) (fun k => by rw [hf, if_pos q1, if_neg q3, hd, q4])
        | false =>
          have hx1 : isHex (B s) = false := by rw [hx, q, q4]; simp [q2]
          rw [if_neg (by simp [hx1])]
          exact Ev.eq (hj1 hx1) (fun k => by rw [hf, if_pos q1, if_neg q3, hd, q4])
    · have q1 : ¬ (c.toNat : Int) = 48 := fun z => q ((byte_is c 48).2 z)
      have hx1 : isHex (B s) = false := by rw [hx]; simp [q]
      rw [if_neg (by simp [hx1])]
      exact Ev.eq (hj1 hx1) (fun k => by rw [hf, if_neg q1])
theorem lnumM_range (l : Bs) (r : Int) (h : lnumM l = some r) : 0 ≤ r ∧ r ≤ 68719476735 := by
  unfold lnumM at h
  split at h
  · cases h
  · split at h
    · exact digM_range 16 (by omega) _ 0 r (by omega) (by omega) h
    · split at h
      · exact digM_range 8 (by omega) _ 0 r (by omega) (by omega) h
      · exact digM_range 10 (by omega) _ 0 r (by omega) (by omega) h
theorem lnum_isSome (l : Bs) : decide (((lnumM l).getD (-1)) ≥ 0) = (lnumM l).isSome := by
  cases h : lnumM l with
  | none => rfl
  | some r => have := lnumM_range l r h; simp; omega
theorem digB_not_hex (l : Bs) (h : isHex l = true) : l.all digB = false := by
  unfold isHex at h
  split at h
  · rename_i c r
    have : digB c = false := by
      rcases (by simpa using h : c = 120 ∨ c = 88) with rfl | rfl <;> decide
    simp [this]
  · cases h
/-- What spec.l2Ends does with the last label, behind the loop. -/
theorem l2Ends_go (s : ByteArray) (hs : s.size < 4294967281) : ∀ (l : Bs) (b : Bool) (i : Nat), (B s).drop i = l → i ≤ s.size →
    Ev (fun k => spec_l2Ends.l0 k s b (i : Int)) ((b && l.all digB) || (isHex (B s) && (lnumM (B s)).isSome))
  | [], b, i, hl, hi => by
    obtain rfl := at_nil hi hl
    have hf : ∀ k, spec_l2Ends.l0 (k + 1) s b ((s.size : Nat) : Int) = (if b = true then (some true) else (if (s.size : Int) ≥ 2 then (if 0 < (s.size : Int) then (if (bt s 0) = 48 then (if 1 < (s.size : Int) then (if (bt s 1) = 120 then ((spec_l2Part.f k s).bind fun t135 => (some (decide (t135 ≥ 0)))) else (if (bt s 1) = 88 then ((spec_l2Part.f k s).bind fun t136 => (some (decide (t136 ≥ 0)))) else (some false))) else (none)) else (some false)) else (none)) else (some false))) := by
      intro k
      simp only [spec_l2Ends.l0]
      rw [if_neg (by omega)]
    refine Ev.step hf ?_
    cases b with
    | true => exact Ev.eq (Ev.now _) (fun k => by rw [if_pos rfl]; simp)
    | false =>
      have hp : Ev (fun k => (spec_l2Part.f k s).bind fun t135 => (some (decide (t135 ≥ 0)))) ((lnumM (B s)).isSome) := by
        rw [← lnum_isSome]; exact Ev.bind (l2Part_ev s hs) (Ev.now _)
      simp only [Bool.false_eq_true, if_false, Bool.false_and, Bool.false_or]
      match hB : B s with
      | [] =>
        have : s.size = 0 := by rw [← B_len, hB]; rfl
        exact Ev.eq (Ev.now _) (fun k => by rw [if_neg (by omega)]; rfl)
      | [c] =>
        have : s.size = 1 := by rw [← B_len, hB]; rfl
        have hx : isHex [c] = false := by unfold isHex; split <;> simp_all
        rw [hx]
        exact Ev.eq (Ev.now _) (fun k => by rw [if_neg (by omega)]; rfl)
      | c :: d :: r =>
        obtain ⟨hb0, hb1, h2⟩ := hexbytes s c d r hB
        have hx : isHex (c :: d :: r) = (c == 48 && (d == 120 || d == 88)) := by
          rw [isHex_prefix]
          simp only [List.isPrefixOf, Bool.and_true]
          rw [Bool.and_or_distrib_left, Bool.beq_comm (a := (48 : UInt8)), Bool.beq_comm (a := (120 : UInt8)), Bool.beq_comm (a := (88 : UInt8))]
        rw [hB] at hp
        rw [hx]
        have hg : ∀ k, (if (s.size : Int) ≥ 2 then (if 0 < (s.size : Int) then (if (bt s 0) = 48 then (if 1 < (s.size : Int) then (if (bt s 1) = 120 then ((spec_l2Part.f k s).bind fun t135 => (some (decide (t135 ≥ 0)))) else (if (bt s 1) = 88 then ((spec_l2Part.f k s).bind fun t136 => (some (decide (t136 ≥ 0)))) else (some false))) else (none)) else (some false)) else (none)) else (some false)) = (if (c == 48 && (d == 120 || d == 88)) = true then ((spec_l2Part.f k s).bind fun t135 => (some (decide (t135 ≥ 0)))) else some false) := by
          intro k
          rw [if_pos (by omega), if_pos (by omega), hb0, hb1]
          by_cases q : c = 48
          · rw [if_pos (show (c.toNat : Int) = 48 from (byte_is c 48).1 q), if_pos (by omega)]
            by_cases q2 : d = 120
            · rw [if_pos (show (d.toNat : Int) = 120 from (byte_is d 120).1 q2), if_pos (by simp [q, q2])]
            · rw [if_neg (show ¬ (d.toNat : Int) = 120 from fun z => q2 ((byte_is d 120).2 z))]
              by_cases q3 : d = 88
              · rw [if_pos (show (d.toNat : Int) = 88 from (byte_is d 88).1 q3), if_pos (by simp [q, q3])]
              · rw [if_neg (show ¬ (d.toNat : Int) = 88 from fun z => q3 ((byte_is d 88).2 z)), if_neg (by simp [q2, q3])]
          · rw [if_neg (show ¬ (c.toNat : Int) = 48 from fun z => q ((byte_is c 48).2 z)), if_neg (by simp [q])]
        refine Ev.congr hg ?_
        cases (c == 48 && (d == 120 || d == 88)) with
        | true => exact Ev.eq hp (fun k => if_pos rfl)
        | false => exact Ev.eq (Ev.now _) (fun k => if_neg (by simp))
  | c :: l, b, i, hl, hi => by
    obtain ⟨g1, g2, g3, g4⟩ := at_cons hl
    have hw := w_succ i (by omega)
    have ih := l2Ends_go s hs l (b && digB c) (i + 1) g3 (by omega)
    rw [List.all_cons, ← Bool.and_assoc]
    refine Ev.up ih (fun k => ?_)
    simp only [spec_l2Ends.l0]
    rw [if_pos (by omega), hw, g2]
    cases b with
    | false => rw [if_neg (by simp)]; rfl
    | true =>
      rw [if_pos rfl, if_pos (by omega), Bool.true_and, digB_int]
      by_cases q : (c.toNat : Int) ≥ 48
      · rw [if_pos q, decide_eq_true (by omega : 48 ≤ (c.toNat : Int)), Bool.true_and]
      · rw [if_neg q, decide_eq_false (by omega : ¬ 48 ≤ (c.toNat : Int)), Bool.false_and]
theorem ends_eq (p : Bs) : (p.all digB || (isHex p && (lnumM p).isSome)) = (if isHex p = true then (lnumM p).isSome else p.all digB) := by
  cases h : isHex p with
  | true => rw [digB_not_hex p h]; simp
  | false => simp
theorem label_small (s : ByteArray) (hs : s.size < 4294967281) (p : Bs) (hp : p ∈ labelsM (B s)) : (mkB p).size < 4294967281 := by
  have := cutM_sub 46 (B s) p (labels_mem _ _ hp)
  rw [mkB_size]
  rw [B_len] at this
  omega
theorem l2Ends_ev (s : ByteArray) (hs : s.size < 4294967281) : Ev (fun k => spec_l2Ends.f k s) (endsM (B s)) := by
  unfold spec_l2Ends.f
  refine Ev.bind (l2Parts_ev s hs) ?_
  obtain ⟨p, hp, hp2⟩ := labels_last (B s)
  have hl := labels_len (B s)
  rw [B_len] at hl
  have h1 : 1 ≤ (labelsM (B s)).length := by
    have := labels_ne (B s)
    cases h : labelsM (B s) with
    | nil => exact absurd h this
    | cons a b => simp
  have hlm : ((labelsM (B s)).map mkB).length = (labelsM (B s)).length := List.length_map ..
  have hsm := label_small s hs p (List.mem_of_getLast? hp)
  rw [hlm, w_pred _ h1 (by omega), rdOf_get _ _ _ _ (last_get hp), mkB_toList]
  refine Ev.congr (fun k => (if_pos (by omega)).trans (if_pos (by omega))) ?_
  unfold endsM
  simp only [← hp2]
  by_cases e : p = []
  · rw [if_pos e]; exact Ev.eq (Ev.now _) (fun k => if_pos e)
  · rw [if_neg e, ← ends_eq]
    refine Ev.congr (fun k => if_neg e) ?_
    have h := l2Ends_go (mkB p) hsm p true 0 (by rw [B_mkB]; rfl) (Nat.zero_le _)
    rw [B_mkB, Bool.true_and] at h
    exact h
theorem endsLoop_go (s : ByteArray) (hs : s.size < 4294967281) : ∀ (l : Bs) (i : Nat), (B s).drop i = l → i ≤ s.size → Ev (fun k => impl_endsInNumber.l0 k s (s.size : Int) (i : Int)) (l.all digB)
  | [], i, hl, hi => by
    obtain rfl := at_nil hi hl
    exact Ev.step (f := fun _ => some true) (fun k => by simp only [impl_endsInNumber.l0]; rw [if_neg (by omega)]) (Ev.now _)
  | c :: l, i, hl, hi => by
    obtain ⟨g1, g2, g3, g4⟩ := at_cons hl
    have ih := endsLoop_go s hs l (i + 1) g3 (by omega)
    refine Ev.step (f := fun k => if digB c = true then impl_endsInNumber.l0 k s (s.size : Int) ((i + 1 : Nat) : Int) else some false) (fun k => ?_) ?_
    · simp only [impl_endsInNumber.l0]
      rw [if_pos (by omega), if_pos (by omega), if_pos (by omega), g2, isDigit_eq, Option.bind_some, w_succ i (by omega)]
    · rw [List.all_cons]
      cases digB c with
      | true => exact Ev.eq ih (fun k => if_pos rfl)
      | false => exact Ev.eq (Ev.now _) (fun k => if_neg (by simp))
theorem endsInNumber_ev (s : ByteArray) (hs : s.size < 4294967281) : Ev (fun k => impl_endsInNumber.f k s) (endsM (B s)) := by
  unfold impl_endsInNumber.f
  refine Ev.bindc (labels_impl s hs) ?_
  obtain ⟨p, hp, hp2⟩ := labels_last (B s)
  have hl := labels_len (B s)
  rw [B_len] at hl
  have h1 : 1 ≤ (labelsM (B s)).length := by
    have := labels_ne (B s)
    cases h : labelsM (B s) with
    | nil => exact absurd h this
    | cons a b => simp
  have hlm : ((labelsM (B s)).map mkB).length = (labelsM (B s)).length := List.length_map ..
  have hsm := label_small s hs p (List.mem_of_getLast? hp)
  rw [hlm, w_pred _ h1 (by omega), rdOf_get _ _ _ _ (last_get hp), mkB_toList]
  refine Ev.congr (fun k => (if_pos (by omega)).trans (if_pos (by omega))) ?_
  unfold endsM
  simp only [← hp2]
  by_cases e : p = []
  · rw [if_pos e]; exact Ev.eq (Ev.now _) (fun k => if_pos e)
  · rw [if_neg e, hasPrefix_eq, hasPrefix_eq, B_mkB]
    refine Ev.congr (fun k => if_neg e) ?_
    have hj : Ev (fun k => impl_endsInNumber.j0 k (mkB p) (isHex p)) (if isHex p = true then (lnumM p).isSome else p.all digB) := by
      cases hx : isHex p with
      | true =>
        have h := labelNumber_ev (mkB p) hsm
        refine Ev.step (f := fun k => (impl_labelNumber.f k (mkB p)).bind fun bt184 => (some bt184.2)) (fun k => by simp only [impl_endsInNumber.j0]; rfl) ?_
        refine Ev.bind h (Ev.cst ?_)
        rw [B_mkB]
        unfold lnumR
        cases lnumM p <;> rfl
      | false =>
        have h := endsLoop_go (mkB p) hsm p 0 (by rw [B_mkB]; rfl) (Nat.zero_le _)
        exact Ev.up h (fun k => by simp only [impl_endsInNumber.j0]; rw [if_neg (by simp)]; rfl)
    rw [isHex_prefix] at hj ⊢
    simp only [Option.bind_some]
    refine Ev.eq hj (fun k => ?_)
    show (if ([48, 120] : Bs).isPrefixOf p = true then _ else _) = _
    cases ([48, 120] : Bs).isPrefixOf p <;> rfl
theorem plainName_ev (s : ByteArray) (hs : s.size < 4294967281) : Ev (fun k => impl_plainName.f k s) (plainM (B s)) := by
  unfold impl_plainName.f plainM
  refine Ev.bind (isHostName_ev s hs) ?_
  cases isNameM (B s) with
  | true => exact Ev.eq (Ev.bind (endsInNumber_ev s hs) (Ev.now _)) (fun k => if_pos rfl)
  | false => exact Ev.eq (Ev.now _) (fun k => if_neg (by simp))
theorem l7Name_ev (s : ByteArray) (hs : s.size < 4294967281) : Ev (fun k => spec_l7Name.f k s) (plainM (B s)) := by
  unfold spec_l7Name.f
  refine Ev.bind (a := plainM (B s)) ?_ (Ev.now _)
  unfold spec_HostOk.f plainM
  simp only [show ¬ ((1 : Int) = 0) by omega, if_false, if_true]
  refine Ev.bind (l2Name_ev s hs) ?_
  cases isNameM (B s) with
  | true =>
    refine Ev.eq (Ev.bind (a := endsM (B s)) (f := fun k t139 => (if t139 = true then (some false) else (some ((0 : Int) == 0)))) (l2Ends_ev s hs) ?_) (fun k => if_pos rfl)
    cases endsM (B s) with
    | true => exact Ev.now _
    | false => exact Ev.now _
  | false => exact Ev.eq (Ev.now _) (fun k => if_neg (by simp))
/-! ### laws.szStringS, toStringS, eqStringS -/
theorem szS_go (l : List ByteArray) (hl : l.length ≤ 9223372036854775807) : ∀ (r : List ByteArray) (i : Nat) (left : Int), l.drop i = r → i ≤ l.length → 0 ≤ left → left ≤ 1048576 → (∀ s ∈ r, GStr s) →
    ∃ z, Ev (fun k => laws_szStringS.l0 k l left (i : Int)) z ∧ -1 ≤ z ∧ z ≤ left ∧ (0 ≤ z → ∀ s ∈ r, (s.size : Int) ≤ left)
  | [], i, left, hr, hi, h0, h1, hs => by
    have := get_nil hi hr
    exact ⟨left, Ev.step (f := fun _ => some left) (fun k => by simp only [laws_szStringS.l0]; rw [if_neg (by omega)]) (Ev.now _), by omega, by omega, fun _ s h => by cases h⟩
  | s :: r, i, left, hr, hi, h0, h1, hs => by
    obtain ⟨g1, g2, g3⟩ := get_cons hr
    have hsz : s.size ≤ 9223372036854775807 := hs s (by simp)
    have hw : wrap64 (left - (s.size : Int)) = left - (s.size : Int) := w64 (by omega) (by omega)
    by_cases q : left - (s.size : Int) < 0
    · refine ⟨-1, Ev.step (f := fun _ => some (-1)) (fun k => ?_) (Ev.now _), by omega, by omega, fun h => by omega⟩
      simp only [laws_szStringS.l0]
      rw [if_pos (by omega), if_pos (by omega), rdOf_get _ _ _ _ g2, hw, if_pos q]
    · obtain ⟨z, hz, z1, z2, z3⟩ := szS_go l hl r (i + 1) (left - (s.size : Int)) g3 (by omega) (by omega) (by omega) (fun x hx => hs x (by simp [hx]))
      refine ⟨z, Ev.up hz (fun k => ?_), z1, by omega, fun h x hx => ?_⟩
      · simp only [laws_szStringS.l0]
        rw [if_pos (by omega), if_pos (by omega), rdOf_get _ _ _ _ g2, hw, if_neg q, w_succ i (by omega)]
      · rcases List.mem_cons.1 hx with rfl | hx
        · omega
        · have := z3 h x hx; omega
theorem szS_ev (l : List ByteArray) (hl : GList GStr l) (left : Int) (h0 : 0 ≤ left) (h1 : left ≤ 1048576) :
    ∃ z, Ev (fun k => laws_szStringS.f k l left) z ∧ -1 ≤ z ∧ z ≤ left ∧ (0 ≤ z → (l.length : Int) ≤ left ∧ ∀ s ∈ l, (s.size : Int) ≤ left) := by
  have hlen := hl.1
  have hw : wrap64 (left - (l.length : Int)) = left - (l.length : Int) := w64 (by omega) (by omega)
  unfold laws_szStringS.f
  rw [hw]
  by_cases q : left - (l.length : Int) < 0
  · exact ⟨-1, Ev.eq (Ev.now _) (fun k => if_pos q), by omega, by omega, fun h => by omega⟩
  · obtain ⟨z, hz, z1, z2, z3⟩ := szS_go l hl.1 l 0 (left - (l.length : Int)) rfl (by omega) (by omega) (by omega) hl.2
    exact ⟨z, Ev.eq hz (fun k => if_neg q), z1, by omega, fun h => ⟨by omega, fun s hs => by have := z3 h s hs; omega⟩⟩
theorem toS_go (l : List ByteArray) (hl : l.length ≤ 1048576) : ∀ (r : List ByteArray) (i : Nat), l.drop i = r → i ≤ l.length →
    Ev (fun k => laws_toStringS.l0 k l (l.take i ++ List.replicate (l.length - i) (⟨#[]⟩ : ByteArray)) (i : Int)) l
  | [], i, hr, hi => by
    have := get_nil hi hr
    subst this
    refine Ev.step (f := fun _ => some l) (fun k => ?_) (Ev.now _)
    simp only [laws_toStringS.l0]
    rw [if_neg (by omega)]
    simp
  | s :: r, i, hr, hi => by
    obtain ⟨g1, g2, g3⟩ := get_cons hr
    refine Ev.up (toS_go l hl r (i + 1) g3 (by omega)) (fun k => ?_)
    simp only [laws_toStringS.l0]
    rw [if_pos (by omega), if_pos (by omega), if_pos (by simp; omega), rdOf_get _ _ _ _ g2, w_succ i (by omega)]
    congr 1
    have e : ((i : Int)).toNat = i := by omega
    rw [e, List.set_append, if_neg (by simp; omega)]
    have e2 : i - (l.take i).length = 0 := by simp; omega
    rw [e2]
    have e3 : l.length - i = (l.length - (i + 1)) + 1 := by omega
    rw [e3, List.replicate_succ, List.set_cons_zero, List.take_add_one, g2]
    simp
theorem toS_ev (l : List ByteArray) (hl : l.length ≤ 1048576) : Ev (fun k => laws_toStringS.f k l) l := by
  unfold laws_toStringS.f
  refine Ev.eq (toS_go l hl l 0 rfl (Nat.zero_le _)) (fun k => ?_)
  rw [if_pos (by omega), if_pos (by omega)]
  simp
theorem eqS_go (a b : List ByteArray) (h : a.length = b.length) (hl : a.length ≤ 9223372036854775800) : ∀ (r r' : List ByteArray) (i : Nat), a.drop i = r → b.drop i = r' → i ≤ a.length →
    Ev (fun k => laws_eqStringS.l0 k a b (i : Int)) (decide (r = r'))
  | [], r', i, hr, hr', hi => by
    have := get_nil hi hr
    have : r' = [] := by rw [← hr']; exact List.drop_eq_nil_of_le (by omega)
    subst this
    exact Ev.step (f := fun _ => some true) (fun k => by simp only [laws_eqStringS.l0]; rw [if_neg (by omega)]) (Ev.now _)
  | s :: r, [], i, hr, hr', hi => by
    obtain ⟨g1, _, _⟩ := get_cons hr
    have := get_nil (by omega) hr'
    omega
  | s :: r, s' :: r', i, hr, hr', hi => by
    obtain ⟨g1, g2, g3⟩ := get_cons hr
    obtain ⟨g1', g2', g3'⟩ := get_cons hr'
    by_cases q : s = s'
    · subst q
      have ih := eqS_go a b h hl r r' (i + 1) g3 g3' (by omega)
      rw [show decide (s :: r = s :: r') = decide (r = r') from decide_eq_decide.2 (by simp)]
      refine Ev.up ih (fun k => ?_)
      simp only [laws_eqStringS.l0]
      rw [if_pos (by omega), if_pos (by omega), if_pos (by omega), rdOf_get _ _ _ _ g2, rdOf_get _ _ _ _ g2', if_pos rfl, w_succ i (by omega)]
    · rw [show decide (s :: r = s' :: r') = false from decide_eq_false (by simp [q])]
      refine Ev.step (f := fun _ => some false) (fun k => ?_) (Ev.now _)
      simp only [laws_eqStringS.l0]
      rw [if_pos (by omega), if_pos (by omega), if_pos (by omega), rdOf_get _ _ _ _ g2, rdOf_get _ _ _ _ g2', if_neg (fun z => q (B_inj (by rw [← tl_B, ← tl_B, z])))]
theorem eqS_ev (a b : List ByteArray) (hl : a.length ≤ 9223372036854775800) : Ev (fun k => laws_eqStringS.f k a b) (decide (a = b)) := by
  unfold laws_eqStringS.f
  by_cases q : a.length = b.length
  · exact Ev.eq (eqS_go a b q hl a b 0 rfl rfl (Nat.zero_le _)) (fun k => if_pos (by omega))
  · rw [decide_eq_false (fun e => q (by rw [e]))]
    exact Ev.eq (Ev.now _) (fun k => if_neg (by omega))
/-! ### SureOk -/
def sureM (l : List ByteArray) : Bool := ((List.range l.length).all fun i => plainM (B (l.getD i ByteArray.empty)) && (i == 0 || Op.bytesLess (B (l.getD (i - 1) ByteArray.empty)) (B (l.getD i ByteArray.empty)))) && decide (l.length ≤ 6)
/-- What is left of it from place i on. -/
def sureFrom (l : List ByteArray) (i n : Nat) : Bool := ((List.range' i n).all fun i => plainM (B (l.getD i ByteArray.empty)) && (i == 0 || Op.bytesLess (B (l.getD (i - 1) ByteArray.empty)) (B (l.getD i ByteArray.empty)))) && decide (l.length ≤ 6)
theorem sureFrom_all (l : List ByteArray) : sureFrom l 0 l.length = sureM l := by unfold sureFrom sureM; rw [List.range_eq_range']
theorem sureFrom_succ (l : List ByteArray) (i n : Nat) : sureFrom l i (n + 1) = ((plainM (B (l.getD i ByteArray.empty)) && (i == 0 || Op.bytesLess (B (l.getD (i - 1) ByteArray.empty)) (B (l.getD i ByteArray.empty)))) && sureFrom l (i + 1) n) := by
  unfold sureFrom; rw [List.range'_succ, List.all_cons, Bool.and_assoc]
theorem getD_mem (l : List ByteArray) (i : Nat) (h : i < l.length) : l.getD i ByteArray.empty ∈ l := by
  rw [List.getD, List.getElem?_eq_getElem h]; exact List.getElem_mem h
theorem rd_D (l : List ByteArray) (i : Nat) : rdOf ByteArray.empty l (i : Int) = l.getD i ByteArray.empty := by simp [rdOf]
theorem specSureOk_go (l : List ByteArray) (hl : l.length ≤ 1048576) (hs : ∀ s ∈ l, s.size < 4294967281) : ∀ (n i : Nat), l.length = i + n → Ev (fun k => spec_SureOk.l0 k (i : Int) l) (sureFrom l i n)
  | 0, i, hn => by
    refine Ev.step (f := fun _ => some (decide ((l.length : Int) ≤ 6))) (fun k => by simp only [spec_SureOk.l0]; rw [if_neg (by omega)]) (Ev.cst ?_)
    unfold sureFrom
    simp; omega
  | n + 1, i, hn => by
    have ih := specSureOk_go l hl hs n (i + 1) (by omega)
    have hsi : (l.getD i ByteArray.empty).size < 4294967281 := hs _ (getD_mem l i (by omega))
    rw [sureFrom_succ]
    refine Ev.step (fun k => by simp only [spec_SureOk.l0]; rw [if_pos (by omega), if_pos (by omega), w_succ i (by omega), rd_D, tl_B, tl_B]) ?_
    refine Ev.bind (l7Name_ev _ hsi) ?_
    cases plainM (B (l.getD i ByteArray.empty)) with
    | false => exact Ev.eq (Ev.now _) (fun k => if_neg (by simp))
    | true =>
      rw [Bool.true_and]
      by_cases h0 : i = 0
      · subst h0
        refine Ev.eq ih (fun k => ?_)
        rw [if_pos rfl, if_neg (by omega)]
      · have hi : (i == 0) = false := by simpa using h0
        rw [hi, Bool.false_or]
        refine Ev.congr (f := fun k => if (Op.bytesLess (B (l.getD (i - 1) ByteArray.empty)) (B (l.getD i ByteArray.empty))) = true then spec_SureOk.l0 k ((i + 1 : Nat) : Int) l else some false) (fun k => ?_) ?_
        · rw [if_pos rfl, if_pos (by omega), w_pred i (by omega) (by omega), if_pos (by omega), if_pos (by omega), rd_D]
        · cases Op.bytesLess (B (l.getD (i - 1) ByteArray.empty)) (B (l.getD i ByteArray.empty)) with
          | true => exact Ev.eq ih (fun k => if_pos rfl)
          | false => exact Ev.eq (Ev.now _) (fun k => if_neg (by simp))
theorem specSureOk_ev (l : List ByteArray) (hl : l.length ≤ 1048576) (hs : ∀ s ∈ l, s.size < 4294967281) : Ev (fun k => spec_SureOk.f k l) (sureM l) := by
  rw [← sureFrom_all]; exact specSureOk_go l hl hs l.length 0 (by omega)
theorem implSureOk_go (l : List ByteArray) (hl : l.length ≤ 1048576) (hs : ∀ s ∈ l, s.size < 4294967281) : ∀ (n i : Nat), l.length = i + n → Ev (fun k => impl_SureOk.l0 k l (l.length : Int) (i : Int) l) (sureFrom l i n)
  | 0, i, hn => by
    refine Ev.step (f := fun _ => some (decide ((l.length : Int) ≤ 6))) (fun k => by simp only [impl_SureOk.l0]; rw [if_neg (by omega)]) (Ev.cst ?_)
    unfold sureFrom
    simp; omega
  | n + 1, i, hn => by
    have ih := implSureOk_go l hl hs n (i + 1) (by omega)
    have hsi : (l.getD i ByteArray.empty).size < 4294967281 := hs _ (getD_mem l i (by omega))
    rw [sureFrom_succ]
    refine Ev.step (fun k => by simp only [impl_SureOk.l0]; rw [if_pos (by omega), if_pos (by omega), if_pos (by omega), w_succ i (by omega), rd_D, tl_B, tl_B]) ?_
    refine Ev.bind (plainName_ev _ hsi) ?_
    cases plainM (B (l.getD i ByteArray.empty)) with
    | false => exact Ev.eq (Ev.now _) (fun k => if_neg (by simp))
    | true =>
      rw [Bool.true_and]
      by_cases h0 : i = 0
      · subst h0
        refine Ev.eq ih (fun k => ?_)
        rw [if_pos rfl, if_neg (by omega)]
      · have hi : (i == 0) = false := by simpa using h0
        rw [hi, Bool.false_or]
        refine Ev.congr (f := fun k => if (Op.bytesLess (B (l.getD (i - 1) ByteArray.empty)) (B (l.getD i ByteArray.empty))) = true then impl_SureOk.l0 k l (l.length : Int) ((i + 1 : Nat) : Int) l else some false) (fun k => ?_) ?_
        · rw [if_pos rfl, if_pos (by omega), w_pred i (by omega) (by omega), if_pos (by omega), if_pos (by omega), rd_D]
        · cases Op.bytesLess (B (l.getD (i - 1) ByteArray.empty)) (B (l.getD i ByteArray.empty)) with
          | true => exact Ev.eq ih (fun k => if_pos rfl)
          | false => exact Ev.eq (Ev.now _) (fun k => if_neg (by simp))
theorem implSureOk_ev (l : List ByteArray) (hl : l.length ≤ 1048576) (hs : ∀ s ∈ l, s.size < 4294967281) : Ev (fun k => impl_SureOk.f k l) (sureM l) := by
  rw [← sureFrom_all]; exact implSureOk_go l hl hs l.length 0 (by omega)
theorem szSure_ev (l : List ByteArray) (hl : GList GStr l) (left : Int) (h0 : 0 ≤ left) (h1 : left ≤ 1048576) :
    ∃ z, Ev (fun k => laws_szSure.f k l left) z ∧ -1 ≤ z ∧ z ≤ left ∧ (0 ≤ z → (l.length : Int) ≤ left ∧ ∀ s ∈ l, (s.size : Int) ≤ left) := by
  obtain ⟨z, hz, z1, z2, z3⟩ := szS_ev l hl left h0 h1
  refine ⟨z, ?_, z1, z2, z3⟩
  unfold laws_szSure.f
  refine Ev.bind hz ?_
  by_cases q : z < 0
  · rw [if_pos q]; exact Ev.cst (by congr 1; omega)
  · rw [if_neg q]; exact Ev.now _
theorem toSure_ev (l : List ByteArray) (hl : l.length ≤ 1048576) : Ev (fun k => laws_toSure.f k l) l := by
  unfold laws_toSure.f
  exact Ev.bind (toS_ev l hl) (Ev.now _)
theorem eqSure_ev (a b : List ByteArray) (hl : a.length ≤ 1048576) : Ev (fun k => laws_eqSure.f k a b) (decide (a = b)) := by
  unfold laws_eqSure.f
  refine Ev.bind (eqS_ev a b (by omega)) ?_
  by_cases q : a = b
  · rw [decide_eq_true q]; exact Ev.now _
  · rw [decide_eq_false q]; exact Ev.now _
theorem FnExactSureOk : ∀ (b0_0 : List ByteArray) (_ : (GList GStr) b0_0), ∃ k, laws_FnExactSureOk.f k b0_0 = some true := by
  intro l hl
  refine Ev.rounds ?_
  unfold laws_FnExactSureOk.f
  obtain ⟨z, hz, z1, z2, z3⟩ := szSure_ev l hl 1048576 (by omega) (by omega)
  refine Ev.bind hz ?_
  by_cases q : z < 0
  · exact Ev.eq (Ev.now _) (fun k => if_pos q)
  · obtain ⟨h1, h2⟩ := z3 (by omega)
    have hs : ∀ s ∈ l, s.size < 4294967281 := fun s hs => by have := h2 s hs; omega
    have ht := toSure_ev l (by omega)
    refine Ev.congr (fun k => if_neg q) ?_
    refine Ev.bind ht (Ev.bind (specSureOk_ev l (by omega) hs) (Ev.bind ht (Ev.bind (implSureOk_ev l (by omega) hs) ?_)))
    refine Ev.congr (fun k => if_neg (by simp)) ?_
    refine Ev.bind ht (Ev.bind (eqSure_ev l l (by omega)) ?_)
    rw [decide_eq_true rfl]
    exact Ev.now _
end Go.Proofs.YtakobibclhdakaaDoor.Pure
