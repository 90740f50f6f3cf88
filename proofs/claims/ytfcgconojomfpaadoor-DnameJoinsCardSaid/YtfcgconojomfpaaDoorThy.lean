/- Plain theory of domain names: lists of labels and their texts; no program in sight. Strings as lists of bytes; answers that come with enough rounds: small lemmas that all texts of this seat use. Plain theory of the canonical order of names, of what two names have in common, and of the first label; no program in sight. -/
import Derived.Lib.Strings
import Derived.Test.YtfcgconojomfpaaDoorWWords
import Derived.Lib.Bytealg
import GoSem.Op.String
namespace Go.Proofs.YtfcgconojomfpaaDoor.DN
open Go
set_option linter.unusedVariables false
set_option linter.unusedSimpArgs false

def isLow (c : UInt8) : Bool := (decide (97 ≤ c) && decide (c ≤ 122)) || (decide (48 ≤ c) && decide (c ≤ 57)) || c == 45 || c == 95
def ordL (s : List UInt8) : Bool := !s.isEmpty && decide (s.length ≤ 63) && s.all isLow
def labL (s : List UInt8) : Bool := ordL s || s == [42]
def labs : List (List UInt8) → Bool
  | [] => true
  | x :: xs => labL x && xs.all ordL
def txt (l : List (List UInt8)) : List UInt8 := l.flatMap (· ++ [46])
def nm (l : List (List UInt8)) : List UInt8 := if l = [] then [46] else txt l
/-- the pieces that end in a period; the last piece without one, if any, too -/
def cuts : List UInt8 → List (List UInt8)
  | [] => []
  | c :: r => if c = 46 then [] :: cuts r else
    match cuts r with
    | [] => [[c]]
    | x :: xs => (c :: x) :: xs
def good (l : List (List UInt8)) : Prop := labs l = true ∧ (txt l).length ≤ 254
def validL (s : List UInt8) : Bool := s == [46] || (decide (s.length ≤ 254) && s.getLast? == some 46 && labs (cuts s))
def labelsL (s : List UInt8) : List (List UInt8) := if s = [46] then [] else if validL s then cuts s else []

theorem txt_cons (x : List UInt8) (l : List (List UInt8)) : txt (x :: l) = x ++ 46 :: txt l := by simp [txt]
theorem txt_nil : txt [] = [] := rfl
theorem txt_append (a b : List (List UInt8)) : txt (a ++ b) = txt a ++ txt b := by simp [txt]

theorem isLow_ne {c : UInt8} (h : isLow c = true) : c ≠ 46 := by rintro rfl; revert h; decide
theorem ordL_no {s : List UInt8} (h : ordL s = true) : ∀ c ∈ s, c ≠ 46 := by
  intro c hc
  simp [ordL] at h
  exact isLow_ne (h.2 c hc)
theorem labL_no {s : List UInt8} (h : labL s = true) : ∀ c ∈ s, c ≠ 46 := by
  intro c hc
  simp only [labL, Bool.or_eq_true] at h
  rcases h with h | h
  · exact ordL_no h c hc
  · have := beq_iff_eq.1 h
    subst this
    simp at hc; subst hc; decide
theorem labL_ne_nil {s : List UInt8} (h : labL s = true) : s ≠ [] := by
  rintro rfl; simp [labL, ordL] at h
theorem labs_all {l : List (List UInt8)} (h : labs l = true) : ∀ x ∈ l, labL x = true := by
  cases l with
  | nil => intro x hx; cases hx
  | cons a l =>
    simp [labs] at h
    intro x hx
    rcases List.mem_cons.1 hx with rfl | hx
    · exact h.1
    · simp [labL, h.2 x hx]

theorem cuts_piece (x : List UInt8) (hx : ∀ c ∈ x, c ≠ 46) (r : List UInt8) : cuts (x ++ 46 :: r) = x :: cuts r := by
  induction x with
  | nil => simp [cuts]
  | cons c x ih =>
    have hc : c ≠ 46 := hx c (by simp)
    have := ih (fun d hd => hx d (by simp [hd]))
    simp only [List.cons_append, cuts, if_neg hc, this]
theorem cuts_txt (l : List (List UInt8)) (h : ∀ x ∈ l, ∀ c ∈ x, c ≠ 46) : cuts (txt l) = l := by
  induction l with
  | nil => rfl
  | cons x l ih => rw [txt_cons, cuts_piece x (h x (by simp)), ih (fun y hy => h y (by simp [hy]))]
theorem txt_cuts (s : List UInt8) (h : s = [] ∨ s.getLast? = some 46) : txt (cuts s) = s := by
  induction s with
  | nil => rfl
  | cons c r ih =>
    have hr : r = [] ∨ r.getLast? = some 46 := by
      cases r with
      | nil => exact .inl rfl
      | cons d r => right; rcases h with h | h; cases h; simpa [List.getLast?_cons_cons] using h
    have hi := ih hr
    unfold cuts
    by_cases hc : c = 46
    · rw [if_pos hc, txt_cons, hi, hc]; rfl
    · rw [if_neg hc]
      cases hcu : cuts r with
      | nil =>
        rw [hcu] at hi
        have hr0 : r = [] := hi.symm
        subst hr0
        rcases h with h | h
        · cases h
        · simp at h; exact absurd h hc
      | cons x xs =>
        rw [hcu] at hi
        rw [txt_cons] at hi ⊢
        simp [hi]
theorem cuts_ne_nil {s : List UInt8} (h : s ≠ []) : cuts s ≠ [] := by
  cases s with
  | nil => exact absurd rfl h
  | cons c r =>
    unfold cuts
    split
    · simp
    · split <;> simp

theorem txt_length_pos {l : List (List UInt8)} (h : l ≠ []) : 1 ≤ (txt l).length := by
  cases l with
  | nil => exact absurd rfl h
  | cons x l => rw [txt_cons]; simp; omega
theorem txt_last {l : List (List UInt8)} (h : l ≠ []) : (txt l).getLast? = some 46 := by
  induction l with
  | nil => exact absurd rfl h
  | cons x l ih =>
    rw [txt_cons]
    cases l with
    | nil => simp [txt]
    | cons y l =>
      have := ih (by simp)
      have hne : txt (y :: l) ≠ [] := by
        intro e
        have := txt_length_pos (l := y :: l) (by simp)
        rw [e] at this; simp at this
      cases ht : txt (y :: l) with
      | nil => exact absurd ht hne
      | cons d t => rw [List.getLast?_append, List.getLast?_cons_cons, ← ht, this]; rfl
theorem txt_ne_dot {l : List (List UInt8)} (h : labs l = true) : txt l ≠ [46] := by
  cases l with
  | nil => simp [txt]
  | cons x l =>
    have hx := labL_ne_nil (labs_all h x (by simp))
    rw [txt_cons]
    intro e
    cases x with
    | nil => exact hx rfl
    | cons c x => simp at e

/-- A name is the text of good labels, and of no others. -/
theorem valid_nm {l : List (List UInt8)} (h : good l) : validL (nm l) = true := by
  unfold nm
  by_cases hl : l = []
  · simp [hl, validL]
  · rw [if_neg hl]
    have hc := cuts_txt l (fun x hx => labL_no (labs_all h.1 x hx))
    simp [validL, hc, h.1, h.2, txt_last hl]
theorem labels_nm {l : List (List UInt8)} (h : good l) : labelsL (nm l) = l := by
  unfold labelsL
  by_cases hl : l = []
  · simp [hl, nm]
  · have hn : nm l = txt l := by simp [nm, hl]
    have hv := valid_nm h
    rw [hn] at hv ⊢
    rw [if_neg (txt_ne_dot h.1), if_pos hv, cuts_txt l (fun x hx => labL_no (labs_all h.1 x hx))]
theorem valid_good {s : List UInt8} (h : validL s = true) : good (labelsL s) ∧ nm (labelsL s) = s := by
  unfold labelsL
  by_cases hs : s = [46]
  · rw [if_pos hs]; exact ⟨⟨rfl, by simp [txt]⟩, by simp [nm, hs]⟩
  · rw [if_neg hs, if_pos h]
    have h' := h
    simp [validL, hs] at h'
    have ht := txt_cuts s (.inr h'.1.2)
    refine ⟨⟨h'.2, by rw [ht]; exact h'.1.1⟩, ?_⟩
    have hne : s ≠ [] := by rintro rfl; simp at h'
    rw [nm, if_neg (cuts_ne_nil hne), ht]
theorem invalid_labels {s : List UInt8} (h : validL s = false) : labelsL s = [] := by
  unfold labelsL
  split
  · rfl
  · simp [h]
theorem valid_iff (s : List UInt8) : validL s = true ↔ ∃ l, good l ∧ s = nm l :=
  ⟨fun h => ⟨labelsL s, (valid_good h).1, (valid_good h).2.symm⟩, fun ⟨_, h, e⟩ => e ▸ valid_nm h⟩
theorem nm_inj {a b : List (List UInt8)} (ha : good a) (hb : good b) (h : nm a = nm b) : a = b := by
  rw [← labels_nm ha, ← labels_nm hb, h]


theorem cuts_append (p r : List UInt8) : cuts (p ++ 46 :: r) = cuts (p ++ [46]) ++ cuts r := by
  induction p with
  | nil => simp [cuts]
  | cons c p ih =>
    simp only [List.cons_append, cuts]
    split
    · rw [ih]; rfl
    · rw [ih]
      cases h : cuts (p ++ [46]) with
      | nil => exact absurd h (cuts_ne_nil (by simp))
      | cons x xs => rfl
theorem good_no {l : List (List UInt8)} (h : good l) : ∀ x ∈ l, ∀ c ∈ x, c ≠ 46 := fun x hx => labL_no (labs_all h.1 x hx)
theorem cuts_good {l : List (List UInt8)} (h : good l) : cuts (txt l) = l := cuts_txt l (good_no h)

/-- what 'ends' asks -/
def endsL (n t : List UInt8) : Bool := t == [46] || n == t || List.isSuffixOf (46 :: t) n
theorem ends_nm {a b : List (List UInt8)} (ha : good a) (hb : good b) : endsL (nm a) (nm b) = List.isSuffixOf b a := by
  rw [Bool.eq_iff_iff, List.isSuffixOf_iff_suffix]
  simp only [endsL, Bool.or_eq_true, beq_iff_eq, List.isSuffixOf_iff_suffix]
  constructor
  · rintro ((h | h) | h)
    · have : b = [] := by
        have := nm_inj hb (a := b) (b := []) ⟨rfl, by simp [txt]⟩ (by rw [h]; rfl)
        exact this
      subst this; exact List.nil_suffix
    · rw [nm_inj ha hb h]; exact List.suffix_refl _
    · by_cases hbn : b = []
      · subst hbn; exact List.nil_suffix
      · have eb : nm b = txt b := by simp [nm, hbn]
        rw [eb] at h
        by_cases han : a = []
        · subst han
          have := h.length_le
          have h1 := txt_length_pos hbn
          simp only [nm, if_true, List.length_cons, List.length_nil] at this; omega
        · have ea : nm a = txt a := by simp [nm, han]
          rw [ea] at h
          obtain ⟨p, hp⟩ := h
          have := cuts_append p (txt b)
          rw [hp, cuts_good ha, cuts_good hb] at this
          exact ⟨_, this.symm⟩
  · rintro ⟨p, rfl⟩
    by_cases hp : p = []
    · subst hp; left; right; rfl
    · by_cases hb0 : b = []
      · left; left; simp [nm, hb0]
      · right
        have hpn : p ++ b ≠ [] := by simp [hp]
        have e1 : nm (p ++ b) = txt p ++ txt b := by rw [nm, if_neg hpn, txt_append]
        have e2 : nm b = txt b := by rw [nm, if_neg hb0]
        rw [e1, e2]
        obtain ⟨m, hm⟩ := List.getLast?_eq_some_iff.1 (txt_last hp)
        exact ⟨m, by rw [hm]; simp⟩

/-- n is at or below t -/
def underL (n t : List UInt8) : Bool := validL n && validL t && List.isSuffixOf (labelsL t) (labelsL n)

theorem labs_tail {x : List UInt8} {l : List (List UInt8)} (h : labs (x :: l) = true) : labs l = true := by
  simp only [labs, Bool.and_eq_true] at h
  cases l with
  | nil => rfl
  | cons y l =>
    have h2 := h.2
    simp only [List.all_cons, Bool.and_eq_true] at h2
    simp [labs, labL, h2.1]; simpa using h2.2
theorem good_tail {x : List UInt8} {l : List (List UInt8)} (h : good (x :: l)) : good l :=
  ⟨labs_tail h.1, by have := h.2; rw [txt_cons] at this; simp at this; omega⟩
theorem good_drop {l : List (List UInt8)} (h : good l) (k : Nat) : good (l.drop k) := by
  induction k generalizing l with
  | zero => exact h
  | succ k ih =>
    cases l with
    | nil => exact h
    | cons x l => exact ih (good_tail h)
theorem txt_ge : ∀ {l : List (List UInt8)}, labs l = true → 2 * l.length ≤ (txt l).length
  | [], _ => by simp
  | x :: l, h => by
    have h1 := labL_ne_nil (labs_all h x (by simp))
    have h2 := txt_ge (labs_tail h)
    have h3 : 1 ≤ x.length := by cases x with | nil => exact absurd rfl h1 | cons => simp
    rw [txt_cons]; simp; omega
theorem good_len {l : List (List UInt8)} (h : good l) : l.length ≤ 127 := by have := txt_ge h.1; have := h.2; omega
theorem labels_len (s : List UInt8) : (labelsL s).length ≤ 127 := by
  cases h : validL s with
  | true => exact good_len (valid_good h).1
  | false => rw [invalid_labels h]; simp

theorem lab_len' {s : List UInt8} (h : labL s = true) : s.length ≤ 63 := by
  simp only [labL, ordL, Bool.or_eq_true, Bool.and_eq_true, decide_eq_true_iff, beq_iff_eq] at h
  rcases h with h | rfl
  · exact h.1.2
  · simp

/-! ### how many labels are the same, from the last one on -/
def cpl {α : Type} [DecidableEq α] : List α → List α → Nat
  | x :: l, y :: m => if x = y then cpl l m + 1 else 0
  | _, _ => 0
theorem cpl_nil {α : Type} [DecidableEq α] (l : List α) : cpl l [] = 0 := by cases l <;> rfl
theorem cpl_le {α : Type} [DecidableEq α] : ∀ (l m : List α), cpl l m ≤ l.length ∧ cpl l m ≤ m.length
  | [], m => by simp [cpl]
  | x :: l, [] => by simp [cpl]
  | x :: l, y :: m => by
    have := cpl_le l m
    unfold cpl; split <;> simp <;> omega
theorem cpl_take {α : Type} [DecidableEq α] : ∀ (l m : List α), l.take (cpl l m) = m.take (cpl l m)
  | [], m => by simp [cpl]
  | x :: l, [] => by simp [cpl]
  | x :: l, y :: m => by
    unfold cpl; split
    · rename_i h; subst h; simp [cpl_take l m]
    · simp
theorem cpl_pre {α : Type} [DecidableEq α] (l m : List α) : cpl l m = m.length ↔ m <+: l := by
  constructor
  · intro h
    have := cpl_take l m
    rw [h, List.take_length] at this
    exact ⟨l.drop m.length, (congrArg (· ++ l.drop m.length) this).symm.trans (List.take_append_drop _ _)⟩
  · rintro ⟨r, rfl⟩
    induction m with
    | nil => simp [cpl_nil]
    | cons y m ih => simp [cpl, ih]
theorem cpl_ne {α : Type} [DecidableEq α] : ∀ (l m : List α) (h1 : cpl l m < l.length) (h2 : cpl l m < m.length), l[cpl l m] ≠ m[cpl l m]
  | [], m, h1, _ => by simp at h1
  | x :: l, [], _, h2 => by simp at h2
  | x :: l, y :: m, h1, h2 => by
    by_cases h : x = y
    · have e : cpl (x :: l) (y :: m) = cpl l m + 1 := by simp [cpl, h]
      have := cpl_ne l m (by simp [e] at h1; omega) (by simp [e] at h2; omega)
      simp only [e, List.getElem_cons_succ]; exact this
    · have e : cpl (x :: l) (y :: m) = 0 := by simp [cpl, h]
      simp only [e, List.getElem_cons_zero]; exact h
theorem cpl_get {α : Type} [DecidableEq α] : ∀ (l m : List α) (k : Nat) (h : k < cpl l m) (h1 : k < l.length) (h2 : k < m.length), l[k] = m[k]
  | [], m, k, h, _, _ => by simp [cpl] at h
  | x :: l, [], k, h, _, _ => by simp [cpl] at h
  | x :: l, y :: m, k, h, h1, h2 => by
    by_cases e : x = y
    · cases k with
      | zero => exact e
      | succ k =>
        have e' : cpl (x :: l) (y :: m) = cpl l m + 1 := by simp [cpl, e]
        exact cpl_get l m k (by omega) (by simpa using h1) (by simpa using h2)
    · simp [cpl, e] at h
def sameN {α : Type} [DecidableEq α] (a b : List α) : Nat := cpl a.reverse b.reverse
theorem sameN_le {α : Type} [DecidableEq α] (a b : List α) : sameN a b ≤ a.length ∧ sameN a b ≤ b.length := by simpa [sameN] using cpl_le a.reverse b.reverse
theorem sameN_suffix {α : Type} [DecidableEq α] (a b : List α) : sameN a b = b.length ↔ b <:+ a := by
  have := cpl_pre a.reverse b.reverse
  rw [List.length_reverse, List.reverse_prefix] at this
  exact this
theorem sameN_drop {α : Type} [DecidableEq α] (a b : List α) : a.drop (a.length - sameN a b) = b.drop (b.length - sameN a b) := by
  have h := cpl_take a.reverse b.reverse
  rw [List.take_reverse, List.take_reverse] at h
  have := congrArg List.reverse h
  simpa [sameN] using this
end Go.Proofs.YtfcgconojomfpaaDoor.DN

namespace Go.Proofs.YtfcgconojomfpaaDoor.DN
open Go Go.RowKit Go.Proofs.YtfcgconojomfpaaDoorW.PrintWords
set_option linter.unusedVariables false
set_option linter.unusedSimpArgs false

abbrev L (b : ByteArray) : List UInt8 := b.data.toList
def B (l : List UInt8) : ByteArray := ⟨l.toArray⟩
@[simp] theorem L_B (l : List UInt8) : L (B l) = l := rfl
@[simp] theorem B_L (b : ByteArray) : B (L b) = b := by obtain ⟨⟨l⟩⟩ := b; rfl
theorem L_inj {a b : ByteArray} (h : L a = L b) : a = b := by rw [← B_L a, ← B_L b, h]
theorem B_inj {a b : List UInt8} (h : B a = B b) : a = b := by rw [← L_B a, ← L_B b, h]
theorem L_len (a : ByteArray) : (L a).length = a.size := (Lib.size_eq a).symm
theorem toList_L (a : ByteArray) : a.toList = L a := Lib.toList_data a
theorem L_append (a b : ByteArray) : L (a ++ b) = L a ++ L b := by simp [L, ByteArray.data_append]
theorem L_extract (s : ByteArray) (a b : Nat) : L (s.extract a b) = ((L s).drop a).take (b - a) := Lib.extract_data s a b
theorem B_size (l : List UInt8) : (B l).size = l.length := by simp [B, ByteArray.size]
theorem B_append (a b : List UInt8) : B (a ++ b) = B a ++ B b := by apply L_inj; simp [B]

/-- a byte of a string, as a number -/
theorem bt_L (s : ByteArray) (i : Nat) (h : i < (L s).length) : bt s (i : Int) = (((L s)[i]).toNat : Int) := by
  have h' : i < s.size := by rw [L_len] at h; exact h
  unfold bt
  rw [dif_pos (by simpa using h')]
  rfl

theorem wrap_id {x : Int} (h0 : -9223372036854775808 ≤ x) (h1 : x ≤ 9223372036854775807) : wrap64 x = x := by unfold wrap64; omega

theorem ev_at {α : Type} {g : Nat → Option α} {r : α} (h : Ev g r) : ∃ K, ∀ k, K ≤ k → g k = some r := h
theorem ev_all {α : Type} {g : Nat → Option α} {r : α} (K : Nat) (h : ∀ k, K < k → g k = some r) : Ev g r := ⟨K + 1, fun k hk => h k (by omega)⟩
end Go.Proofs.YtfcgconojomfpaaDoor.DN

namespace Go.Proofs.YtfcgconojomfpaaDoor.DN
open Go
set_option linter.unusedVariables false
set_option linter.unusedSimpArgs false

/-! ### bytes -/
theorem cmp_refl : ∀ l : List UInt8, Lib.compareBytes l l = 0
  | [] => rfl
  | a :: l => by
    have h : ¬ a < a := by simp
    rw [Lib.compareBytes, if_neg h, if_neg h, cmp_refl l]
theorem cmp_zero : ∀ l m : List UInt8, Lib.compareBytes l m = 0 ↔ l = m
  | [], [] => by simp [Lib.compareBytes]
  | [], _ :: _ => by simp [Lib.compareBytes]
  | _ :: _, [] => by simp [Lib.compareBytes]
  | a :: l, b :: m => by
    have ih := cmp_zero l m
    rw [Lib.compareBytes]
    by_cases h1 : a < b
    · rw [if_pos h1]; simp; rintro rfl; exact absurd h1 (by simp)
    · rw [if_neg h1]
      by_cases h2 : b < a
      · rw [if_pos h2]; simp; rintro rfl; exact absurd h2 (by simp)
      · rw [if_neg h2, ih]
        have : a = b := by
          rw [UInt8.lt_iff_toNat_lt] at h1 h2
          exact UInt8.toNat_inj.1 (by omega)
        simp [this]
theorem cmp_range : ∀ l m : List UInt8, Lib.compareBytes l m = -1 ∨ Lib.compareBytes l m = 0 ∨ Lib.compareBytes l m = 1
  | [], [] => by simp [Lib.compareBytes]
  | [], _ :: _ => by simp [Lib.compareBytes]
  | _ :: _, [] => by simp [Lib.compareBytes]
  | a :: l, b :: m => by
    have ih := cmp_range l m
    rw [Lib.compareBytes]
    split
    · simp
    · split
      · simp
      · exact ih
theorem cmp_neg : ∀ l m : List UInt8, Lib.compareBytes m l = - Lib.compareBytes l m
  | [], [] => by simp [Lib.compareBytes]
  | [], _ :: _ => by simp [Lib.compareBytes]
  | _ :: _, [] => by simp [Lib.compareBytes]
  | a :: l, b :: m => by
    have ih := cmp_neg l m
    rw [Lib.compareBytes, Lib.compareBytes]
    by_cases h1 : a < b
    · have h2 : ¬ b < a := by rw [UInt8.lt_iff_toNat_lt] at h1 ⊢; omega
      rw [if_neg h2, if_pos h1, if_pos h1]; rfl
    · by_cases h2 : b < a
      · rw [if_pos h2, if_neg h1, if_pos h2]
      · rw [if_neg h2, if_neg h1, if_neg h1, if_neg h2, ih]
theorem cmp_less : ∀ l m : List UInt8, Op.bytesLess l m = decide (Lib.compareBytes l m = -1)
  | [], [] => by simp [Op.bytesLess, Lib.compareBytes]
  | [], _ :: _ => by simp [Op.bytesLess, Lib.compareBytes]
  | _ :: _, [] => by simp [Op.bytesLess, Lib.compareBytes]
  | a :: l, b :: m => by
    have ih := cmp_less l m
    rw [Op.bytesLess, Lib.compareBytes, ih]
    by_cases h1 : a < b
    · simp [h1]
    · rw [if_neg h1]
      by_cases h2 : b < a
      · have hne : (a == b) = false := by
          rw [beq_eq_false_iff_ne]; rintro rfl; exact absurd h2 (by simp)
        simp [h1, h2, hne]
      · have : a = b := by
          rw [UInt8.lt_iff_toNat_lt] at h1 h2
          exact UInt8.toNat_inj.1 (by omega)
        subst this; simp
theorem cmp_text (l m : List UInt8) : (if Op.bytesLess l m = true then (-1 : Int) else if Op.bytesLess m l = true then 1 else 0) = Lib.compareBytes l m := by
  rw [cmp_less, cmp_less, cmp_neg l m]
  rcases cmp_range l m with h | h | h <;> simp [h]
theorem cmp_trans : ∀ l m n : List UInt8, Lib.compareBytes l m ≤ 0 → Lib.compareBytes m n ≤ 0 → Lib.compareBytes l n ≤ 0 ∧ (Lib.compareBytes l n = 0 → Lib.compareBytes l m = 0)
  | [], m, [], h1, h2 => by
    refine ⟨by simp [Lib.compareBytes], fun _ => ?_⟩
    cases m with
    | nil => rfl
    | cons b m => simp [Lib.compareBytes] at h2
  | [], m, c :: n, h1, h2 => by simp [Lib.compareBytes]
  | a :: l, [], n, h1, h2 => by simp [Lib.compareBytes] at h1
  | a :: l, b :: m, [], h1, h2 => by simp [Lib.compareBytes] at h2
  | a :: l, b :: m, c :: n, h1, h2 => by
    have ih := cmp_trans l m n
    rw [Lib.compareBytes] at h1 h2 ⊢
    rw [Lib.compareBytes]
    simp only [UInt8.lt_iff_toNat_lt] at h1 h2 ⊢
    by_cases e1 : a.toNat < b.toNat
    · by_cases e2 : b.toNat < c.toNat
      · rw [if_pos (by omega)]; exact ⟨by omega, by omega⟩
      · by_cases e3 : c.toNat < b.toNat
        · rw [if_neg e2, if_pos e3] at h2; omega
        · rw [if_pos (by omega)]; exact ⟨by omega, by omega⟩
    · rw [if_neg e1] at h1
      by_cases e4 : b.toNat < a.toNat
      · rw [if_pos e4] at h1; omega
      · rw [if_neg e4] at h1
        by_cases e2 : b.toNat < c.toNat
        · rw [if_pos (by omega)]; exact ⟨by omega, by omega⟩
        · rw [if_neg e2] at h2
          by_cases e3 : c.toNat < b.toNat
          · rw [if_pos e3] at h2; omega
          · rw [if_neg e3] at h2
            rw [if_neg (by omega), if_neg (by omega), if_neg e1, if_neg e4]
            exact ih h1 h2

/-! ### labels, the last one first -/
def cmpR : List (List UInt8) → List (List UInt8) → Int
  | [], [] => 0
  | [], _ :: _ => -1
  | _ :: _, [] => 1
  | x :: l, y :: m => if Lib.compareBytes x y = 0 then cmpR l m else Lib.compareBytes x y
theorem cmpR_zero : ∀ l m, cmpR l m = 0 ↔ l = m
  | [], [] => by simp [cmpR]
  | [], _ :: _ => by simp [cmpR]
  | _ :: _, [] => by simp [cmpR]
  | x :: l, y :: m => by
    have ih := cmpR_zero l m
    have h := cmp_zero x y
    rw [cmpR]
    by_cases e : Lib.compareBytes x y = 0
    · rw [if_pos e, ih]; simp [h.1 e]
    · rw [if_neg e]; constructor
      · intro h2; exact absurd h2 e
      · intro h2; exact absurd (h.2 (List.cons.inj h2).1) e
theorem cmpR_neg : ∀ l m, cmpR m l = - cmpR l m
  | [], [] => by simp [cmpR]
  | [], _ :: _ => by simp [cmpR]
  | _ :: _, [] => by simp [cmpR]
  | x :: l, y :: m => by
    have ih := cmpR_neg l m
    have h := cmp_neg x y
    rw [cmpR, cmpR]
    by_cases e : Lib.compareBytes x y = 0
    · rw [if_pos (by omega), if_pos e, ih]
    · rw [if_neg (by omega), if_neg e, h]
theorem cmpR_range : ∀ l m, cmpR l m = -1 ∨ cmpR l m = 0 ∨ cmpR l m = 1
  | [], [] => by simp [cmpR]
  | [], _ :: _ => by simp [cmpR]
  | _ :: _, [] => by simp [cmpR]
  | x :: l, y :: m => by
    rw [cmpR]; split
    · exact cmpR_range l m
    · exact cmp_range x y
theorem cmpR_trans : ∀ l m n, cmpR l m ≤ 0 → cmpR m n ≤ 0 → cmpR l n ≤ 0 ∧ (cmpR l n = 0 → cmpR l m = 0)
  | [], m, [], h1, h2 => by
    refine ⟨by simp [cmpR], fun _ => ?_⟩
    cases m with
    | nil => rfl
    | cons b m => simp [cmpR] at h2
  | [], m, c :: n, h1, h2 => by simp [cmpR]
  | a :: l, [], n, h1, h2 => by simp [cmpR] at h1
  | a :: l, b :: m, [], h1, h2 => by simp [cmpR] at h2
  | a :: l, b :: m, c :: n, h1, h2 => by
    have ih := cmpR_trans l m n
    have ht := cmp_trans a b c
    have z1 := cmp_zero a b; have z2 := cmp_zero b c; have z3 := cmp_zero a c
    rw [cmpR] at h1 h2 ⊢
    rw [cmpR]
    by_cases e1 : Lib.compareBytes a b = 0
    · rw [if_pos e1] at h1 ⊢
      obtain rfl := z1.1 e1
      by_cases e2 : Lib.compareBytes a c = 0
      · rw [if_pos e2] at h2 ⊢; exact ih h1 h2
      · rw [if_neg e2] at h2 ⊢; exact ⟨h2, fun h => absurd h e2⟩
    · rw [if_neg e1] at h1 ⊢
      have h2' : Lib.compareBytes b c ≤ 0 := by
        by_cases e2 : Lib.compareBytes b c = 0
        · omega
        · rw [if_neg e2] at h2; exact h2
      obtain ⟨t1, t2⟩ := ht h1 h2'
      by_cases e3 : Lib.compareBytes a c = 0
      · exact absurd (t2 e3) e1
      · rw [if_neg e3]; exact ⟨t1, fun h => absurd h e3⟩
/-- what begins with a list comes after it; what comes between begins with it, too -/
theorem cmpR_prefix : ∀ (a b : List (List UInt8)), a <+: b → cmpR a b ≤ 0
  | [], [], _ => by simp [cmpR]
  | [], _ :: _, _ => by simp [cmpR]
  | x :: a, [], h => by simp at h
  | x :: a, y :: b, h => by
    obtain ⟨rfl, h2⟩ := List.cons_prefix_cons.1 h
    rw [cmpR, if_pos (cmp_refl x)]
    exact cmpR_prefix a b h2
theorem cmpR_between : ∀ (a b c : List (List UInt8)), a <+: c → cmpR a b ≤ 0 → cmpR b c ≤ 0 → a <+: b
  | [], b, c, _, _, _ => List.nil_prefix
  | x :: a, [], c, _, h1, _ => by simp [cmpR] at h1
  | x :: a, y :: b, [], h, _, _ => by simp at h
  | x :: a, y :: b, z :: c, h, h1, h2 => by
    obtain ⟨rfl, h3⟩ := List.cons_prefix_cons.1 h
    rw [cmpR] at h1 h2
    have hn := cmp_neg x y
    by_cases e1 : Lib.compareBytes x y = 0
    · obtain rfl := (cmp_zero x y).1 e1
      rw [if_pos e1] at h1
      rw [if_pos e1] at h2
      exact List.cons_prefix_cons.2 ⟨rfl, cmpR_between a b c h3 h1 h2⟩
    · rw [if_neg e1] at h1
      rw [if_neg (by omega)] at h2
      omega
/-- the comparison, by how many labels are the same -/
theorem cmpR_skip : ∀ (l m : List (List UInt8)), cmpR l m = (if h : cpl l m < l.length ∧ cpl l m < m.length then Lib.compareBytes (l[cpl l m]'h.1) (m[cpl l m]'h.2) else if l.length < m.length then -1 else if l.length > m.length then 1 else 0)
  | [], [] => by simp [cmpR, cpl]
  | [], _ :: _ => by simp [cmpR, cpl]
  | _ :: _, [] => by simp [cmpR, cpl]
  | x :: l, y :: m => by
    have ih := cmpR_skip l m
    rw [cmpR]
    by_cases e : x = y
    · subst e
      have hc : cpl (x :: l) (x :: m) = cpl l m + 1 := by simp [cpl]
      rw [if_pos (cmp_refl x), ih]
      simp only [hc, List.length_cons, Nat.add_lt_add_iff_right, List.getElem_cons_succ, gt_iff_lt]
    · have hc : cpl (x :: l) (y :: m) = 0 := by simp [cpl, e]
      rw [if_neg (fun h => e ((cmp_zero x y).1 h))]
      simp [hc]

/-! ### what two names have in common -/
theorem cpl_ge {α : Type} [DecidableEq α] : ∀ (l m : List α) (j : Nat), l.take j = m.take j → j ≤ l.length → j ≤ m.length → j ≤ cpl l m
  | _, _, 0, _, _, _ => Nat.zero_le _
  | [], m, j + 1, _, h, _ => by simp at h
  | x :: l, [], j + 1, _, _, h => by simp at h
  | x :: l, y :: m, j + 1, h, h1, h2 => by
    simp only [List.take_succ_cons, List.cons.injEq] at h
    have := cpl_ge l m j h.2 (by simpa using h1) (by simpa using h2)
    simp [cpl, h.1]; exact this
theorem sameN_ge {α : Type} [DecidableEq α] (a b : List α) (j : Nat) (h : a.drop (a.length - j) = b.drop (b.length - j)) (h1 : j ≤ a.length) (h2 : j ≤ b.length) : j ≤ sameN a b := by
  unfold sameN
  refine cpl_ge _ _ j ?_ (by simpa using h1) (by simpa using h2)
  rw [List.take_reverse, List.take_reverse, h]
theorem sameN_comm {α : Type} [DecidableEq α] (a b : List α) : sameN a b = sameN b a := by
  have h1 := sameN_le a b; have h2 := sameN_le b a
  have := sameN_ge a b (sameN b a) (sameN_drop b a).symm h2.2 h2.1
  have := sameN_ge b a (sameN a b) (sameN_drop a b).symm h1.2 h1.1
  omega
def commonL (a b : List (List UInt8)) : List (List UInt8) := a.drop (a.length - sameN a b)
theorem commonL_comm (a b : List (List UInt8)) : commonL a b = commonL b a := by
  unfold commonL; rw [sameN_drop, sameN_comm]
theorem commonL_suffix (a b : List (List UInt8)) : commonL a b <:+ a ∧ commonL a b <:+ b := by
  refine ⟨List.drop_suffix _ _, ?_⟩
  rw [commonL_comm]; exact List.drop_suffix _ _
theorem suffix_common {a b : List (List UInt8)} (i : Nat) (hi : i ≤ a.length) : a.drop i <:+ b ↔ a.length - i ≤ sameN a b := by
  constructor
  · intro h
    have hl := h.length_le
    rw [List.length_drop] at hl
    refine sameN_ge a b (a.length - i) ?_ (by omega) hl
    rw [show a.length - (a.length - i) = i by omega]
    have := List.suffix_iff_eq_drop.1 h
    rw [List.length_drop] at this; exact this
  · intro h
    have h2 := (commonL_suffix a b).2
    refine List.IsSuffix.trans ?_ h2
    unfold commonL
    have : i = (a.length - sameN a b) + (i - (a.length - sameN a b)) := by omega
    rw [this, ← List.drop_drop]
    exact List.drop_suffix _ _

/-! ### the first label -/
theorem index_label (x r : List UInt8) (hx : ∀ c ∈ x, c ≠ 46) : Lib.indexByte (x ++ 46 :: r) 46 = x.length := by
  induction x with
  | nil => simp [Lib.indexByte]
  | cons c x ih =>
    have hc : (c == 46) = false := by simpa using hx c (by simp)
    have h := ih (fun d hd => hx d (by simp [hd]))
    rw [List.cons_append, Lib.indexByte, hc, h]
    have : (((x.length : Nat) : Int) == -1) = false := by simp
    simp [this]
theorem star_first {l : List (List UInt8)} (h : good l) (hne : l ≠ []) : (nm l).head? = some 42 ↔ l.head? = some [42] := by
  cases l with
  | nil => exact absurd rfl hne
  | cons x l =>
    have hx := labs_all h.1 x (by simp)
    have hn := labL_ne_nil hx
    have e : nm (x :: l) = x ++ 46 :: txt l := by rw [nm, if_neg (by simp), txt_cons]
    rw [e]
    cases x with
    | nil => exact absurd rfl hn
    | cons c x =>
      simp only [List.cons_append, List.head?_cons, Option.some.injEq]
      constructor
      · rintro rfl
        simp only [labL, ordL, Bool.or_eq_true, Bool.and_eq_true, beq_iff_eq] at hx
        rcases hx with hx | hx
        · have := hx.2
          simp only [List.all_cons, Bool.and_eq_true] at this
          exact absurd this.1 (by decide)
        · exact hx
      · intro h; exact (List.cons.inj h).1
theorem nm_root : nm [] = [46] := rfl
theorem good_append {p q : List (List UInt8)} (hp : good p) (hpn : p ≠ []) (hq : labs q = true) (hs : q.head? ≠ some [42]) (hlen : (txt (p ++ q)).length ≤ 254) : good (p ++ q) := by
  refine ⟨?_, hlen⟩
  cases p with
  | nil => exact absurd rfl hpn
  | cons x p =>
    have h1 := hp.1
    simp only [labs, Bool.and_eq_true] at h1
    have hqo : q.all ordL = true := by
      cases q with
      | nil => rfl
      | cons y q =>
        simp only [labs, Bool.and_eq_true, labL, Bool.or_eq_true, beq_iff_eq] at hq
        simp only [List.all_cons, Bool.and_eq_true]
        rcases hq.1 with h | h
        · exact ⟨h, hq.2⟩
        · subst h; exact absurd rfl hs
    simp [labs, h1.1, h1.2, hqo]
end Go.Proofs.YtfcgconojomfpaaDoor.DN
