/- Plain theory of domain names: lists of labels and their texts; no program in sight. -/
import Derived.Lib.Strings
namespace Go.Proofs.YtfcgconojomfpaaDoor.DN
open Go
set_option linter.unusedVariables false
set_option linter.unusedSimpArgs false

def isLow (c : UInt8) : Bool := (decide (97 ≤ c) && decide (c ≤ 122)) || (decide (48 ≤ c) && decide (c ≤ 57)) || c == 45 || c == 95
def ordL (s : List UInt8) : Bool := !s.isEmpty && decide (s.length ≤ 63) && s.all isLow
def labL (s : List UInt8) : Bool := ordL s || s == [42]
def labs : List (List UInt8) → Bool
  | [] => true
  | x :: xs => labL x && xs.all ordL
def txt (l : List (List UInt8)) : List UInt8 := l.flatMap (· ++ [46])
def nm (l : List (List UInt8)) : List UInt8 := if l = [] then [46] else txt l
/-- the pieces that end in a period; the last piece without one, if any, too -/
def cuts : List UInt8 → List (List UInt8)
  | [] => []
  | c :: r => if c = 46 then [] :: cuts r else
    match cuts r with
    | [] => [[c]]
    | x :: xs => (c :: x) :: xs
def good (l : List (List UInt8)) : Prop := labs l = true ∧ (txt l).length ≤ 254
def validL (s : List UInt8) : Bool := s == [46] || (decide (s.length ≤ 254) && s.getLast? == some 46 && labs (cuts s))
def labelsL (s : List UInt8) : List (List UInt8) := if s = [46] then [] else if validL s then cuts s else []

theorem txt_cons (x : List UInt8) (l : List (List UInt8)) : txt (x :: l) = x ++ 46 :: txt l := by simp [txt]
theorem txt_nil : txt [] = [] := rfl
theorem txt_append (a b : List (List UInt8)) : txt (a ++ b) = txt a ++ txt b := by simp [txt]

theorem isLow_ne {c : UInt8} (h : isLow c = true) : c ≠ 46 := by rintro rfl; revert h; decide
theorem ordL_no {s : List UInt8} (h : ordL s = true) : ∀ c ∈ s, c ≠ 46 := by
  intro c hc
  simp [ordL] at h
  exact isLow_ne (h.2 c hc)
theorem labL_no {s : List UInt8} (h : labL s = true) : ∀ c ∈ s, c ≠ 46 := by
  intro c hc
  simp only [labL, Bool.or_eq_true] at h
  rcases h with h | h
  · exact ordL_no h c hc
  · have := beq_iff_eq.1 h
    subst this
    simp at hc; subst hc; decide
theorem labL_ne_nil {s : List UInt8} (h : labL s = true) : s ≠ [] := by
  rintro rfl; simp [labL, ordL] at h
theorem labs_all {l : List (List UInt8)} (h : labs l = true) : ∀ x ∈ l, labL x = true := by
  cases l with
  | nil => intro x hx; cases hx
  | cons a l =>
    simp [labs] at h
    intro x hx
    rcases List.mem_cons.1 hx with rfl | hx
    · exact h.1
    · simp [labL, h.2 x hx]

theorem cuts_piece (x : List UInt8) (hx : ∀ c ∈ x, c ≠ 46) (r : List UInt8) : cuts (x ++ 46 :: r) = x :: cuts r := by
  induction x with
  | nil => simp [cuts]
  | cons c x ih =>
    have hc : c ≠ 46 := hx c (by simp)
    have := ih (fun d hd => hx d (by simp [hd]))
    simp only [List.cons_append, cuts, if_neg hc, this]
theorem cuts_txt (l : List (List UInt8)) (h : ∀ x ∈ l, ∀ c ∈ x, c ≠ 46) : cuts (txt l) = l := by
  induction l with
  | nil => rfl
  | cons x l ih => rw [txt_cons, cuts_piece x (h x (by simp)), ih (fun y hy => h y (by simp [hy]))]
theorem txt_cuts (s : List UInt8) (h : s = [] ∨ s.getLast? = some 46) : txt (cuts s) = s := by
  induction s with
  | nil => rfl
  | cons c r ih =>
    have hr : r = [] ∨ r.getLast? = some 46 := by
      cases r with
      | nil => exact .inl rfl
      | cons d r => right; rcases h with h | h; cases h; simpa [List.getLast?_cons_cons] using h
    have hi := ih hr
    unfold cuts
    by_cases hc : c = 46
    · rw [if_pos hc, txt_cons, hi, hc]; rfl
    · rw [if_neg hc]
      cases hcu : cuts r with
      | nil =>
        rw [hcu] at hi
        have hr0 : r = [] := hi.symm
        subst hr0
        rcases h with h | h
        · cases h
        · simp at h; exact absurd h hc
      | cons x xs =>
        rw [hcu] at hi
        rw [txt_cons] at hi ⊢
        simp [hi]
theorem cuts_ne_nil {s : List UInt8} (h : s ≠ []) : cuts s ≠ [] := by
  cases s with
  | nil => exact absurd rfl h
  | cons c r =>
    unfold cuts
    split
    · simp
    · split <;> simp

theorem txt_length_pos {l : List (List UInt8)} (h : l ≠ []) : 1 ≤ (txt l).length := by
  cases l with
  | nil => exact absurd rfl h
  | cons x l => rw [txt_cons]; simp; omega
theorem txt_last {l : List (List UInt8)} (h : l ≠ []) : (txt l).getLast? = some 46 := by
  induction l with
  | nil => exact absurd rfl h
  | cons x l ih =>
    rw [txt_cons]
    cases l with
    | nil => simp [txt]
    | cons y l =>
      have := ih (by simp)
      have hne : txt (y :: l) ≠ [] := by
        intro e
        have := txt_length_pos (l := y :: l) (by simp)
        rw [e] at this; simp at this
      cases ht : txt (y :: l) with
      | nil => exact absurd ht hne
      | cons d t => rw [List.getLast?_append, List.getLast?_cons_cons, ← ht, this]; rfl
theorem txt_ne_dot {l : List (List UInt8)} (h : labs l = true) : txt l ≠ [46] := by
  cases l with
  | nil => simp [txt]
  | cons x l =>
    have hx := labL_ne_nil (labs_all h x (by simp))
    rw [txt_cons]
    intro e
    cases x with
    | nil => exact hx rfl
    | cons c x => simp at e

/-- A name is the text of good labels, and of no others. -/
theorem valid_nm {l : List (List UInt8)} (h : good l) : validL (nm l) = true := by
  unfold nm
  by_cases hl : l = []
  · simp [hl, validL]
  · rw [if_neg hl]
    have hc := cuts_txt l (fun x hx => labL_no (labs_all h.1 x hx))
    simp [validL, hc, h.1, h.2, txt_last hl]
theorem labels_nm {l : List (List UInt8)} (h : good l) : labelsL (nm l) = l := by
  unfold labelsL
  by_cases hl : l = []
  · simp [hl, nm]
  · have hn : nm l = txt l := by simp [nm, hl]
    have hv := valid_nm h
    rw [hn] at hv ⊢
    rw [if_neg (txt_ne_dot h.1), if_pos hv, cuts_txt l (fun x hx => labL_no (labs_all h.1 x hx))]
theorem valid_good {s : List UInt8} (h : validL s = true) : good (labelsL s) ∧ nm (labelsL s) = s := by
  unfold labelsL
  by_cases hs : s = [46]
  · rw [if_pos hs]; exact ⟨⟨rfl, by simp [txt]⟩, by simp [nm, hs]⟩
  · rw [if_neg hs, if_pos h]
    have h' := h
    simp [validL, hs] at h'
    have ht := txt_cuts s (.inr h'.1.2)
    refine ⟨⟨h'.2, by rw [ht]; exact h'.1.1⟩, ?_⟩
    have hne : s ≠ [] := by rintro rfl; simp at h'
    rw [nm, if_neg (cuts_ne_nil hne), ht]
theorem invalid_labels {s : List UInt8} (h : validL s = false) : labelsL s = [] := by
  unfold labelsL
  split
  · rfl
  · simp [h]
theorem valid_iff (s : List UInt8) : validL s = true ↔ ∃ l, good l ∧ s = nm l :=
  ⟨fun h => ⟨labelsL s, (valid_good h).1, (valid_good h).2.symm⟩, fun ⟨_, h, e⟩ => e ▸ valid_nm h⟩
theorem nm_inj {a b : List (List UInt8)} (ha : good a) (hb : good b) (h : nm a = nm b) : a = b := by
  rw [← labels_nm ha, ← labels_nm hb, h]


theorem cuts_append (p r : List UInt8) : cuts (p ++ 46 :: r) = cuts (p ++ [46]) ++ cuts r := by
  induction p with
  | nil => simp [cuts]
  | cons c p ih =>
    simp only [List.cons_append, cuts]
    split
    · rw [ih]; rfl
    · rw [ih]
      cases h : cuts (p ++ [46]) with
      | nil => exact absurd h (cuts_ne_nil (by simp))
      | cons x xs => rfl
theorem good_no {l : List (List UInt8)} (h : good l) : ∀ x ∈ l, ∀ c ∈ x, c ≠ 46 := fun x hx => labL_no (labs_all h.1 x hx)
theorem cuts_good {l : List (List UInt8)} (h : good l) : cuts (txt l) = l := cuts_txt l (good_no h)

/-- what 'ends' asks -/
def endsL (n t : List UInt8) : Bool := t == [46] || n == t || List.isSuffixOf (46 :: t) n
theorem ends_nm {a b : List (List UInt8)} (ha : good a) (hb : good b) : endsL (nm a) (nm b) = List.isSuffixOf b a := by
  rw [Bool.eq_iff_iff, List.isSuffixOf_iff_suffix]
  simp only [endsL, Bool.or_eq_true, beq_iff_eq, List.isSuffixOf_iff_suffix]
  constructor
  · rintro ((h | h) | h)
    · have : b = [] := by
        have := nm_inj hb (a := b) (b := []) ⟨rfl, by simp [txt]⟩ (by rw [h]; rfl)
        exact this
      subst this; exact List.nil_suffix
    · rw [nm_inj ha hb h]; exact List.suffix_refl _
    · by_cases hbn : b = []
      · subst hbn; exact List.nil_suffix
      · have eb : nm b = txt b := by simp [nm, hbn]
        rw [eb] at h
        by_cases han : a = []
        · subst han
          have := h.length_le
          have h1 := txt_length_pos hbn
          simp only [nm, if_true, List.length_cons, List.length_nil] at this; omega
        · have ea : nm a = txt a := by simp [nm, han]
          rw [ea] at h
          obtain ⟨p, hp⟩ := h
          have := cuts_append p (txt b)
          rw [hp, cuts_good ha, cuts_good hb] at this
          exact ⟨_, this.symm⟩
  · rintro ⟨p, rfl⟩
    by_cases hp : p = []
    · subst hp; left; right; rfl
    · by_cases hb0 : b = []
      · left; left; simp [nm, hb0]
      · right
        have hpn : p ++ b ≠ [] := by simp [hp]
        have e1 : nm (p ++ b) = txt p ++ txt b := by rw [nm, if_neg hpn, txt_append]
        have e2 : nm b = txt b := by rw [nm, if_neg hb0]
        rw [e1, e2]
        obtain ⟨m, hm⟩ := List.getLast?_eq_some_iff.1 (txt_last hp)
        exact ⟨m, by rw [hm]; simp⟩

/-- n is at or below t -/
def underL (n t : List UInt8) : Bool := validL n && validL t && List.isSuffixOf (labelsL t) (labelsL n)

theorem labs_tail {x : List UInt8} {l : List (List UInt8)} (h : labs (x :: l) = true) : labs l = true := by
  simp only [labs, Bool.and_eq_true] at h
  cases l with
  | nil => rfl
  | cons y l =>
    have h2 := h.2
    simp only [List.all_cons, Bool.and_eq_true] at h2
    simp [labs, labL, h2.1]; simpa using h2.2
theorem good_tail {x : List UInt8} {l : List (List UInt8)} (h : good (x :: l)) : good l :=
  ⟨labs_tail h.1, by have := h.2; rw [txt_cons] at this; simp at this; omega⟩
theorem good_drop {l : List (List UInt8)} (h : good l) (k : Nat) : good (l.drop k) := by
  induction k generalizing l with
  | zero => exact h
  | succ k ih =>
    cases l with
    | nil => exact h
    | cons x l => exact ih (good_tail h)
theorem txt_ge : ∀ {l : List (List UInt8)}, labs l = true → 2 * l.length ≤ (txt l).length
  | [], _ => by simp
  | x :: l, h => by
    have h1 := labL_ne_nil (labs_all h x (by simp))
    have h2 := txt_ge (labs_tail h)
    have h3 : 1 ≤ x.length := by cases x with | nil => exact absurd rfl h1 | cons => simp
    rw [txt_cons]; simp; omega
theorem good_len {l : List (List UInt8)} (h : good l) : l.length ≤ 127 := by have := txt_ge h.1; have := h.2; omega
theorem labels_len (s : List UInt8) : (labelsL s).length ≤ 127 := by
  cases h : validL s with
  | true => exact good_len (valid_good h).1
  | false => rw [invalid_labels h]; simp

theorem lab_len' {s : List UInt8} (h : labL s = true) : s.length ≤ 63 := by
  simp only [labL, ordL, Bool.or_eq_true, Bool.and_eq_true, decide_eq_true_iff, beq_iff_eq] at h
  rcases h with h | rfl
  · exact h.1.2
  · simp

/-! ### how many labels are the same, from the last one on -/
def cpl {α : Type} [DecidableEq α] : List α → List α → Nat
  | x :: l, y :: m => if x = y then cpl l m + 1 else 0
  | _, _ => 0
theorem cpl_nil {α : Type} [DecidableEq α] (l : List α) : cpl l [] = 0 := by cases l <;> rfl
theorem cpl_le {α : Type} [DecidableEq α] : ∀ (l m : List α), cpl l m ≤ l.length ∧ cpl l m ≤ m.length
  | [], m => by simp [cpl]
  | x :: l, [] => by simp [cpl]
  | x :: l, y :: m => by
    have := cpl_le l m
    unfold cpl; split <;> simp <;> omega
theorem cpl_take {α : Type} [DecidableEq α] : ∀ (l m : List α), l.take (cpl l m) = m.take (cpl l m)
  | [], m => by simp [cpl]
  | x :: l, [] => by simp [cpl]
  | x :: l, y :: m => by
    unfold cpl; split
    · rename_i h; subst h; simp [cpl_take l m]
    · simp
theorem cpl_pre {α : Type} [DecidableEq α] (l m : List α) : cpl l m = m.length ↔ m <+: l := by
  constructor
  · intro h
    have := cpl_take l m
    rw [h, List.take_length] at this
    exact ⟨l.drop m.length, (congrArg (· ++ l.drop m.length) this).symm.trans (List.take_append_drop _ _)⟩
  · rintro ⟨r, rfl⟩
    induction m with
    | nil => simp [cpl_nil]
    | cons y m ih => simp [cpl, ih]
theorem cpl_ne {α : Type} [DecidableEq α] : ∀ (l m : List α) (h1 : cpl l m < l.length) (h2 : cpl l m < m.length), l[cpl l m] ≠ m[cpl l m]
  | [], m, h1, _ => by simp at h1
  | x :: l, [], _, h2 => by simp at h2
  | x :: l, y :: m, h1, h2 => by
    by_cases h : x = y
    · have e : cpl (x :: l) (y :: m) = cpl l m + 1 := by simp [cpl, h]
      have := cpl_ne l m (by simp [e] at h1; omega) (by simp [e] at h2; omega)
      simp only [e, List.getElem_cons_succ]; exact this
    · have e : cpl (x :: l) (y :: m) = 0 := by simp [cpl, h]
      simp only [e, List.getElem_cons_zero]; exact h
theorem cpl_get {α : Type} [DecidableEq α] : ∀ (l m : List α) (k : Nat) (h : k < cpl l m) (h1 : k < l.length) (h2 : k < m.length), l[k] = m[k]
  | [], m, k, h, _, _ => by simp [cpl] at h
  | x :: l, [], k, h, _, _ => by simp [cpl] at h
  | x :: l, y :: m, k, h, h1, h2 => by
    by_cases e : x = y
    · cases k with
      | zero => exact e
      | succ k =>
        have e' : cpl (x :: l) (y :: m) = cpl l m + 1 := by simp [cpl, e]
        exact cpl_get l m k (by omega) (by simpa using h1) (by simpa using h2)
    · simp [cpl, e] at h
def sameN {α : Type} [DecidableEq α] (a b : List α) : Nat := cpl a.reverse b.reverse
theorem sameN_le {α : Type} [DecidableEq α] (a b : List α) : sameN a b ≤ a.length ∧ sameN a b ≤ b.length := by simpa [sameN] using cpl_le a.reverse b.reverse
theorem sameN_suffix {α : Type} [DecidableEq α] (a b : List α) : sameN a b = b.length ↔ b <:+ a := by
  have := cpl_pre a.reverse b.reverse
  rw [List.length_reverse, List.reverse_prefix] at this
  exact this
theorem sameN_drop {α : Type} [DecidableEq α] (a b : List α) : a.drop (a.length - sameN a b) = b.drop (b.length - sameN a b) := by
  have h := cpl_take a.reverse b.reverse
  rw [List.take_reverse, List.take_reverse] at h
  have := congrArg List.reverse h
  simpa [sameN] using this
end Go.Proofs.YtfcgconojomfpaaDoor.DN
