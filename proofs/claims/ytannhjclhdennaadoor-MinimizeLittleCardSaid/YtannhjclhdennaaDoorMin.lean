/- What the printed functions of package minimize answer: a specification; and what it says of the questions. -/
import Derived.Test.YtannhjclhdennaaDoorDn
import Derived.Test.YtannhjclhdennaaDoorJoin
import Derived.Test.YtannhjclhdennaaDoorPax13
import Derived.Test.YtannhjclhdennaaDoorPax14
import Derived.Test.YtannhjclhdennaaDoorPax6
import Derived.Test.YtannhjclhdennaaDoorPax7
namespace Go.Proofs.YtannhjclhdennaaDoor.Pa
open Go.RowKit Go.Proofs.YtannhjclhdennaaDoorW.PrintWords Go.Proofs.YtannhjclhdennaaDoorW.PrintLast Go.Proofs.YtannhjclhdennaaDoor.DN
set_option linter.unusedVariables false
set_option linter.unusedSimpArgs false

def belowB (n z : ByteArray) : Bool := !(L n == L z) && underL (L n) (L z)
theorem below_f (n z : ByteArray) (hn : n.size ≤ 140737488351232) (hz : z.size ≤ 140737488351232) (k : Nat) (hk : 1000 ≤ k) : minimize_below.f k n z = some (belowB n z) := by
  unfold minimize_below.f belowB
  rw [toList_L, toList_L]
  by_cases h : L n = L z
  · rw [if_pos h]; simp [h]
  · rw [if_neg h, under_f n z hn hz k hk]
    have : (L n == L z) = false := by simpa using h
    simp [this]

def nextS (qn : ByteArray) (qt : Int) (z : ByteArray) (m : Int) : ByteArray × Int × Bool :=
  if belowB qn z = true ∧ 0 ≤ m ∧ m < 10 ∧ ((labelsL (L z)).length : Int) + 1 + m < (labelsL (L qn)).length then (B (nm ((labelsL (L qn)).drop ((labelsL (L qn)).length - ((labelsL (L z)).length + 1 + m.toNat)))), 2, false) else (qn, qt, true)

theorem below_valid {n z : ByteArray} (h : belowB n z = true) : validL (L n) = true ∧ validL (L z) = true ∧ labelsL (L z) <:+ labelsL (L n) ∧ L n ≠ L z := by
  simp only [belowB, underL, Bool.and_eq_true, List.isSuffixOf_iff_suffix] at h
  exact ⟨h.2.1.1, h.2.1.2, h.2.2, by simpa using h.1⟩

theorem join_good (l : List (List UInt8)) (h : good l) : dname_Join.f (l.map B) = some (B (nm l), 0) := by
  unfold dname_Join.f
  have hl := good_len h
  have hsz : (l.map B).all (fun x => decide (x.size ≤ 140737488351232)) = true := by
    rw [List.all_eq_true]
    intro x hx
    obtain ⟨y, hy, rfl⟩ := List.mem_map.1 hx
    have := lab_len' (labs_all h.1 y hy)
    rw [B_size]; exact decide_eq_true (by omega)
  rw [if_pos hsz, joinL, map_LB]
  by_cases h0 : l = []
  · subst h0; rfl
  · have h0' : l.map B ≠ [] := by simpa using h0
    have hall : (l.map B).all (fun x => labL (L x)) = true := by
      rw [List.all_eq_true]
      intro x hx
      obtain ⟨y, hy, rfl⟩ := List.mem_map.1 hx
      exact labs_all h.1 y hy
    have hn : nm l = txt l := by simp [nm, h0]
    have hv := valid_nm h
    rw [hn] at hv
    rw [if_neg h0', if_neg (by simp; omega), if_pos hall, hv, hn]; rfl

theorem next_f (qn : ByteArray) (qt : Int) (z : ByteArray) (m : Int) (hn : qn.size ≤ 140737488351232) (hz : z.size ≤ 140737488351232) (k : Nat) (hk : 1001 ≤ k) :
    minimize_Next.f k qn qt z m = some (nextS qn qt z m) := by
  obtain ⟨k, rfl⟩ : ∃ j, k = j + 1 := ⟨k - 1, by omega⟩
  unfold minimize_Next.f nextS
  rw [below_f qn z hn hz _ (by omega)]
  simp only [Option.bind_some]
  cases hb : belowB qn z with
  | false => simp [minimize_Next.j0]
  | true =>
    rw [if_pos rfl]
    by_cases h1 : m < 0
    · rw [if_pos h1, if_neg (by omega)]
      simp only [minimize_Next.j0, if_true]
    rw [if_neg h1]
    by_cases h2 : m ≥ 10
    · rw [decide_eq_true h2, if_neg (by omega)]
      simp only [minimize_Next.j0, if_true]
    rw [decide_eq_false h2]
    simp only [minimize_Next.j0, Bool.false_eq_true, if_false]
    rw [labels_f qn hn k (by omega), labels_f z hz k (by omega), Option.bind_some, Option.bind_some, List.length_map, List.length_map]
    have l1 := labels_len (L qn); have l2 := labels_len (L z)
    have hw : wrap64 (wrap64 (((labelsL (L z)).length : Int) + 1) + m) = ((labelsL (L z)).length : Int) + 1 + m := by
      rw [wrap_id (x := ((labelsL (L z)).length : Int) + 1) (by omega) (by omega), wrap_id (by omega) (by omega)]
    rw [hw]
    by_cases h3 : ((labelsL (L qn)).length : Int) ≤ ((labelsL (L z)).length : Int) + 1 + m
    · rw [if_pos h3, if_neg (by omega)]
    have hw2 : wrap64 (((labelsL (L qn)).length : Int) - (((labelsL (L z)).length : Int) + 1 + m)) = (((labelsL (L qn)).length - ((labelsL (L z)).length + 1 + m.toNat) : Nat) : Int) := by
      rw [wrap_id (by omega) (by omega)]; omega
    rw [if_neg h3, hw2, if_pos (by omega), if_pos (by omega), if_pos (by refine ⟨?_, ?_, ?_, ?_⟩ <;> first | trivial | omega), Int.toNat_natCast, ← List.map_drop, join_good _ (good_drop (valid_good (below_valid hb).1).1 _), Option.bind_some]

theorem nm_size {l : List (List UInt8)} (h : good l) : (B (nm l)).size ≤ 254 := by
  rw [B_size, nm]
  split
  · simp
  · exact h.2

/-! ### all questions, and what the first one tells -/
def stepsS (qn : ByteArray) (qt : Int) (z : ByteArray) : Nat → Int → List S23
  | 0, _ => []
  | d + 1, m => ⟨(nextS qn qt z m).1, (nextS qn qt z m).2.1⟩ :: (if (nextS qn qt z m).2.2 = true then [] else stepsS qn qt z d (m + 1))
theorem next_ten (qn : ByteArray) (qt : Int) (z : ByteArray) : (nextS qn qt z 10).2.2 = true := by unfold nextS; rw [if_neg (by omega)]

theorem steps_l0 (qn : ByteArray) (qt : Int) (z : ByteArray) (hn : qn.size ≤ 140737488351232) (hz : z.size ≤ 140737488351232) : ∀ d m k : Nat, ∀ acc : List S23, m + d = 10 → acc.length ≤ m → d + 1300 < k →
    minimize_Steps.l0 k z acc m qn qt = some (acc ++ stepsS qn qt z (d + 1) m) := by
  intro d
  induction d with
  | zero =>
    intro m k acc hd hacc hk
    obtain ⟨k, rfl⟩ : ∃ j, k = j + 1 := ⟨k - 1, by omega⟩
    obtain rfl : m = 10 := by omega
    simp only [minimize_Steps.l0]
    rw [next_f qn qt z _ hn hz k (by omega)]
    have h10 := next_ten qn qt z
    simp only [Option.bind_some, Int.cast_ofNat_Int]
    rw [if_pos (by omega), if_pos h10]
    simp [stepsS]
  | succ d ih =>
    intro m k acc hd hacc hk
    obtain ⟨k, rfl⟩ : ∃ j, k = j + 1 := ⟨k - 1, by omega⟩
    have hw : wrap64 ((m : Int) + 1) = ((m + 1 : Nat) : Int) := by rw [wrap_id (by omega) (by omega)]; omega
    simp only [minimize_Steps.l0]
    rw [next_f qn qt z _ hn hz k (by omega)]
    simp only [Option.bind_some]
    rw [if_pos (by omega), hw, stepsS]
    split
    · rfl
    · rw [ih (m + 1) k _ (by omega) (by simp; omega) (by omega)]; simp
theorem steps_f (qn : ByteArray) (qt : Int) (z : ByteArray) (hn : qn.size ≤ 140737488351232) (hz : z.size ≤ 140737488351232) (k : Nat) (hk : 1400 ≤ k) : minimize_Steps.f k qn qt z = some (stepsS qn qt z 11 0) :=
  steps_l0 qn qt z hn hz 10 0 k [] rfl (Nat.le_refl _) (by omega)

def revealS (qn : ByteArray) (qt : Int) (z : ByteArray) : Int :=
  if belowB qn z = true then ((labelsL (L (nextS qn qt z 0).1)).length : Int) - (labelsL (L z)).length else 0
theorem next_size (qn : ByteArray) (qt : Int) (z : ByteArray) (m : Int) (hn : qn.size ≤ 140737488351232) : (nextS qn qt z m).1.size ≤ 140737488351232 := by
  unfold nextS
  split
  · rename_i h
    have := nm_size (good_drop (valid_good (below_valid h.1).1).1 ((labelsL (L qn)).length - ((labelsL (L z)).length + 1 + m.toNat)))
    simp only; omega
  · exact hn
theorem reveal_f (qn : ByteArray) (qt : Int) (z : ByteArray) (hn : qn.size ≤ 140737488351232) (hz : z.size ≤ 140737488351232) (k : Nat) (hk : 1400 ≤ k) : minimize_Reveals.f k qn qt z = some (revealS qn qt z) := by
  unfold minimize_Reveals.f revealS
  rw [below_f qn z hn hz k (by omega), next_f qn qt z 0 hn hz k (by omega)]
  simp only [Option.bind_some]
  split
  · rw [labels_f _ (next_size qn qt z 0 hn) k (by omega), labels_f z hz k (by omega)]
    have l1 := labels_len (L (nextS qn qt z 0).1); have l2 := labels_len (L z)
    simp only [Option.bind_some, List.length_map]
    rw [wrap_id (by omega) (by omega)]
  · rfl
theorem awake_f (k : Nat) (hk : 1400 ≤ k) : ddilaw31_awake.f k = some true := by
  unfold ddilaw31_awake.f
  have s1 : (⟨#[97, 46, 98, 46, 101, 120, 97, 109, 112, 108, 101, 46]⟩ : ByteArray).size ≤ 140737488351232 := by decide
  have s2 : (⟨#[46]⟩ : ByteArray).size ≤ 140737488351232 := by decide
  have s3 : (⟨#[101, 120, 97, 109, 112, 108, 101, 46]⟩ : ByteArray).size ≤ 140737488351232 := by decide
  have s4 : (⟨#[120, 46]⟩ : ByteArray).size ≤ 140737488351232 := by decide
  rw [next_f _ _ _ _ s1 s2 k (by omega), next_f _ _ _ _ s1 s2 k (by omega), steps_f _ _ _ s1 s2 k hk]
  simp only [Option.bind_some]
  rw [reveal_f _ _ _ s1 s3 k hk, reveal_f _ _ _ s1 s4 k hk]
  decide +kernel
theorem suffix_drop {α : Type} {a b : List α} {n : Nat} (h : b <:+ a) (h1 : b.length ≤ n) (h2 : n ≤ a.length) : b <:+ a.drop (a.length - n) :=
  List.suffix_of_suffix_length_le h (List.drop_suffix _ _) (by simp; omega)
theorem below_lens {q z : ByteArray} (h : belowB q z = true) : (labelsL (L z)).length < (labelsL (L q)).length := by
  obtain ⟨v1, v2, hs, hne⟩ := below_valid h
  rcases Nat.lt_or_eq_of_le hs.length_le with hlt | heq
  · exact hlt
  · have := hs.eq_of_length heq
    exact absurd (by rw [← (valid_good v1).2, ← (valid_good v2).2, this]) hne
theorem below_of_labels {n z : ByteArray} {l : List (List UInt8)} (hl : good l) (hn : n = B (nm l)) (hz : validL (L z) = true) (hs : labelsL (L z) <:+ l) (hlt : (labelsL (L z)).length < l.length) : belowB n z = true := by
  subst hn
  have hne : L (B (nm l)) ≠ L z := by
    intro e
    have := labels_nm hl
    rw [L_B] at e
    rw [e] at this; rw [this] at hlt; omega
  simp only [belowB, underL, L_B, valid_nm hl, labels_nm hl, hz, Bool.true_and, Bool.and_eq_true, Bool.not_eq_true', beq_eq_false_iff_ne]
  exact ⟨by rw [L_B] at hne; exact hne, List.isSuffixOf_iff_suffix.2 hs⟩

theorem next_cases (q : ByteArray) (qt : Int) (z : ByteArray) (m : Int) :
    nextS q qt z m = (q, qt, true) ∧ ¬ (belowB q z = true ∧ 0 ≤ m ∧ m < 10 ∧ ((labelsL (L z)).length : Int) + 1 + m < (labelsL (L q)).length) ∨
    ∃ l, good l ∧ nextS q qt z m = (B (nm l), 2, false) ∧ belowB q z = true ∧ 0 ≤ m ∧ m < 10 ∧ (l.length : Int) = (labelsL (L z)).length + 1 + m ∧ l <:+ labelsL (L q) ∧ labelsL (L z) <:+ l ∧ l.length < (labelsL (L q)).length := by
  by_cases h : belowB q z = true ∧ 0 ≤ m ∧ m < 10 ∧ ((labelsL (L z)).length : Int) + 1 + m < (labelsL (L q)).length
  · right
    obtain ⟨v1, v2, hs, hne⟩ := below_valid h.1
    refine ⟨(labelsL (L q)).drop ((labelsL (L q)).length - ((labelsL (L z)).length + 1 + m.toNat)), good_drop (valid_good v1).1 _, by unfold nextS; rw [if_pos h], h.1, h.2.1, h.2.2.1, by simp; omega, List.drop_suffix _ _, suffix_drop hs (by omega) (by omega), by simp; omega⟩
  · left; exact ⟨by unfold nextS; rw [if_neg h], h⟩

theorem reveal_one (q : ByteArray) (qt : Int) (z : ByteArray) : revealS q qt z = if belowB q z = true then 1 else 0 := by
  unfold revealS
  by_cases h : belowB q z = true
  · rw [if_pos h, if_pos h]
    have hlt := below_lens h
    rcases next_cases q qt z 0 with ⟨e, hn⟩ | ⟨l, hg, e, _, _, _, hl, _⟩
    · rw [e]
      have : ¬ ((labelsL (L z)).length : Int) + 1 + 0 < (labelsL (L q)).length := fun hh => hn ⟨h, by omega, by omega, hh⟩
      simp only; omega
    · rw [e]; simp only [L_B, labels_nm hg]; omega
  · rw [if_neg h, if_neg h]

theorem steps_len (q : ByteArray) (qt : Int) (z : ByteArray) : ∀ d m, 1 ≤ (stepsS q qt z (d + 1) m).length ∧ (stepsS q qt z (d + 1) m).length ≤ d + 1
  | 0, m => by simp [stepsS]
  | d + 1, m => by
    have := steps_len q qt z d (m + 1)
    rw [stepsS]; split <;> simp <;> omega

theorem steps_get (q : ByteArray) (qt : Int) (z : ByteArray) : ∀ (d : Nat) (m : Int) (i : Nat), i + 1 < (stepsS q qt z d m).length → (stepsS q qt z d m)[i]? = some ⟨(nextS q qt z (m + i)).1, (nextS q qt z (m + i)).2.1⟩ ∧ (nextS q qt z (m + i)).2.2 = false
  | 0, m, i, h => by simp [stepsS] at h
  | d + 1, m, i, h => by
    rw [stepsS] at h ⊢
    cases hw : (nextS q qt z m).2.2 with
    | true => rw [hw, if_pos rfl] at h; simp at h
    | false =>
      rw [hw] at h
      simp only [Bool.false_eq_true, if_false] at h ⊢
      cases i with
      | zero => exact ⟨by simp, by simpa using hw⟩
      | succ i =>
        have := steps_get q qt z d (m + 1) i (by simpa using h)
        rw [List.getElem?_cons_succ, show m + ((i + 1 : Nat) : Int) = m + 1 + i by omega]
        exact this
theorem next_whole {q : ByteArray} {qt : Int} {z : ByteArray} {m : Int} (h : (nextS q qt z m).2.2 = true) : nextS q qt z m = (q, qt, true) := by
  rcases next_cases q qt z m with ⟨e, _⟩ | ⟨l, _, e, _⟩
  · exact e
  · rw [e] at h; cases h
theorem steps_last (q : ByteArray) (qt : Int) (z : ByteArray) : ∀ (d : Nat) (m : Int), m + d = 10 → (stepsS q qt z (d + 1) m).getLast? = some ⟨q, qt⟩
  | 0, m, h => by
    obtain rfl : m = 10 := by omega
    rw [stepsS, if_pos (next_ten q qt z), next_whole (next_ten q qt z)]; rfl
  | d + 1, m, h => by
    have ih := steps_last q qt z d (m + 1) (by omega)
    have hl := (steps_len q qt z d (m + 1)).1
    rw [stepsS]
    cases hw : (nextS q qt z m).2.2 with
    | true => rw [next_whole hw]; rfl
    | false =>
      simp only [Bool.false_eq_true, if_false]
      cases hs : stepsS q qt z (d + 1) (m + 1) with
      | nil => rw [hs] at hl; simp at hl
      | cons x xs => rw [List.getLast?_cons_cons, ← hs]; exact ih


end Go.Proofs.YtannhjclhdennaaDoor.Pa
