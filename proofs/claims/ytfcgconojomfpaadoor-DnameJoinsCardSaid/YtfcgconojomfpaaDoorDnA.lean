/- What the printed functions of package dname answer: at or below. What the printed functions of package dname answer: the length, the parent, the order, what is common, the wildcard, the replacing, the reading; and the examples of the chapter. -/
import Derived.Test.YtfcgconojomfpaaDoorBase
import Derived.Test.YtfcgconojomfpaaDoorPax10
import Derived.Test.YtfcgconojomfpaaDoorPax9
import Derived.Test.YtfcgconojomfpaaDoorThy
import Derived.Test.YtfcgconojomfpaaDoorLower
import Derived.Test.YtfcgconojomfpaaDoorStrLib
import Derived.Test.YtfcgconojomfpaaDoorPax1
import Derived.Test.YtfcgconojomfpaaDoorPax11
import Derived.Test.YtfcgconojomfpaaDoorPax12
import Derived.Test.YtfcgconojomfpaaDoorPax13
import Derived.Test.YtfcgconojomfpaaDoorPax14
import Derived.Test.YtfcgconojomfpaaDoorPax15
import Derived.Test.YtfcgconojomfpaaDoorPax4
import Derived.Test.YtfcgconojomfpaaDoorPax9
namespace Go.Proofs.YtfcgconojomfpaaDoor.Pa
open Go.RowKit Go.Proofs.YtfcgconojomfpaaDoorW.PrintWords Go.Proofs.YtfcgconojomfpaaDoorW.PrintLast Go.Proofs.YtfcgconojomfpaaDoor.DN
set_option linter.unusedVariables false
set_option linter.unusedSimpArgs false

theorem ends_f (a t : ByteArray) (ha : a.size ≤ 140737488351232) (ht : t.size ≤ 140737488351232) : dname_ends.f a t = some (endsL (L a) (L t)) := by
  unfold dname_ends.f endsL
  rw [toList_L, toList_L]
  by_cases h1 : L t = [46]
  · rw [if_pos h1]; simp [h1]
  rw [if_neg h1]
  by_cases h2 : L a = L t
  · rw [if_pos h2]; simp [h2]
  rw [if_neg h2, if_pos (by omega), hasSuffix_eq _ _ (by omega) (by rw [ByteArray.size_append]; have : (⟨#[46]⟩ : ByteArray).size = 1 := rfl; omega)]
  have b1 : (L t == [46]) = false := by simpa using h1
  have b2 : (L a == L t) = false := by simpa using h2
  simp only [Option.bind_some, L_append, b1, b2, Bool.false_or]
  rfl

theorem ends_valid (a t : ByteArray) (ha : validL (L a) = true) (ht : validL (L t) = true) : endsL (L a) (L t) = List.isSuffixOf (labelsL (L t)) (labelsL (L a)) := by
  obtain ⟨h1, h2⟩ := valid_good ha
  obtain ⟨h3, h4⟩ := valid_good ht
  rw [← ends_nm h1 h3, h2, h4]

theorem under_f (a t : ByteArray) (ha : a.size ≤ 140737488351232) (ht : t.size ≤ 140737488351232) (k : Nat) (hk : 1000 ≤ k) : dname_Under.f k a t = some (underL (L a) (L t)) := by
  unfold dname_Under.f underL
  rw [valid_f a ha k hk, valid_f t ht k hk, ends_f a t ha ht]
  simp only [Option.bind_some]
  cases h1 : validL (L a) with
  | false => simp
  | true =>
    cases h2 : validL (L t) with
    | false => simp
    | true => simp [ends_valid a t h1 h2]

theorem map_LB (l : List (List UInt8)) : (l.map B).map L = l := by rw [List.map_map]; simp [show (L ∘ B) = id from funext L_B]
theorem map_BL (l : List ByteArray) : (l.map L).map B = l := by rw [List.map_map]; simp [show (B ∘ L) = id from funext B_L]

theorem labels_sizes (s : List UInt8) : ∀ x ∈ labelsL s, x.length ≤ 63 := by
  intro x hx
  cases h : validL s with
  | true => exact lab_len' (labs_all (valid_good h).1.1 x hx)
  | false => rw [invalid_labels h] at hx; cases hx

theorem size_B_label (s : List UInt8) : ∀ x ∈ (labelsL s).map B, x.size ≤ 63 := by
  intro x hx
  obtain ⟨y, hy, rfl⟩ := List.mem_map.1 hx
  rw [B_size]; exact labels_sizes s y hy

/-- the parent, in both texts -/
def parentS (a : ByteArray) : ByteArray × Bool := if labelsL (L a) = [] then (⟨#[]⟩, false) else (B (nm ((labelsL (L a)).drop 1)), true)

end Go.Proofs.YtfcgconojomfpaaDoor.Pa

namespace Go.Proofs.YtfcgconojomfpaaDoor.Pa
open Go.RowKit Go.Proofs.YtfcgconojomfpaaDoorW.PrintWords Go.Proofs.YtfcgconojomfpaaDoorW.PrintLast Go.Proofs.YtfcgconojomfpaaDoor.DN
set_option linter.unusedVariables false
set_option linter.unusedSimpArgs false

theorem labels_root : labelsL [46] = [] := by simp [labelsL]
theorem valid_root : validL [46] = true := by simp [validL]
theorem valid_txt {a : List UInt8} (hv : validL a = true) (h : a ≠ [46]) : ∃ x r, labelsL a = x :: r ∧ a = x ++ 46 :: txt r ∧ good (x :: r) := by
  have e := valid_good hv
  cases hl : labelsL a with
  | nil => exact absurd (by rw [← e.2, hl]; rfl) h
  | cons x r =>
    refine ⟨x, r, rfl, ?_, hl ▸ e.1⟩
    have := e.2
    rw [hl, nm, if_neg (by simp), txt_cons] at this
    exact this.symm
theorem valid_len {a : List UInt8} (hv : validL a = true) : a.length ≤ 254 := by
  by_cases h : a = [46]
  · subst h; simp
  · have e := valid_good hv
    have hn : labelsL a ≠ [] := fun h0 => h (by rw [← e.2, h0]; rfl)
    have := e.1.2
    rw [← e.2, nm, if_neg hn]; exact this
theorem valid_pos {a : List UInt8} (hv : validL a = true) : 0 < a.length := by
  cases a with
  | nil => exact absurd hv (by decide)
  | cons x r => simp

/-! ### cut -/
def cutS (a : ByteArray) : ByteArray := a.extract 0 (min a.size 600)
theorem cut_f (a : ByteArray) (ha : a.size ≤ 140737488351232) : ddilaw01_cut.f a = some (cutS a) := by
  unfold ddilaw01_cut.f cutS
  have hm : mn (a.size : Int) 600 = ((min a.size 600 : Nat) : Int) := by unfold mn; omega
  rw [hm, if_pos (by omega), if_pos (by omega), Int.toNat_natCast]
theorem cut_size (a : ByteArray) : (cutS a).size ≤ 600 := by
  unfold cutS; rw [ByteArray.size_extract]; omega

/-! ### the length -/
def lengthS (a : ByteArray) : Int := if validL (L a) = true then ((txt (labelsL (L a))).length : Int) + 1 else 0
theorem length_f (a : ByteArray) (ha : a.size ≤ 140737488351232) (k : Nat) (hk : 1000 ≤ k) : dname_Length.f k a = some (lengthS a) := by
  unfold dname_Length.f lengthS
  rw [toList_L]
  by_cases h : L a = [46]
  · rw [if_pos h, h, if_pos valid_root, labels_root]; rfl
  · rw [if_neg h, valid_f a ha k hk, Option.bind_some]
    cases hv : validL (L a) with
    | false => rfl
    | true =>
      obtain ⟨x, r, hl, he, hg⟩ := valid_txt hv h
      have e2 : txt (labelsL (L a)) = L a := by rw [hl, txt_cons, ← he]
      rw [if_pos rfl, if_pos rfl, e2, L_len, wrap_id (by omega) (by omega)]

/-! ### the parent -/
theorem indexByte_f (a : ByteArray) (n : Nat) (h : Lib.indexByte (L a) 46 = n) : strings_IndexByte.f a 46 = some (n : Int) := by
  unfold strings_IndexByte.f
  exact congrArg some h
theorem parent_f (a : ByteArray) (ha : a.size ≤ 140737488351232) (k : Nat) (hk : 1001 ≤ k) : dname_Parent.f k a = some (parentS a) := by
  obtain ⟨k, rfl⟩ : ∃ j, k = j + 1 := ⟨k - 1, by omega⟩
  unfold dname_Parent.f parentS
  rw [toList_L]
  by_cases h : L a = [46]
  · rw [if_pos h, h, if_pos labels_root]; simp [dname_Parent.j0]
  · rw [if_neg h, valid_f a ha _ (by omega), Option.bind_some]
    cases hv : validL (L a) with
    | false => rw [if_pos (invalid_labels hv)]; simp [dname_Parent.j0]
    | true =>
      obtain ⟨x, r, hl, he, hg⟩ := valid_txt hv h
      have hix : Lib.indexByte (L a) 46 = x.length := by rw [he]; exact index_label x (txt r) (good_no hg x (by simp))
      have hsz : a.size = x.length + 1 + (txt r).length := by rw [← L_len, he]; simp; omega
      have hd : a.extract (x.length + 1) a.size = B (txt r) := by
        apply L_inj
        rw [L_extract, L_B, hsz, he, List.drop_append, List.drop_of_length_le (by omega), List.nil_append, show x.length + 1 - x.length = 1 by omega, List.drop_succ_cons, List.drop_zero, List.take_of_length_le (by omega)]
      simp only [dname_Parent.j0, Bool.not_true, Bool.false_eq_true, if_false]
      rw [indexByte_f a _ hix, Option.bind_some, show wrap64 ((x.length : Int) + 1) = ((x.length + 1 : Nat) : Int) by rw [wrap_id (by omega) (by omega)]; omega, if_pos (by omega), if_pos (by omega), Int.toNat_natCast, hd, toList_L, L_B, hl, if_neg (show ¬ (x :: r = []) by simp), List.drop_succ_cons, List.drop_zero]
      cases r with
      | nil => rfl
      | cons y r => rw [if_neg (by rw [txt_cons]; simp), nm, if_neg (by simp)]

/-! ### the order -/
def compareS (a b : ByteArray) : Int :=
  if validL (L a) = true then (if validL (L b) = true then cmpR (labelsL (L a)).reverse (labelsL (L b)).reverse else -1)
  else (if validL (L b) = true then 1 else Lib.compareBytes (L a) (L b))
theorem cmp_f (a b : ByteArray) : strings_Compare.f a b = some (Lib.compareBytes (L a) (L b)) := rfl
theorem rd_at (x : List ByteArray) (i : Nat) (h : i < x.length) : rdOf ByteArray.empty x (i : Int) = x[i] := by simp [rdOf, List.getElem?_eq_getElem h]
theorem rev_at (x : List ByteArray) (i : Nat) (h : i < x.length) (h' : i < (x.map L).reverse.length) : (x.map L).reverse[i] = L (x[x.length - 1 - i]'(by omega)) := by
  rw [List.getElem_reverse, List.getElem_map]; simp
theorem compare_l0 (x y : List ByteArray) (hx : x.length ≤ 1000000) (hy : y.length ≤ 1000000) : ∀ d i k : Nat, i + d = min x.length y.length → 2 * d + 2 ≤ k → dname_Compare.l0 k x y ((i + 1 : Nat) : Int) = some (cmpR ((x.map L).reverse.drop i) ((y.map L).reverse.drop i)) := by
  intro d
  induction d with
  | zero =>
    intro i k hd hk
    obtain ⟨k, rfl⟩ : ∃ j, k = j + 1 := ⟨k - 1, by omega⟩
    obtain ⟨k, rfl⟩ : ∃ j, k = j + 1 := ⟨k - 1, by omega⟩
    have e : dname_Compare.l0 (k + 1 + 1) x y ((i + 1 : Nat) : Int) = dname_Compare.j3 (k + 1) x y ((i + 1 : Nat) : Int) false := by
      simp only [dname_Compare.l0]
      by_cases h1 : ((i + 1 : Nat) : Int) ≤ x.length
      · rw [if_pos h1, decide_eq_false (by omega)]
      · rw [if_neg h1]
    rw [e]
    simp only [dname_Compare.j3, Bool.false_eq_true, if_false]
    rcases Nat.lt_trichotomy x.length y.length with h | h | h
    · rw [if_pos (by omega), show (x.map L).reverse.drop i = [] from List.drop_of_length_le (by simp; omega)]
      have : ((y.map L).reverse.drop i).length ≠ 0 := by simp; omega
      cases hq : (y.map L).reverse.drop i with
      | nil => rw [hq] at this; simp at this
      | cons z l => rfl
    · rw [if_neg (by omega), if_neg (by omega), show (x.map L).reverse.drop i = [] from List.drop_of_length_le (by simp; omega), show (y.map L).reverse.drop i = [] from List.drop_of_length_le (by simp; omega)]; rfl
    · rw [if_neg (by omega), if_pos (by omega), show (y.map L).reverse.drop i = [] from List.drop_of_length_le (by simp; omega)]
      have : ((x.map L).reverse.drop i).length ≠ 0 := by simp; omega
      cases hq : (x.map L).reverse.drop i with
      | nil => rw [hq] at this; simp at this
      | cons z l => rfl
  | succ d ih =>
    intro i k hd hk
    obtain ⟨k, rfl⟩ : ∃ j, k = j + 1 := ⟨k - 1, by omega⟩
    obtain ⟨k, rfl⟩ : ∃ j, k = j + 1 := ⟨k - 1, by omega⟩
    have e : dname_Compare.l0 (k + 1 + 1) x y ((i + 1 : Nat) : Int) = dname_Compare.j3 (k + 1) x y ((i + 1 : Nat) : Int) true := by
      simp only [dname_Compare.l0]
      rw [if_pos (by omega), decide_eq_true (by omega)]
    rw [e]
    simp only [dname_Compare.j3, if_true]
    have b1 : x.length - 1 - i < x.length := by omega
    have b2 : y.length - 1 - i < y.length := by omega
    rw [show wrap64 ((x.length : Int) - ((i + 1 : Nat) : Int)) = ((x.length - 1 - i : Nat) : Int) by rw [wrap_id (by omega) (by omega)]; omega,
      show wrap64 ((y.length : Int) - ((i + 1 : Nat) : Int)) = ((y.length - 1 - i : Nat) : Int) by rw [wrap_id (by omega) (by omega)]; omega,
      show wrap64 (((i + 1 : Nat) : Int) + 1) = ((i + 1 + 1 : Nat) : Int) by rw [wrap_id (by omega) (by omega)]; omega,
      if_pos (Int.natCast_nonneg _), if_pos (Int.ofNat_lt.2 b1), if_pos (Int.natCast_nonneg _), if_pos (Int.ofNat_lt.2 b2), rd_at x _ b1, rd_at y _ b2, cmp_f, Option.bind_some]
    have g1 : (x.map L).reverse.drop i = L (x[x.length - 1 - i]'(by omega)) :: (x.map L).reverse.drop (i + 1) := by
      rw [List.drop_eq_getElem_cons (by simp; omega), rev_at x i (by omega)]
    have g2 : (y.map L).reverse.drop i = L (y[y.length - 1 - i]'(by omega)) :: (y.map L).reverse.drop (i + 1) := by
      rw [List.drop_eq_getElem_cons (by simp; omega), rev_at y i (by omega)]
    rw [g1, g2, cmpR]
    by_cases h0 : Lib.compareBytes (L (x[x.length - 1 - i]'(by omega))) (L (y[y.length - 1 - i]'(by omega))) = 0
    · rw [if_pos h0, if_pos h0, ih (i + 1) k (by omega) (by omega)]
    · rw [if_neg h0, if_neg h0]
theorem compare_f (a b : ByteArray) (ha : a.size ≤ 140737488351232) (hb : b.size ≤ 140737488351232) (k : Nat) (hk : 1002 ≤ k) : dname_Compare.f k a b = some (compareS a b) := by
  obtain ⟨k, rfl⟩ : ∃ j, k = j + 1 := ⟨k - 1, by omega⟩
  obtain ⟨k, rfl⟩ : ∃ j, k = j + 1 := ⟨k - 1, by omega⟩
  unfold dname_Compare.f compareS
  rw [valid_f a ha _ (by omega), valid_f b hb _ (by omega), Option.bind_some, Option.bind_some]
  cases va : validL (L a) with
  | true =>
    cases vb : validL (L b) with
    | true =>
      simp only [dname_Compare.j0, dname_Compare.j1, Bool.not_true, Bool.false_eq_true, if_false, if_true]
      have l1 := labels_len (L a); have l2 := labels_len (L b)
      rw [labels_f a ha _ (by omega), labels_f b hb _ (by omega), Option.bind_some, Option.bind_some]
      have := compare_l0 ((labelsL (L a)).map B) ((labelsL (L b)).map B) (by simp; omega) (by simp; omega) (min ((labelsL (L a)).map B).length ((labelsL (L b)).map B).length) 0 k (by omega) (by simp; omega)
      rw [map_LB, map_LB] at this
      exact this
    | false => simp [dname_Compare.j0]
  | false =>
    cases vb : validL (L b) with
    | true => simp [dname_Compare.j0, dname_Compare.j1]
    | false =>
      simp only [dname_Compare.j0, dname_Compare.j1, Bool.not_false, Bool.false_eq_true, if_false, if_true]
      rw [cmp_f, Option.bind_some]

/-! ### what two names have in common -/
def commonS (a b : ByteArray) : ByteArray := if validL (L a) = true ∧ validL (L b) = true then B (nm (commonL (labelsL (L a)) (labelsL (L b)))) else ⟨#[]⟩
theorem nm_len {l : List (List UInt8)} (h : good l) : (B (nm l)).size ≤ 254 := by
  rw [B_size]; exact valid_len (valid_nm h)
theorem parent_nm {l : List (List UInt8)} (h : good l) (hne : l ≠ []) : parentS (B (nm l)) = (B (nm (l.drop 1)), true) := by
  unfold parentS; rw [L_B, labels_nm h, if_neg hne]
theorem common_l0 (la : List (List UInt8)) (hg : good la) (b : ByteArray) (hb : validL (L b) = true) : ∀ d i k : Nat, i + d = la.length - sameN la (labelsL (L b)) → d + 1002 ≤ k → dname_Common.l0 k (B (nm (la.drop i))) b = some (B (nm (commonL la (labelsL (L b))))) := by
  have hbs : b.size ≤ 254 := by rw [← L_len]; exact valid_len hb
  have hsn := sameN_le la (labelsL (L b))
  have he : ∀ i, i ≤ la.length → (dname_ends.f b (B (nm (la.drop i))) = some (decide (la.length - i ≤ sameN la (labelsL (L b))))) := by
    intro i hi
    have := nm_len (good_drop hg i)
    rw [ends_f b _ (by omega) (by omega), ends_valid b _ hb (by rw [L_B]; exact valid_nm (good_drop hg i)), L_B, labels_nm (good_drop hg i)]
    congr 1
    rw [Bool.eq_iff_iff, decide_eq_true_iff, List.isSuffixOf_iff_suffix]
    exact suffix_common i hi
  intro d
  induction d with
  | zero =>
    intro i k hd hk
    obtain ⟨k, rfl⟩ : ∃ j, k = j + 1 := ⟨k - 1, by omega⟩
    simp only [dname_Common.l0]
    rw [he i (by omega), Option.bind_some, if_pos (decide_eq_true (by omega)), show i = la.length - sameN la (labelsL (L b)) by omega]; rfl
  | succ d ih =>
    intro i k hd hk
    obtain ⟨k, rfl⟩ : ∃ j, k = j + 1 := ⟨k - 1, by omega⟩
    have := nm_len (good_drop hg i)
    simp only [dname_Common.l0]
    rw [he i (by omega), Option.bind_some, if_neg (by rw [decide_eq_true_iff]; omega), parent_f _ (by omega) k (by omega), Option.bind_some, parent_nm (good_drop hg i) (by intro h; have := congrArg List.length h; simp at this; omega), List.drop_drop]
    exact ih (i + 1) k (by omega) (by omega)
theorem common_f (a b : ByteArray) (ha : a.size ≤ 140737488351232) (hb : b.size ≤ 140737488351232) (k : Nat) (hk : 1200 ≤ k) : dname_Common.f k a b = some (commonS a b) := by
  obtain ⟨k, rfl⟩ : ∃ j, k = j + 1 := ⟨k - 1, by omega⟩
  unfold dname_Common.f commonS
  rw [valid_f a ha _ (by omega), Option.bind_some]
  cases va : validL (L a) with
  | false => simp [dname_Common.j0]
  | true =>
    rw [if_pos rfl, valid_f b hb _ (by omega), Option.bind_some]
    cases vb : validL (L b) with
    | false => simp [dname_Common.j0]
    | true =>
      simp only [dname_Common.j0, Bool.not_true, Bool.false_eq_true, if_false]
      have e := valid_good va
      have l1 := labels_len (L a)
      have := common_l0 (labelsL (L a)) e.1 b vb ((labelsL (L a)).length - sameN (labelsL (L a)) (labelsL (L b))) 0 k (by omega) (by omega)
      rw [List.drop_zero, e.2, B_L] at this
      rw [this, if_pos (by simp)]

/-! ### the wildcard -/
def starT (a : List UInt8) : List UInt8 := if a = [46] then [42, 46] else 42 :: 46 :: a
def starS (a : ByteArray) : ByteArray × Bool := if validL (L a) = true ∧ (labelsL (L a)).head? ≠ some [42] ∧ validL (starT (L a)) = true then (B (starT (L a)), true) else (⟨#[]⟩, false)
theorem head_star {a : List UInt8} (hv : validL a = true) : a.head? = some 42 ↔ (labelsL a).head? = some [42] := by
  have e := valid_good hv
  by_cases h : labelsL a = []
  · have : a = [46] := by rw [← e.2, h]; rfl
    subst this; simp [labels_root]
  · have := star_first e.1 h
    rwa [e.2] at this
theorem bt_zero (a : ByteArray) (h : 0 < (L a).length) : bt a 0 = 42 ↔ (L a).head? = some 42 := by
  have e := bt_L a 0 h
  rw [show ((0 : Nat) : Int) = 0 from rfl] at e
  rw [e, List.head?_eq_getElem?, List.getElem?_eq_getElem h, Option.some.injEq]
  constructor
  · intro h1; exact UInt8.toNat_inj.1 (by have : ((L a)[0].toNat : Int) = ((42 : UInt8).toNat : Int) := h1; omega)
  · intro h1; rw [h1]; rfl
theorem star_f (a : ByteArray) (ha : a.size ≤ 140737488351200) (k : Nat) (hk : 1001 ≤ k) : dname_Star.f k a = some (starS a) := by
  obtain ⟨k, rfl⟩ : ∃ j, k = j + 1 := ⟨k - 1, by omega⟩
  have hj : ∀ t : ByteArray, L t = starT (L a) → dname_Star.j0 (k + 1) a t = some (starS a) := by
    intro t ht
    have hts : t.size ≤ 140737488351232 := by
      rw [← L_len, ht]; unfold starT
      have := L_len a
      split <;> simp <;> omega
    simp only [dname_Star.j0]
    rw [valid_f a (by omega) k (by omega), Option.bind_some]
    unfold starS
    cases hv : validL (L a) with
    | false => simp
    | true =>
      have hp := valid_pos hv
      have hb := bt_zero a hp
      rw [head_star hv] at hb
      rw [if_pos rfl, if_pos (by rw [← L_len]; omega), valid_f t hts k (by omega), Option.bind_some, ht]
      by_cases h42 : bt a 0 = 42
      · rw [if_pos h42, if_neg (by intro h; exact h.2.1 (hb.1 h42))]
      · rw [if_neg h42]
        cases hs : validL (starT (L a)) with
        | false => simp
        | true => rw [if_pos rfl, if_pos ⟨rfl, fun h => h42 (hb.2 h), rfl⟩, ← ht, B_L]
  unfold dname_Star.f
  rw [if_pos (by omega), toList_L]
  by_cases h : L a = [46]
  · rw [if_pos h]; exact hj _ (by rw [h]; rfl)
  · rw [if_neg h]; exact hj _ (by rw [L_append, starT, if_neg h]; rfl)

/-! ### the replacing -/
def repL (ln lf lt : List (List UInt8)) : List (List UInt8) := ln.take (ln.length - lf.length) ++ lt
def replaceS (n f t : ByteArray) : ByteArray × Int :=
  if validL (L n) = true ∧ validL (L f) = true ∧ validL (L t) = true ∧ (labelsL (L t)).head? ≠ some [42] then
    (if labelsL (L f) <:+ labelsL (L n) ∧ (labelsL (L f)).length < (labelsL (L n)).length then
      (if (txt (repL (labelsL (L n)) (labelsL (L f)) (labelsL (L t)))).length ≤ 254 then (B (txt (repL (labelsL (L n)) (labelsL (L f)) (labelsL (L t)))), 0) else (⟨#[]⟩, 9))
    else (⟨#[]⟩, 1))
  else (⟨#[]⟩, 2)
theorem suffix_take {α : Type} {a b : List α} (h : b <:+ a) : a.take (a.length - b.length) ++ b = a := by
  obtain ⟨p, rfl⟩ := h
  simp
theorem trim_f (a p : List UInt8) (s t : ByteArray) (hs : L s = p ++ a) (ht : L t = a) (h : s.size ≤ 9223372036854775807) : strings_TrimSuffix.f s t = some (B p) := by
  have h1 : s.size = p.length + a.length := by rw [← L_len, hs]; simp
  have h2 : t.size = a.length := by rw [← L_len, ht]
  have hx := hasSuffix_eq s t h (by omega)
  have e : stringslite_HasSuffix.f s t = some true := by
    unfold strings_HasSuffix.f at hx
    cases hq : stringslite_HasSuffix.f s t with
    | none => rw [hq] at hx; exact absurd hx (by simp)
    | some b =>
      rw [hq, Option.bind_some] at hx
      rw [hx, hs, ht, List.isSuffixOf_iff_suffix.2 ⟨p, rfl⟩]
  unfold strings_TrimSuffix.f stringslite_TrimSuffix.f
  rw [e, Option.bind_some, if_pos rfl, show wrap64 ((s.size : Int) - (t.size : Int)) = ((p.length : Nat) : Int) by rw [wrap_id (by omega) (by omega)]; omega, if_pos (by omega), if_pos (by omega), Option.bind_some, Int.toNat_natCast]
  congr 1
  apply L_inj
  rw [L_extract, L_B, hs]; simp
theorem replace_f (n f t : ByteArray) (hn : n.size ≤ 140737488351200) (hf : f.size ≤ 140737488351200) (ht : t.size ≤ 140737488351200) (k : Nat) (hk : 1003 ≤ k) : dname_Replace.f k n f t = some (replaceS n f t) := by
  obtain ⟨k, rfl⟩ : ∃ j, k = j + 1 := ⟨k - 1, by omega⟩
  obtain ⟨k, rfl⟩ : ∃ j, k = j + 1 := ⟨k - 1, by omega⟩
  obtain ⟨k, rfl⟩ : ∃ j, k = j + 1 := ⟨k - 1, by omega⟩
  have hbad : dname_Replace.j0 (k + 1 + 1 + 1) n f t true = some (⟨#[]⟩, 2) := by simp only [dname_Replace.j0, if_true]
  unfold dname_Replace.f
  rw [valid_f n (by omega) _ (by omega), Option.bind_some]
  unfold replaceS
  cases vn : validL (L n) with
  | false => simp [hbad]
  | true =>
  rw [if_pos rfl, valid_f f (by omega) _ (by omega), Option.bind_some]
  cases vf : validL (L f) with
  | false => simp [hbad]
  | true =>
  rw [if_pos rfl, valid_f t (by omega) _ (by omega), Option.bind_some]
  cases vt : validL (L t) with
  | false => simp [hbad]
  | true =>
  have hp := valid_pos vt
  have hb := bt_zero t hp
  rw [head_star vt] at hb
  rw [if_pos rfl, if_pos (by rw [← L_len]; omega)]
  by_cases h42 : bt t 0 = 42
  · rw [h42, if_neg (by intro h; exact h.2.2.2 (hb.1 h42))]; exact hbad
  have h42' : (bt t 0 == 42) = false := by simpa using h42
  rw [h42', if_pos ⟨rfl, rfl, rfl, fun h => h42 (hb.2 h)⟩]
  simp only [dname_Replace.j0, Bool.false_eq_true, if_false]
  have en := valid_good vn; have ef := valid_good vf; have et := valid_good vt
  rw [toList_L, toList_L]
  by_cases hs : labelsL (L f) <:+ labelsL (L n)
  · by_cases hlt : (labelsL (L f)).length < (labelsL (L n)).length
    · have hne : L n ≠ L f := by intro h; rw [h] at hlt; omega
      rw [if_neg hne, ends_f n f (by omega) (by omega), ends_valid n f vn vf, List.isSuffixOf_iff_suffix.2 hs, Option.bind_some, if_pos ⟨hs, hlt⟩]
      simp only [dname_Replace.j1, Bool.not_true, Bool.false_eq_true, if_false]
      have hpf := suffix_take hs
      have hpf0 := hpf
      have hln : L n = txt (labelsL (L n)) := by
        conv => lhs; rw [← en.2]
        rw [nm, if_neg (by intro h; rw [h] at hlt; simp at hlt)]
      have hnl := valid_len vn
      have hjj : ∀ h : ByteArray, L h = txt ((labelsL (L n)).take ((labelsL (L n)).length - (labelsL (L f)).length)) → dname_Replace.j2 (k + 1) t h = some (if (txt (repL (labelsL (L n)) (labelsL (L f)) (labelsL (L t)))).length ≤ 254 then (B (txt (repL (labelsL (L n)) (labelsL (L f)) (labelsL (L t)))), 0) else (⟨#[]⟩, 9)) := by
        intro h hh
        have hsz : h.size ≤ 254 := by
          rw [← L_len, hh]
          have e3 := congrArg List.length hln
          rw [← hpf0, txt_append, List.length_append] at e3
          omega
        have htz : t.size ≤ 254 := by rw [← L_len]; exact valid_len vt
        simp only [dname_Replace.j2]
        rw [if_pos (by omega), toList_L]
        by_cases h46 : L t = [46]
        · have e4 : txt (repL (labelsL (L n)) (labelsL (L f)) (labelsL (L t))) = L h := by rw [repL, h46, labels_root, List.append_nil, hh]
          rw [if_pos h46, e4, L_len, B_L]
          by_cases h5 : (h.size : Int) ≥ 255
          · rw [if_pos h5, if_neg (by omega)]
          · rw [if_neg h5, if_pos (by omega)]
        · have hlt' : L t = txt (labelsL (L t)) := by
            conv => lhs; rw [← et.2]
            rw [nm, if_neg (by intro h0; rw [h0] at et; exact h46 et.2.symm)]
          have e4 : txt (repL (labelsL (L n)) (labelsL (L f)) (labelsL (L t))) = L (h ++ t) := by rw [repL, txt_append, L_append, hh, ← hlt']
          rw [if_neg h46, e4, L_len, B_L]
          by_cases h5 : ((h ++ t).size : Int) ≥ 255
          · rw [if_pos h5, if_neg (by omega)]
          · rw [if_neg h5, if_pos (by omega)]
      rw [toList_L]
      by_cases hf46 : L f = [46]
      · rw [if_pos hf46]
        exact hjj n (by rw [hf46, labels_root, List.length_nil, Nat.sub_zero, List.take_length, ← hln])
      · have hlf : L f = txt (labelsL (L f)) := by
          conv => lhs; rw [← ef.2]
          rw [nm, if_neg (by intro h0; rw [h0] at ef; exact hf46 ef.2.symm)]
        have hsp : L n = txt ((labelsL (L n)).take ((labelsL (L n)).length - (labelsL (L f)).length)) ++ L f := by
          have e6 : txt ((labelsL (L n)).take ((labelsL (L n)).length - (labelsL (L f)).length)) ++ txt (labelsL (L f)) = txt (labelsL (L n)) := by rw [← txt_append, hpf0]
          exact hln.trans (e6.symm.trans (congrArg (txt ((labelsL (L n)).take ((labelsL (L n)).length - (labelsL (L f)).length)) ++ ·) hlf.symm))
        rw [if_neg hf46, trim_f (L f) _ n f hsp rfl (by omega), Option.bind_some]
        exact hjj _ (L_B _)
    · have heq : L n = L f := by
        have := hs.eq_of_length (by have := hs.length_le; omega)
        rw [← en.2, ← ef.2, this]
      rw [if_pos heq, if_neg (fun h => hlt h.2)]
      simp only [dname_Replace.j1, if_true]
  · have hne : L n ≠ L f := by intro h; rw [h] at hs; exact hs (List.suffix_refl _)
    have hsf : List.isSuffixOf (labelsL (L f)) (labelsL (L n)) = false := by
      rw [Bool.eq_false_iff]; intro h; exact hs (List.isSuffixOf_iff_suffix.1 h)
    rw [if_neg hne, ends_f n f (by omega) (by omega), ends_valid n f vn vf, hsf, Option.bind_some, if_neg (fun h => hs h.1)]
    simp only [dname_Replace.j1, Bool.not_false, if_true]

/-! ### the reading -/
def parseT (s o : List UInt8) : List UInt8 := if s = [64] then o else if s.getLast? = some 46 then s.map lowC else if o = [46] then s.map lowC ++ [46] else s.map lowC ++ 46 :: o
def parseS (s o : ByteArray) : ByteArray × Int := if L s ≠ [] ∧ validL (L o) = true ∧ validL (parseT (L s) (L o)) = true then (B (parseT (L s) (L o)), 0) else (⟨#[]⟩, 2)
theorem lower_f (s : ByteArray) (h : s.size ≤ 140737488351232) : dname_lower.f s = some (lowS s) := if_pos (by omega)
theorem L_lowS (s : ByteArray) : L (lowS s) = (L s).map lowC := L_B _
theorem lowC_eq (c v : UInt8) (hv : v.toNat < 65) : lowC c = v ↔ c = v := by
  unfold lowC
  by_cases h : 65 ≤ c ∧ c ≤ 90
  · rw [if_pos h]
    have h1 : 65 ≤ c.toNat := UInt8.le_iff_toNat_le.1 h.1
    have h2 : c.toNat ≤ 90 := UInt8.le_iff_toNat_le.1 h.2
    have h3 : (c + 32).toNat = c.toNat + 32 := by rw [UInt8.toNat_add]; show (c.toNat + 32) % 256 = c.toNat + 32; omega
    constructor
    · intro h; rw [h] at h3; omega
    · intro h; rw [h] at h1; omega
  · rw [if_neg h]
theorem lowC_46 (c : UInt8) : lowC c = 46 ↔ c = 46 := lowC_eq c 46 (by decide)
theorem lowC_64 (c : UInt8) : lowC c = 64 ↔ c = 64 := lowC_eq c 64 (by decide)
theorem low_at (s : List UInt8) : s.map lowC = [64] ↔ s = [64] := by
  match s with
  | [] => simp
  | [c] => simp [lowC_64]
  | c :: d :: r => simp
theorem low_last (s : List UInt8) : (s.map lowC).getLast? = some 46 ↔ s.getLast? = some 46 := by
  rw [List.getLast?_map]
  cases s.getLast? with
  | none => simp
  | some c => simp [lowC_46]
theorem parse_f (s o : ByteArray) (hs : s.size ≤ 100000) (ho : o.size ≤ 100000) (k : Nat) (hk : 1001 ≤ k) : dname_Parse.f k s o = some (parseS s o) := by
  obtain ⟨k, rfl⟩ : ∃ j, k = j + 1 := ⟨k - 1, by omega⟩
  have hbad : dname_Parse.j0 (k + 1) s o true = some (⟨#[]⟩, 2) := by simp only [dname_Parse.j0, if_true]
  unfold dname_Parse.f parseS
  rw [toList_L]
  by_cases h0 : L s = []
  · rw [if_pos h0, if_neg (fun h => h.1 h0)]; exact hbad
  rw [if_neg h0, valid_f o (by omega) _ (by omega), Option.bind_some]
  cases vo : validL (L o) with
  | false => simp [hbad]
  | true =>
  have fin : ∀ t : ByteArray, L t = parseT (L s) (L o) → t.size ≤ 1000000 → ((dname_Valid.f k t).bind fun t110 => (if t110 = true then (some (t, (0 : Int))) else (some ((⟨#[]⟩ : ByteArray), 2)))) = some (if L s ≠ [] ∧ True ∧ validL (parseT (L s) (L o)) = true then (B (parseT (L s) (L o)), 0) else (⟨#[]⟩, 2)) := by
    intro t ht hts
    rw [valid_f t (by omega) k (by omega), Option.bind_some, ht]
    cases hv : validL (parseT (L s) (L o)) with
    | false => simp
    | true => rw [if_pos rfl, if_pos ⟨h0, trivial, rfl⟩, ← ht, B_L]
  have hls : (lowS s).size = s.size := by rw [← L_len, L_lowS, List.length_map, L_len]
  simp only [dname_Parse.j0, Bool.not_true, Bool.false_eq_true, if_false]
  rw [lower_f s (by omega), Option.bind_some, toList_L, L_lowS]
  by_cases h1 : L s = [64]
  · rw [if_pos ((low_at _).2 h1)]
    exact fin o (by rw [parseT, if_pos h1]) (by omega)
  rw [if_neg (fun h => h1 ((low_at _).1 h)), hasSuffix_eq _ _ (by omega) (by decide), Option.bind_some, L_lowS, show L (⟨#[46]⟩ : ByteArray) = [46] from rfl, suffix_dot]
  by_cases h2 : (L s).getLast? = some 46
  · rw [if_pos (by rw [beq_iff_eq]; exact (low_last _).2 h2)]
    exact fin _ (by rw [parseT, if_neg h1, if_pos h2, L_lowS]) (by omega)
  rw [if_neg (by rw [beq_iff_eq]; exact fun h => h2 ((low_last _).1 h)), toList_L]
  by_cases h3 : L o = [46]
  · rw [if_pos h3, if_pos (by omega)]
    exact fin _ (by rw [parseT, if_neg h1, if_neg h2, if_pos h3, L_append, L_lowS]) (by rw [ByteArray.size_append, show (⟨#[46]⟩ : ByteArray).size = 1 from rfl]; omega)
  · rw [if_neg h3, if_pos (by omega), if_pos (by rw [ByteArray.size_append, show (⟨#[46]⟩ : ByteArray).size = 1 from rfl]; omega)]
    exact fin _ (by rw [parseT, if_neg h1, if_neg h2, if_neg h3, L_append, L_append, L_lowS]; rfl) (by rw [ByteArray.size_append, ByteArray.size_append, show (⟨#[46]⟩ : ByteArray).size = 1 from rfl]; omega)

/-! ### the examples -/
theorem awake_l0 (x : List ByteArray) (hx : x.length ≤ 1000) (hs : ∀ y ∈ x, y.size ≤ 1000) (hall : (List.range (x.length - 1)).all (fun i => compareS (x.getD i ByteArray.empty) (x.getD (i + 1) ByteArray.empty) == -1) = true) (r : Bool)
    (hr : ∀ k, 1200 ≤ k → ddilaw01_awake.l0 (k + 1) x x.length = some r) : ∀ d i k : Nat, i + 1 + d = x.length → d + 1201 ≤ k → ddilaw01_awake.l0 k x ((i + 1 : Nat) : Int) = some r := by
  intro d
  induction d with
  | zero =>
    intro i k hd hk
    obtain ⟨k, rfl⟩ : ∃ j, k = j + 1 := ⟨k - 1, by omega⟩
    rw [show i + 1 = x.length by omega]
    exact hr k (by omega)
  | succ d ih =>
    intro i k hd hk
    obtain ⟨k, rfl⟩ : ∃ j, k = j + 1 := ⟨k - 1, by omega⟩
    simp only [ddilaw01_awake.l0]
    rw [if_pos (by omega), show wrap64 (((i + 1 : Nat) : Int) - 1) = ((i : Nat) : Int) by rw [wrap_id (by omega) (by omega)]; omega, if_pos (by omega), if_pos (by omega), if_pos (by omega), rd_at x i (by omega), rd_at x (i + 1) (by omega),
      compare_f _ _ (by have := hs x[i] (List.getElem_mem _); omega) (by have := hs x[i + 1] (List.getElem_mem _); omega) k (by omega), Option.bind_some]
    have h1 := List.all_eq_true.1 hall i (List.mem_range.2 (by omega))
    simp only [List.getD, List.getElem?_eq_getElem (show i < x.length by omega), List.getElem?_eq_getElem (show i + 1 < x.length by omega), Option.getD_some, beq_iff_eq] at h1
    rw [if_pos h1, show wrap64 (((i + 1 : Nat) : Int) + 1) = ((i + 1 + 1 : Nat) : Int) by rw [wrap_id (by omega) (by omega)]; omega]
    exact ih (i + 1) k (by omega) (by omega)
theorem awake_f (k : Nat) (hk : 1400 ≤ k) : ddilaw01_awake.f k = some true := by
  obtain ⟨k, rfl⟩ : ∃ j, k = j + 1 := ⟨k - 1, by omega⟩
  unfold ddilaw01_awake.f
  rw [parse_f _ _ (by decide) (by decide) _ (by omega), parse_f _ _ (by decide) (by decide) _ (by omega), replace_f _ _ _ (by decide) (by decide) (by decide) _ (by omega), star_f _ (by decide) _ (by omega),
    Option.bind_some, Option.bind_some, Option.bind_some, Option.bind_some]
  have p1 : parseS ⟨#[87, 87, 87]⟩ ⟨#[101, 120, 97, 109, 112, 108, 101, 46]⟩ = (⟨#[119, 119, 119, 46, 101, 120, 97, 109, 112, 108, 101, 46]⟩, 0) := by decide +kernel
  have p2 : (parseS ⟨#[97, 46, 42]⟩ ⟨#[101, 120, 97, 109, 112, 108, 101, 46]⟩).2 = 2 := by decide +kernel
  have p3 : replaceS ⟨#[97, 46, 98, 46, 120, 46]⟩ ⟨#[120, 46]⟩ ⟨#[121, 46, 122, 46]⟩ = (⟨#[97, 46, 98, 46, 121, 46, 122, 46]⟩, 0) := by decide +kernel
  have p4 : starS ⟨#[46]⟩ = (⟨#[42, 46]⟩, true) := by decide +kernel
  rw [p1, p2, p3, p4]
  simp only [toList_L, if_true, Bool.not_true]
  simp only [ddilaw01_awake.j0, Bool.false_eq_true, if_false]
  refine awake_l0 _ (by decide) (by decide) (by decide +kernel) true ?_ 7 0 k (by decide) (by omega)
  intro k hk
  simp only [ddilaw01_awake.l0]
  rw [if_neg (by omega), valid_f _ (by decide) k (by omega), Option.bind_some, valid_f _ (by decide) k (by omega), length_f _ (by decide) k (by omega), common_f _ _ (by decide) (by decide) k (by omega), under_f _ _ (by decide) (by decide) k (by omega)]
  simp only [Option.bind_some]
  decide +kernel
end Go.Proofs.YtfcgconojomfpaaDoor.Pa
