/- What the printed functions of package dname answer: at or below. -/
import Derived.Test.YtfcgconojomfpaaDoorBase
import Derived.Test.YtfcgconojomfpaaDoorPax10
import Derived.Test.YtfcgconojomfpaaDoorPax9
namespace Go.Proofs.YtfcgconojomfpaaDoor.Pa
open Go.RowKit Go.Proofs.YtfcgconojomfpaaDoorW.PrintWords Go.Proofs.YtfcgconojomfpaaDoorW.PrintLast Go.Proofs.YtfcgconojomfpaaDoor.DN
set_option linter.unusedVariables false
set_option linter.unusedSimpArgs false

theorem ends_f (a t : ByteArray) (ha : a.size ≤ 140737488351232) (ht : t.size ≤ 140737488351232) : dname_ends.f a t = some (endsL (L a) (L t)) := by
  unfold dname_ends.f endsL
  rw [toList_L, toList_L]
  by_cases h1 : L t = [46]
  · rw [if_pos h1]; simp [h1]
  rw [if_neg h1]
  by_cases h2 : L a = L t
  · rw [if_pos h2]; simp [h2]
  rw [if_neg h2, if_pos (by omega), hasSuffix_eq _ _ (by omega) (by rw [ByteArray.size_append]; have : (⟨#[46]⟩ : ByteArray).size = 1 := rfl; omega)]
  have b1 : (L t == [46]) = false := by simpa using h1
  have b2 : (L a == L t) = false := by simpa using h2
  simp only [Option.bind_some, L_append, b1, b2, Bool.false_or]
  rfl

theorem ends_valid (a t : ByteArray) (ha : validL (L a) = true) (ht : validL (L t) = true) : endsL (L a) (L t) = List.isSuffixOf (labelsL (L t)) (labelsL (L a)) := by
  obtain ⟨h1, h2⟩ := valid_good ha
  obtain ⟨h3, h4⟩ := valid_good ht
  rw [← ends_nm h1 h3, h2, h4]

theorem under_f (a t : ByteArray) (ha : a.size ≤ 140737488351232) (ht : t.size ≤ 140737488351232) (k : Nat) (hk : 1000 ≤ k) : dname_Under.f k a t = some (underL (L a) (L t)) := by
  unfold dname_Under.f underL
  rw [valid_f a ha k hk, valid_f t ht k hk, ends_f a t ha ht]
  simp only [Option.bind_some]
  cases h1 : validL (L a) with
  | false => simp
  | true =>
    cases h2 : validL (L t) with
    | false => simp
    | true => simp [ends_valid a t h1 h2]

theorem map_LB (l : List (List UInt8)) : (l.map B).map L = l := by rw [List.map_map]; simp [show (L ∘ B) = id from funext L_B]
theorem map_BL (l : List ByteArray) : (l.map L).map B = l := by rw [List.map_map]; simp [show (B ∘ L) = id from funext B_L]

theorem labels_sizes (s : List UInt8) : ∀ x ∈ labelsL s, x.length ≤ 63 := by
  intro x hx
  cases h : validL s with
  | true => exact lab_len' (labs_all (valid_good h).1.1 x hx)
  | false => rw [invalid_labels h] at hx; cases hx

theorem size_B_label (s : List UInt8) : ∀ x ∈ (labelsL s).map B, x.size ≤ 63 := by
  intro x hx
  obtain ⟨y, hy, rfl⟩ := List.mem_map.1 hx
  rw [B_size]; exact labels_sizes s y hy

/-- the parent, in both texts -/
def parentS (a : ByteArray) : ByteArray × Bool := if labelsL (L a) = [] then (⟨#[]⟩, false) else (B (nm ((labelsL (L a)).drop 1)), true)

end Go.Proofs.YtfcgconojomfpaaDoor.Pa
