/- What the printed functions of the reference of package minimize answer: the same specification. -/
import Derived.Test.YtannhjclhdennaaDoorMin
import Derived.Test.YtannhjclhdennaaDoorDnR
import Derived.Test.YtannhjclhdennaaDoorPax11
import Derived.Test.YtannhjclhdennaaDoorPax12
import Derived.Test.YtannhjclhdennaaDoorPax15
namespace Go.Proofs.YtannhjclhdennaaDoor.Pa
open Go.RowKit Go.Proofs.YtannhjclhdennaaDoorW.PrintWords Go.Proofs.YtannhjclhdennaaDoorW.PrintLast Go.Proofs.YtannhjclhdennaaDoor.DN
set_option linter.unusedVariables false
set_option linter.unusedSimpArgs false
theorem last_l0 (lab : List (List UInt8)) (hg : good lab) (n : Nat) (hn : n ≤ lab.length) : ∀ d i k : Nat, i + d = lab.length - n → d + 1001 < k → ddiref31_last.l0 k n (B (nm (lab.drop i))) i = some (B (nm (lab.drop (lab.length - n)))) := by
  have hlen := good_len hg
  intro d
  induction d with
  | zero =>
    intro i k hd hk
    obtain ⟨k, rfl⟩ : ∃ m, k = m + 1 := ⟨k - 1, by omega⟩
    have hgi := good_drop hg i
    have hsz := nm_size hgi
    simp only [ddiref31_last.l0]
    split
    · rw [rlabels_f _ (by omega) k (by omega), L_B, labels_nm hgi]
      simp only [Option.bind_some, List.length_map, List.length_drop]
      rw [if_neg (by omega)]
      have e : i = lab.length - n := by omega
      rw [e]
    · have e : i = lab.length - n := by omega
      rw [e]
  | succ d ih =>
    intro i k hd hk
    obtain ⟨k, rfl⟩ : ∃ m, k = m + 1 := ⟨k - 1, by omega⟩
    have hgi := good_drop hg i
    have hsz := nm_size hgi
    have hw : wrap64 ((i : Int) + 1) = ((i + 1 : Nat) : Int) := by rw [wrap_id (by omega) (by omega)]; omega
    simp only [ddiref31_last.l0]
    rw [if_pos (by omega), rlabels_f _ (by omega) k (by omega), L_B, labels_nm hgi]
    simp only [Option.bind_some, List.length_map, List.length_drop]
    have hne : lab.drop i ≠ [] := by intro e; have := congrArg List.length e; simp at this; omega
    have hp : parentS (B (nm (lab.drop i))) = (B (nm (lab.drop (i + 1))), true) := by
      unfold parentS
      rw [L_B, labels_nm hgi, if_neg hne, List.drop_drop]
    rw [if_pos (by omega), rparent_f _ (by omega) k (by omega), hp, hw]
    exact ih (i + 1) k (by omega) (by omega)

theorem rnext_f (qn : ByteArray) (qt : Int) (z : ByteArray) (m : Int) (hn : qn.size ≤ 140737488351232) (hz : z.size ≤ 140737488351232) (k : Nat) (hk : 1200 ≤ k) :
    ddiref31_Next.f k qn qt z m = some (nextS qn qt z m) := by
  obtain ⟨k, rfl⟩ : ∃ j, k = j + 1 := ⟨k - 1, by omega⟩
  unfold ddiref31_Next.f nextS belowB
  rw [toList_L, toList_L, runder_f qn z hn hz _ (by omega)]
  simp only [Option.bind_some]
  by_cases he : L qn = L z
  · rw [if_pos he, if_neg (by simp [he])]
    simp only [ddiref31_Next.j0, if_true]
  have heb : (L qn == L z) = false := by simpa using he
  rw [if_neg he, heb]
  simp only [Bool.not_false, Bool.true_and]
  cases hb : underL (L qn) (L z) with
  | false => simp [ddiref31_Next.j0]
  | true =>
    rw [if_pos rfl]
    by_cases h1 : m < 0
    · rw [if_pos h1, if_neg (by omega)]
      simp only [ddiref31_Next.j0, if_true]
    rw [if_neg h1]
    by_cases h2 : m ≥ 10
    · rw [decide_eq_true h2, if_neg (by omega)]
      simp only [ddiref31_Next.j0, if_true]
    have hv : validL (L qn) = true := by simp only [underL, Bool.and_eq_true] at hb; exact hb.1.1
    obtain ⟨hg, hnm⟩ := valid_good hv
    rw [decide_eq_false h2]
    simp only [ddiref31_Next.j0, Bool.false_eq_true, if_false]
    rw [rlabels_f qn hn k (by omega), rlabels_f z hz k (by omega), Option.bind_some, Option.bind_some, List.length_map, List.length_map]
    have l1 := labels_len (L qn); have l2 := labels_len (L z)
    have hw : wrap64 (wrap64 (((labelsL (L z)).length : Int) + 1) + m) = ((labelsL (L z)).length : Int) + 1 + m := by
      rw [wrap_id (x := ((labelsL (L z)).length : Int) + 1) (by omega) (by omega), wrap_id (by omega) (by omega)]
    rw [hw]
    by_cases h3 : ((labelsL (L qn)).length : Int) ≤ ((labelsL (L z)).length : Int) + 1 + m
    · rw [if_pos h3, if_neg (by omega)]
    have hN : ((labelsL (L z)).length : Int) + 1 + m = (((labelsL (L z)).length + 1 + m.toNat : Nat) : Int) := by omega
    have hq : qn = B (nm ((labelsL (L qn)).drop 0)) := by rw [List.drop_zero, hnm, B_L]
    rw [if_neg h3, if_pos (by refine ⟨?_, ?_, ?_, ?_⟩ <;> first | trivial | omega)]
    unfold ddiref31_last.f
    have := last_l0 (labelsL (L qn)) hg ((labelsL (L z)).length + 1 + m.toNat) (by omega) ((labelsL (L qn)).length - ((labelsL (L z)).length + 1 + m.toNat)) 0 k (by omega) (by omega)
    rw [← hq] at this
    rw [hN, show (0 : Int) = ((0 : Nat) : Int) from rfl, this, Option.bind_some]

theorem rsteps_l0 (qn : ByteArray) (qt : Int) (z : ByteArray) (hn : qn.size ≤ 140737488351232) (hz : z.size ≤ 140737488351232) : ∀ d m k : Nat, ∀ acc : List S23, m + d = 10 → acc.length ≤ m → d + 1300 < k →
    ddiref31_Steps.l0 k z acc m qn qt = some (acc ++ stepsS qn qt z (d + 1) m) := by
  intro d
  induction d with
  | zero =>
    intro m k acc hd hacc hk
    obtain ⟨k, rfl⟩ : ∃ j, k = j + 1 := ⟨k - 1, by omega⟩
    obtain rfl : m = 10 := by omega
    simp only [ddiref31_Steps.l0]
    rw [if_pos (by omega), rnext_f qn qt z _ hn hz k (by omega)]
    have h10 := next_ten qn qt z
    simp only [Option.bind_some, Int.cast_ofNat_Int]
    rw [if_pos (by omega), if_pos h10]
    simp [stepsS]
  | succ d ih =>
    intro m k acc hd hacc hk
    obtain ⟨k, rfl⟩ : ∃ j, k = j + 1 := ⟨k - 1, by omega⟩
    have hw : wrap64 ((m : Int) + 1) = ((m + 1 : Nat) : Int) := by rw [wrap_id (by omega) (by omega)]; omega
    simp only [ddiref31_Steps.l0]
    rw [if_pos (by omega), rnext_f qn qt z _ hn hz k (by omega)]
    simp only [Option.bind_some]
    rw [if_pos (by omega), hw, stepsS]
    split
    · rfl
    · rw [ih (m + 1) k _ (by omega) (by simp; omega) (by omega)]; simp
theorem rsteps_f (qn : ByteArray) (qt : Int) (z : ByteArray) (hn : qn.size ≤ 140737488351232) (hz : z.size ≤ 140737488351232) (k : Nat) (hk : 1400 ≤ k) : ddiref31_Steps.f k qn qt z = some (stepsS qn qt z 11 0) :=
  rsteps_l0 qn qt z hn hz 10 0 k [] rfl (Nat.le_refl _) (by omega)

theorem rreveal_f (qn : ByteArray) (qt : Int) (z : ByteArray) (hn : qn.size ≤ 140737488351232) (hz : z.size ≤ 140737488351232) (k : Nat) (hk : 1400 ≤ k) : ddiref31_Reveals.f k qn qt z = some (revealS qn qt z) := by
  unfold ddiref31_Reveals.f revealS belowB
  rw [runder_f qn z hn hz k (by omega), rnext_f qn qt z 0 hn hz k (by omega)]
  simp only [Option.bind_some]
  cases hu : underL (L qn) (L z) with
  | false => simp
  | true =>
    rw [if_pos rfl, rlabels_f _ (next_size qn qt z 0 hn) k (by omega), rlabels_f z hz k (by omega)]
    have l1 := labels_len (L (nextS qn qt z 0).1); have l2 := labels_len (L z)
    simp only [Option.bind_some, List.length_map]
    rw [wrap_id (by omega) (by omega)]
    by_cases he : L qn = L z
    · have hns : (nextS qn qt z 0).1 = qn := by unfold nextS; rw [if_neg (by intro h; exact (below_valid h.1).2.2.2 he)]
      have heb : (L qn == L z) = true := by simpa using he
      rw [hns, heb, he]; simp
    · have heb : (L qn == L z) = false := by simpa using he
      rw [heb]; simp


end Go.Proofs.YtannhjclhdennaaDoor.Pa
