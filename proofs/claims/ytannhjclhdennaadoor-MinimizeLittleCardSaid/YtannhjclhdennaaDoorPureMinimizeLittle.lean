/- The plain statement of the law MinimizeLittle. -/
import Derived.Test.YtannhjclhdennaaDoorMin
import Derived.Test.YtannhjclhdennaaDoorPax19
namespace Go.Proofs.YtannhjclhdennaaDoor.Pa
open Go.RowKit Go.Proofs.YtannhjclhdennaaDoorW.PrintWords Go.Proofs.YtannhjclhdennaaDoorW.PrintLast Go.Proofs.YtannhjclhdennaaDoor.DN
set_option linter.unusedVariables false
set_option linter.unusedSimpArgs false
theorem MinimizeLittle_pure (q : ByteArray) (qt : Int) (z : ByteArray) (m : Int) (hq : q.size ≤ 140737488351232) (hz : z.size ≤ 140737488351232) : ∃ k, ddilaw31_MinimizeLittle.f k q qt z m = some true := by
  refine ⟨2000, ?_⟩
  have ha : ∀ k, 1400 ≤ k → ((ddilaw31_awake.f k).bind fun t => some t) = some true := fun k hk => by rw [awake_f k hk]; rfl
  unfold ddilaw31_MinimizeLittle.f
  rw [reveal_f q qt z hq hz 2000 (by omega), next_f q qt z m hq hz 2000 (by omega), reveal_one]
  simp only [Option.bind_some]
  rw [show (2000 : Nat) = 1998 + 1 + 1 from rfl]
  have hnw : ¬ (belowB q z = true ∧ 0 ≤ m ∧ m < 10) → nextS q qt z m = (q, qt, true) := by
    intro h
    rcases next_cases q qt z m with ⟨e, _⟩ | ⟨l, _, _, h1, h2, h3, _⟩
    · exact e
    · exact absurd ⟨h1, h2, h3⟩ h
  by_cases hm : m < 0 ∨ m ≥ 10
  · have e := hnw (by omega)
    have hflag : (if m < 0 then ddilaw31_MinimizeLittle.j0 (1998 + 1 + 1) z m (if belowB q z = true then 1 else 0) (nextS q qt z m).2.2 true q qt (nextS q qt z m).1 (nextS q qt z m).2.1 else ddilaw31_MinimizeLittle.j0 (1998 + 1 + 1) z m (if belowB q z = true then 1 else 0) (nextS q qt z m).2.2 (decide (m ≥ 10)) q qt (nextS q qt z m).1 (nextS q qt z m).2.1) = ddilaw31_MinimizeLittle.j0 (1998 + 1 + 1) z m (if belowB q z = true then 1 else 0) true true q qt q qt := by
      rw [e]
      by_cases h : m < 0
      · rw [if_pos h]
      · rw [if_neg h, decide_eq_true (by omega)]
    rw [hflag]
    simp only [ddilaw31_MinimizeLittle.j0, if_true, beq_self_eq_true, Bool.and_self]
    rw [ha _ (by omega)]
    cases belowB q z <;> simp
  · rw [if_neg (by omega), decide_eq_false (by omega)]
    simp only [ddilaw31_MinimizeLittle.j0, Bool.false_eq_true, if_false]
    rw [toList_L, toList_L, under_f q z hq hz _ (by omega)]
    simp only [Option.bind_some, ddilaw31_MinimizeLittle.j1]
    cases hb : belowB q z with
    | false =>
      have e := hnw (by rw [hb]; simp)
      have hfl : (if L q = L z then (true : Bool) else !underL (L q) (L z)) = true := by
        by_cases he : L q = L z
        · rw [if_pos he]
        · have heb : (L q == L z) = false := by simpa using he
          have hu : underL (L q) (L z) = false := by simpa [belowB, heb] using hb
          rw [if_neg he, hu]; rfl
      rw [e]
      simp only [Bool.false_eq_true, if_false, if_true, beq_self_eq_true, Bool.and_self]
      rw [ha _ (by omega)]
      by_cases he : L q = L z
      · rw [if_pos he]
      · rw [if_neg he] at hfl ⊢
        rw [hfl]; rfl
    | true =>
      obtain ⟨v1, v2, hs, hne⟩ := below_valid hb
      have hu : underL (L q) (L z) = true := by simp only [belowB, Bool.and_eq_true] at hb; exact hb.2
      have hlt := below_lens hb
      have l1 := labels_len (L (nextS q qt z m).1); have l2 := labels_len (L z)
      rw [if_neg hne, hu]
      simp only [Bool.not_true, Bool.false_eq_true, if_false, if_true]
      rw [labels_f _ (next_size q qt z m hq) 1998 (by omega), labels_f z hz 1998 (by omega), ha _ (by omega)]
      simp only [Option.bind_some, List.length_map]
      have hw1 : wrap64 (1 + m) = 1 + m := wrap_id (by omega) (by omega)
      have hw2 : wrap64 (((labelsL (L (nextS q qt z m).1)).length : Int) - ((labelsL (L z)).length : Int)) = ((labelsL (L (nextS q qt z m).1)).length : Int) - ((labelsL (L z)).length : Int) := wrap_id (by omega) (by omega)
      rw [hw1, hw2]
      have htold : 1 ≤ ((labelsL (L (nextS q qt z m).1)).length : Int) - ((labelsL (L z)).length : Int) ∧ ((labelsL (L (nextS q qt z m).1)).length : Int) - ((labelsL (L z)).length : Int) ≤ 1 + m := by
        rcases next_cases q qt z m with ⟨e, hn⟩ | ⟨l, hg, e, _, h0, h9, hl, _⟩
        · rw [e]
          have : ¬ ((labelsL (L z)).length : Int) + 1 + m < (labelsL (L q)).length := fun hh => hn ⟨hb, by omega, by omega, hh⟩
          simp only; omega
        · rw [e]; simp only [L_B, labels_nm hg]; omega
      rw [if_pos (by omega), if_pos (by omega)]

end Go.Proofs.YtannhjclhdennaaDoor.Pa
namespace Go.Proofs.YtannhjclhdennaaDoor.Pure
open Go.RowKit Go.Proofs.YtannhjclhdennaaDoor.Pa
theorem MinimizeLittle : ∀ (a0_0 : ByteArray) (a0_1 : Int) (a1 : ByteArray) (a2 : Int), a0_0.size ≤ 140737488351232 → (Lit.int .i64 a0_1).wf = true → a1.size ≤ 140737488351232 → (Lit.int .i64 a2).wf = true → ∃ k, ddilaw31_MinimizeLittle.f k a0_0 a0_1 a1 a2 = some true :=
  fun a b c d h1 _ h3 _ => MinimizeLittle_pure a b c d h1 h3
end Go.Proofs.YtannhjclhdennaaDoor.Pure
