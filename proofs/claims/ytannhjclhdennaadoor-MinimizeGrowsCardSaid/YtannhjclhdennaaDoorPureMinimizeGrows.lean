/- The plain statement of the law MinimizeGrows. -/
import Derived.Test.YtannhjclhdennaaDoorMin
import Derived.Test.YtannhjclhdennaaDoorPax17
namespace Go.Proofs.YtannhjclhdennaaDoor.Pa
open Go.RowKit Go.Proofs.YtannhjclhdennaaDoorW.PrintWords Go.Proofs.YtannhjclhdennaaDoorW.PrintLast Go.Proofs.YtannhjclhdennaaDoor.DN
set_option linter.unusedVariables false
set_option linter.unusedSimpArgs false
theorem grows_l0 (q : ByteArray) (qt : Int) (z : ByteArray) (hq : q.size ≤ 140737488351232) (hz : z.size ≤ 140737488351232) (hb : belowB q z = true) : ∀ d i k : Nat, i + 1 + d = (stepsS q qt z 11 0).length → d + 1500 < k →
    ddilaw31_MinimizeGrows.l0 k z (stepsS q qt z 11 0) (labelsL (L z)).length i q qt = some true := by
  have hlen : 1 ≤ (stepsS q qt z 11 0).length ∧ (stepsS q qt z 11 0).length ≤ 11 := steps_len q qt z 10 0
  have l2 := labels_len (L z)
  obtain ⟨v1, v2, hs, hne⟩ := below_valid hb
  intro d
  induction d with
  | zero =>
    intro i k hd hk
    obtain ⟨k, rfl⟩ : ∃ j, k = j + 1 := ⟨k - 1, by omega⟩
    have hw : wrap64 ((i : Int) + 1) = ((i + 1 : Nat) : Int) := by rw [wrap_id (by omega) (by omega)]; omega
    simp only [ddilaw31_MinimizeGrows.l0]
    rw [hw, if_neg (by omega), awake_f k (by omega)]; rfl
  | succ d ih =>
    intro i k hd hk
    obtain ⟨k, rfl⟩ : ∃ j, k = j + 1 := ⟨k - 1, by omega⟩
    have hw : wrap64 ((i : Int) + 1) = ((i + 1 : Nat) : Int) := by rw [wrap_id (by omega) (by omega)]; omega
    obtain ⟨hget, hwh⟩ := steps_get q qt z 11 0 i (by omega)
    rw [Int.zero_add] at hget hwh
    have hrd : rd_T23 (stepsS q qt z 11 0) (i : Int) = ⟨(nextS q qt z i).1, (nextS q qt z i).2.1⟩ := by
      unfold rd_T23; rw [List.getD_eq_getElem?_getD, Int.toNat_natCast, hget]; rfl
    rcases next_cases q qt z i with ⟨e, _⟩ | ⟨l, hg, e, _, h0, h9, hl, hlq, hzl, hlt⟩
    · rw [e] at hwh; cases hwh
    have hsz := nm_size hg
    have hbl := below_of_labels hg rfl v2 hzl (by omega)
    have hu1 : underL (L (B (nm l))) (L z) = true := by
      have := hbl; simp only [belowB, Bool.and_eq_true] at this; exact this.2
    have hu2 : underL (L q) (L (B (nm l))) = true := by
      simp only [underL, L_B, valid_nm hg, labels_nm hg, v1, Bool.true_and]; exact List.isSuffixOf_iff_suffix.2 hlq
    simp only [ddilaw31_MinimizeGrows.l0]
    rw [hw, if_pos (by omega), if_pos (by omega), if_pos (by omega), hrd, e]
    simp only
    have hw2 : wrap64 (wrap64 (((labelsL (L z)).length : Int) + 1) + i) = (labelsL (L z)).length + 1 + i := by
      rw [wrap_id (x := ((labelsL (L z)).length : Int) + 1) (by omega) (by omega), wrap_id (by omega) (by omega)]
    rw [if_pos trivial, under_f _ z (by omega) hz k (by omega), hu1, Option.bind_some, if_pos rfl, under_f q _ hq (by omega) k (by omega), hu2, Option.bind_some, if_pos rfl, labels_f _ (by omega) k (by omega), L_B, labels_nm hg, Option.bind_some, List.length_map, hw2, if_pos (by omega), ih (i + 1) k (by omega) (by omega)]

theorem MinimizeGrows_pure (q : ByteArray) (qt : Int) (z : ByteArray) (hq : q.size ≤ 140737488351232) (hz : z.size ≤ 140737488351232) : ∃ k, ddilaw31_MinimizeGrows.f k q qt z = some true := by
  refine ⟨2000, ?_⟩
  have hlen : 1 ≤ (stepsS q qt z 11 0).length ∧ (stepsS q qt z 11 0).length ≤ 11 := steps_len q qt z 10 0
  have hlast : (stepsS q qt z 11 0).getLast? = some ⟨q, qt⟩ := steps_last q qt z 10 0 rfl
  unfold ddilaw31_MinimizeGrows.f
  rw [steps_f q qt z hq hz 2000 (by omega)]
  simp only [Option.bind_some]
  have hw : wrap64 (((stepsS q qt z 11 0).length : Int) - 1) = (((stepsS q qt z 11 0).length - 1 : Nat) : Int) := by rw [wrap_id (by omega) (by omega)]; omega
  have hrd : rd_T23 (stepsS q qt z 11 0) (((stepsS q qt z 11 0).length - 1 : Nat) : Int) = ⟨q, qt⟩ := by
    unfold rd_T23
    rw [List.getD_eq_getElem?_getD, Int.toNat_natCast, ← List.getLast?_eq_getElem?, hlast]; rfl
  rw [if_neg (by omega), if_neg (by omega), hw, if_pos (by omega), if_pos (by omega), hrd]
  rw [show (2000 : Nat) = 1998 + 1 + 1 from rfl]
  simp only [ddilaw31_MinimizeGrows.j0, beq_self_eq_true, Bool.not_true, Bool.or_self, Bool.false_eq_true, if_false]
  rw [toList_L, toList_L, under_f q z hq hz _ (by omega)]
  simp only [Option.bind_some, ddilaw31_MinimizeGrows.j1]
  cases hb : belowB q z with
  | true =>
    obtain ⟨v1, v2, hs, hne⟩ := below_valid hb
    have hu : underL (L q) (L z) = true := by simp only [belowB, Bool.and_eq_true] at hb; exact hb.2
    rw [if_neg hne, hu]
    simp only [Bool.not_true, Bool.false_eq_true, if_false]
    rw [labels_f z hz 1998 (by omega)]
    simp only [Option.bind_some, List.length_map]
    exact grows_l0 q qt z hq hz hb ((stepsS q qt z 11 0).length - 1) 0 1998 (by omega) (by omega)
  | false =>
    have hone : (stepsS q qt z 11 0).length = 1 := by
      rw [stepsS, if_pos (by rcases next_cases q qt z 0 with ⟨e, _⟩ | ⟨l, _, _, h, _⟩; rw [e]; rw [hb] at h; cases h)]; rfl
    have hfin : (if ((stepsS q qt z 11 0).length : Int) = 1 then (ddilaw31_awake.f 1998).bind fun t262 => some t262 else some false) = some true := by
      rw [if_pos (by omega), awake_f 1998 (by omega)]; rfl
    by_cases he : L q = L z
    · rw [if_pos he, if_pos trivial, hfin]
    · have heb : (L q == L z) = false := by simpa using he
      have hu : underL (L q) (L z) = false := by simpa [belowB, heb] using hb
      rw [if_neg he, hu, if_pos (by decide), hfin]


end Go.Proofs.YtannhjclhdennaaDoor.Pa
namespace Go.Proofs.YtannhjclhdennaaDoor.Pure
open Go.RowKit Go.Proofs.YtannhjclhdennaaDoor.Pa
theorem MinimizeGrows : ∀ (a0_0 : ByteArray) (a0_1 : Int) (a1 : ByteArray), a0_0.size ≤ 140737488351232 → (Lit.int .i64 a0_1).wf = true → a1.size ≤ 140737488351232 → ∃ k, ddilaw31_MinimizeGrows.f k a0_0 a0_1 a1 = some true :=
  fun a b c h1 _ h3 => MinimizeGrows_pure a b c h1 h3
end Go.Proofs.YtannhjclhdennaaDoor.Pure
