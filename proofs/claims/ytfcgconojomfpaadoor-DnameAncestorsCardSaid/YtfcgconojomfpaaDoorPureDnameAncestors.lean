/- The plain statement of the law DnameAncestors. -/
import Derived.Test.YtfcgconojomfpaaDoorDn2
import Derived.Test.YtfcgconojomfpaaDoorPax26
namespace Go.Proofs.YtfcgconojomfpaaDoor.Pa
open Go.RowKit Go.Proofs.YtfcgconojomfpaaDoorW.PrintWords Go.Proofs.YtfcgconojomfpaaDoorW.PrintLast Go.Proofs.YtfcgconojomfpaaDoor.DN
set_option linter.unusedVariables false
set_option linter.unusedSimpArgs false
theorem under_nm {a : ByteArray} (ha : validL (L a) = true) {l : List (List UInt8)} (hl : good l) : underL (L a) (L (B (nm l))) = List.isSuffixOf l (labelsL (L a)) := by
  unfold underL
  rw [ha, L_B, valid_nm hl, labels_nm hl]; rfl
theorem anc_l0 (a b : ByteArray) (va : validL (L a) = true) (vb : validL (L b) = true) : ∀ d i k : Nat, i + d = (labelsL (L a)).length - sameN (labelsL (L a)) (labelsL (L b)) → d + 1500 ≤ k →
    ddilaw01_DnameAncestors.l0 k b (commonS a b) (B (nm ((labelsL (L a)).drop i))) i = some true := by
  have en := valid_good va
  have hcs : commonS a b = B (nm (commonL (labelsL (L a)) (labelsL (L b)))) := by unfold commonS; rw [if_pos ⟨va, vb⟩]
  have hle := sameN_le (labelsL (L a)) (labelsL (L b))
  have hl := labels_len (L a)
  have hbs : b.size ≤ 254 := by rw [← L_len]; exact valid_len vb
  intro d
  induction d with
  | zero =>
    intro i k hd hk
    obtain ⟨k, rfl⟩ : ∃ j, k = j + 1 := ⟨k - 1, by omega⟩
    simp only [ddilaw01_DnameAncestors.l0]
    rw [if_pos (by omega), hcs, if_pos (by rw [show i = (labelsL (L a)).length - sameN (labelsL (L a)) (labelsL (L b)) by omega]; rfl), awake_f k (by omega)]
    rfl
  | succ d ih =>
    intro i k hd hk
    obtain ⟨k, rfl⟩ : ∃ j, k = j + 1 := ⟨k - 1, by omega⟩
    have hg := good_drop en.1 i
    have hz := nm_len hg
    have hne : ¬ ((B (nm ((labelsL (L a)).drop i))).toList = (commonS a b).toList) := by
      rw [toList_L, toList_L, hcs, L_B, L_B]
      intro h
      have := congrArg List.length (nm_inj hg (good_drop en.1 _) h)
      simp at this; omega
    have hu : underL (L b) (L (B (nm ((labelsL (L a)).drop i)))) = false := by
      rw [under_nm vb hg, Bool.eq_false_iff]
      intro h
      have := (suffix_common i (by omega)).1 (List.isSuffixOf_iff_suffix.1 h)
      omega
    simp only [ddilaw01_DnameAncestors.l0]
    rw [if_pos (by omega), if_neg hne, under_f _ _ (by omega) (by omega) k (by omega), hu, Option.bind_some, if_neg (by decide), parent_f _ (by omega) k (by omega), Option.bind_some,
      parent_nm hg (by intro h; have := congrArg List.length h; simp at this; omega), List.drop_drop, show wrap64 ((i : Int) + 1) = ((i + 1 : Nat) : Int) by rw [wrap_id (by omega) (by omega)]; omega]
    exact ih (i + 1) k (by omega) (by omega)
theorem common_eq (a b : ByteArray) : commonS a b = commonS b a := by
  unfold commonS
  by_cases h : validL (L a) = true ∧ validL (L b) = true
  · rw [if_pos h, if_pos ⟨h.2, h.1⟩, commonL_comm]
  · rw [if_neg h, if_neg (fun h' => h ⟨h'.2, h'.1⟩)]
theorem DnameAncestors_go (a b : ByteArray) (ha : a.size ≤ 600) (hb : b.size ≤ 600) : ((dname_Common.f 2002 a b).bind fun t336 => ((dname_Valid.f 2002 a).bind fun t337 => (if t337 = true then ((dname_Valid.f 2002 b).bind fun t338 => (ddilaw01_DnameAncestors.j0 2002 a b t336 (!t338))) else (ddilaw01_DnameAncestors.j0 2002 a b t336 true)))) = some true := by
  rw [common_f a b (by omega) (by omega) _ (by omega), Option.bind_some, valid_f a (by omega) _ (by omega), Option.bind_some]
  have hbad : (¬ (validL (L a) = true ∧ validL (L b) = true)) → ddilaw01_DnameAncestors.j0 2002 a b (commonS a b) true = some true := by
    intro h
    have hu : underL (L a) (L b) = false := by
      rw [Bool.eq_false_iff]; intro hh; unfold underL at hh; simp only [Bool.and_eq_true] at hh; exact h ⟨hh.1.1, hh.1.2⟩
    simp only [ddilaw01_DnameAncestors.j0, if_true]
    rw [toList_L, show L (commonS a b) = [] by unfold commonS; rw [if_neg h], if_pos rfl, under_f a b (by omega) (by omega) _ (by omega), hu, Option.bind_some, if_neg (by decide), awake_f _ (by omega)]
    rfl
  cases va : validL (L a) with
  | false => rw [if_neg (by decide)]; exact hbad (by rw [va]; simp)
  | true =>
    rw [if_pos rfl, valid_f b (by omega) _ (by omega), Option.bind_some]
    cases vb : validL (L b) with
    | false => exact hbad (by rw [vb]; simp)
    | true =>
      have en := valid_good va; have eb := valid_good vb
      have hcs : commonS a b = B (nm (commonL (labelsL (L a)) (labelsL (L b)))) := by unfold commonS; rw [if_pos ⟨va, vb⟩]
      have hgc : good (commonL (labelsL (L a)) (labelsL (L b))) := good_drop en.1 _
      have hz := nm_len hgc
      have hsuf := commonL_suffix (labelsL (L a)) (labelsL (L b))
      have hle := sameN_le (labelsL (L a)) (labelsL (L b))
      have u1 : underL (L a) (L (commonS a b)) = true := by rw [hcs, under_nm va hgc]; exact List.isSuffixOf_iff_suffix.2 hsuf.1
      have u2 : underL (L b) (L (commonS a b)) = true := by rw [hcs, under_nm vb hgc]; exact List.isSuffixOf_iff_suffix.2 hsuf.2
      have hlast : (underL (L a) (L b) != ((commonS a b).toList == b.toList)) = false := by
        rw [bne_eq_false_iff_eq, Bool.eq_iff_iff, beq_iff_eq, toList_L, toList_L, hcs, L_B, underL, va, vb, Bool.true_and, Bool.true_and, List.isSuffixOf_iff_suffix, ← sameN_suffix]
        constructor
        · intro h
          unfold commonL
          rw [sameN_drop, h, Nat.sub_self, List.drop_zero]
          exact eb.2
        · intro h
          have h2 : commonL (labelsL (L a)) (labelsL (L b)) = labelsL (L b) := nm_inj hgc eb.1 (h.trans eb.2.symm)
          have := congrArg List.length h2
          unfold commonL at this
          rw [List.length_drop] at this; omega
      simp only [ddilaw01_DnameAncestors.j0, ddilaw01_DnameAncestors.j1, Bool.not_true, Bool.false_eq_true, if_false]
      rw [under_f a (commonS a b) (by omega) (by rw [hcs]; omega) _ (by omega), u1, Option.bind_some, if_pos rfl, under_f b (commonS a b) (by omega) (by rw [hcs]; omega) _ (by omega), u2, Option.bind_some, if_pos rfl,
        common_f b a (by omega) (by omega) _ (by omega), Option.bind_some, common_eq b a, if_pos rfl, under_f a b (by omega) (by omega) _ (by omega), Option.bind_some, hlast, if_neg (by decide)]
      have := anc_l0 a b va vb ((labelsL (L a)).length - sameN (labelsL (L a)) (labelsL (L b))) 0 2000 (by omega) (by have := labels_len (L a); omega)
      rw [List.drop_zero, en.2, B_L] at this
      exact this
theorem DnameAncestors_pure (a0 a1 : ByteArray) (h0 : a0.size ≤ 140737488351232) (h1 : a1.size ≤ 140737488351232) : ∃ k, ddilaw01_DnameAncestors.f k a0 a1 = some true := by
  refine ⟨2002, ?_⟩
  unfold ddilaw01_DnameAncestors.f
  rw [cut_f a0 h0, cut_f a1 h1, Option.bind_some, Option.bind_some]
  exact DnameAncestors_go _ _ (cut_size a0) (cut_size a1)
end Go.Proofs.YtfcgconojomfpaaDoor.Pa
namespace Go.Proofs.YtfcgconojomfpaaDoor.Pure
open Go.RowKit Go.Proofs.YtfcgconojomfpaaDoor.Pa
theorem DnameAncestors : ∀ (a0 : ByteArray) (a1 : ByteArray), a0.size ≤ 140737488351232 → a1.size ≤ 140737488351232 → ∃ k, ddilaw01_DnameAncestors.f k a0 a1 = some true := fun a b h0 h1 => DnameAncestors_pure a b h0 h1
end Go.Proofs.YtfcgconojomfpaaDoor.Pure
