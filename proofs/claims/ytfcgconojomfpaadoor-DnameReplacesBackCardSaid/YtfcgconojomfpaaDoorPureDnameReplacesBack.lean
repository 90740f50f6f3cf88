/- The plain statement of the law DnameReplacesBack. -/
import Derived.Test.YtfcgconojomfpaaDoorDn2
import Derived.Test.YtfcgconojomfpaaDoorPax27
namespace Go.Proofs.YtfcgconojomfpaaDoor.Pa
open Go.RowKit Go.Proofs.YtfcgconojomfpaaDoorW.PrintWords Go.Proofs.YtfcgconojomfpaaDoorW.PrintLast Go.Proofs.YtfcgconojomfpaaDoor.DN
set_option linter.unusedVariables false
set_option linter.unusedSimpArgs false
theorem labs_take' {p q : List (List UInt8)} (h : labs (p ++ q) = true) : labs p = true := by
  cases p with
  | nil => rfl
  | cons x p =>
    simp only [List.cons_append, labs, List.all_append, Bool.and_eq_true] at h ⊢
    exact ⟨h.1, h.2.1⟩
theorem good_take' {p q : List (List UInt8)} (h : good (p ++ q)) : good p := ⟨labs_take' h.1, by have := h.2; rw [txt_append, List.length_append] at this; omega⟩
theorem tail_no_star {p q : List (List UInt8)} (h : labs (p ++ q) = true) (hp : p ≠ []) : q.head? ≠ some [42] := by
  cases p with
  | nil => exact absurd rfl hp
  | cons x p =>
    simp only [List.cons_append, labs, List.all_append, Bool.and_eq_true] at h
    cases q with
    | nil => simp
    | cons y q =>
      intro hy
      have e : y = [42] := by simpa using hy
      subst e
      have := h.2.2
      simp only [List.all_cons, Bool.and_eq_true] at this
      exact absurd this.1 (by decide)
theorem replace_err (n f t : ByteArray) (h : (replaceS n f t).2 ≠ 0) : (replaceS n f t).1 = ⟨#[]⟩ := by
  unfold replaceS at *
  split at h
  · split at h
    · split at h
      · exact absurd rfl h
      · rename_i h1 h2 h3; rw [if_pos h1, if_pos h2, if_neg h3]
    · rename_i h1 h2; rw [if_pos h1, if_neg h2]
  · rename_i h1; rw [if_neg h1]
/-- what was replaced -/
theorem replace_ok (n f t : ByteArray) (h : (replaceS n f t).2 = 0) :
    ∃ p : List (List UInt8), p ≠ [] ∧ p ++ labelsL (L f) = labelsL (L n) ∧ validL (L n) = true ∧ validL (L f) = true ∧ validL (L t) = true ∧ good (p ++ labelsL (L t)) ∧ (replaceS n f t).1 = B (nm (p ++ labelsL (L t))) := by
  have h1 : validL (L n) = true ∧ validL (L f) = true ∧ validL (L t) = true ∧ (labelsL (L t)).head? ≠ some [42] := Decidable.byContradiction (fun h1 => by
    unfold replaceS at h; rw [if_neg h1] at h; exact absurd h (by decide))
  have h2 : labelsL (L f) <:+ labelsL (L n) ∧ (labelsL (L f)).length < (labelsL (L n)).length := Decidable.byContradiction (fun h2 => by
    unfold replaceS at h; rw [if_pos h1, if_neg h2] at h; exact absurd h (by decide))
  have h3 : (txt (repL (labelsL (L n)) (labelsL (L f)) (labelsL (L t)))).length ≤ 254 := Decidable.byContradiction (fun h3 => by
    unfold replaceS at h; rw [if_pos h1, if_pos h2, if_neg h3] at h; exact absurd h (by decide))
  have hst := suffix_take h2.1
  have hpn : (labelsL (L n)).take ((labelsL (L n)).length - (labelsL (L f)).length) ≠ [] := by intro h; have := congrArg List.length h; simp at this; omega
  have hgn := (valid_good h1.1).1
  have hp : good ((labelsL (L n)).take ((labelsL (L n)).length - (labelsL (L f)).length)) := by rw [← hst] at hgn; exact good_take' hgn
  refine ⟨_, hpn, hst, h1.1, h1.2.1, h1.2.2.1, good_append hp hpn (valid_good h1.2.2.1).1.1 h1.2.2.2 h3, ?_⟩
  unfold replaceS
  rw [if_pos h1, if_pos h2, if_pos h3, nm, if_neg (by simp [hpn])]
  rfl
theorem replace_back (n f t : ByteArray) (h : (replaceS n f t).2 = 0) : replaceS (replaceS n f t).1 t f = (n, 0) := by
  obtain ⟨p, hp, hn, vn, vf, vt, hg, he⟩ := replace_ok n f t h
  have en := valid_good vn
  have hl : labelsL (L (B (nm (p ++ labelsL (L t))))) = p ++ labelsL (L t) := by rw [L_B, labels_nm hg]
  have hrep : repL (p ++ labelsL (L t)) (labelsL (L t)) (labelsL (L f)) = labelsL (L n) := by
    unfold repL; rw [List.length_append, Nat.add_sub_cancel, List.take_left', hn]; rfl
  have hgn := en.1
  rw [← hn] at hgn
  have hnn : labelsL (L n) ≠ [] := by rw [← hn]; simp [hp]
  have htx : txt (labelsL (L n)) = L n := by
    have := en.2; rw [nm, if_neg hnn] at this; exact this
  rw [he]
  unfold replaceS
  rw [hl, if_pos ⟨by rw [L_B]; exact valid_nm hg, vt, vf, tail_no_star hgn.1 hp⟩, if_pos ⟨⟨p, rfl⟩, by have := List.length_pos_iff.2 hp; rw [List.length_append]; omega⟩, hrep, if_pos en.1.2, htx, B_L]
theorem DnameReplacesBack_go (n f t : ByteArray) (hn : n.size ≤ 600) (hf : f.size ≤ 600) (ht : t.size ≤ 600) : ((dname_Replace.f 2000 n f t).bind fun bt352 => (if bt352.2 = 0 then ((dname_Under.f 2000 bt352.1 t).bind fun t355 => (if t355 = true then ((dname_Labels.f 2000 bt352.1).bind fun t356 => ((dname_Labels.f 2000 t).bind fun t359 => ((dname_Labels.f 2000 n).bind fun t362 => ((dname_Labels.f 2000 f).bind fun t365 => (ddilaw01_DnameReplacesBack.j0 2000 n f t bt352.1 ((wrap64 ((t356.length : Int) - (t359.length : Int))) != (wrap64 ((t362.length : Int) - (t365.length : Int))))))))) else (ddilaw01_DnameReplacesBack.j0 2000 n f t bt352.1 true))) else (if bt352.1.toList = ([] : List UInt8) then ((ddilaw01_awake.f 2000).bind fun t354 => (some t354)) else (some false)))) = some true := by
  rw [replace_f n f t (by omega) (by omega) (by omega) _ (by omega), Option.bind_some]
  by_cases h : (replaceS n f t).2 = 0
  · obtain ⟨p, hp, hn', vn, vf, vt, hg, he⟩ := replace_ok n f t h
    have hz : (replaceS n f t).1.size ≤ 254 := by rw [he]; exact nm_len hg
    have hl : labelsL (L (replaceS n f t).1) = p ++ labelsL (L t) := by rw [he, L_B, labels_nm hg]
    have hu : underL (L (replaceS n f t).1) (L t) = true := by
      unfold underL
      rw [hl, vt, show validL (L (replaceS n f t).1) = true by rw [he, L_B]; exact valid_nm hg]
      simp [List.isSuffixOf_iff_suffix]
    have l1 := good_len hg; rw [List.length_append] at l1
    have l2 := labels_len (L n); have l3 := congrArg List.length hn'; rw [List.length_append] at l3
    rw [if_pos h, under_f _ t (by omega) (by omega) _ (by omega), hu, Option.bind_some, if_pos rfl, labels_f _ (by omega) _ (by omega), labels_f t (by omega) _ (by omega), labels_f n (by omega) _ (by omega), labels_f f (by omega) _ (by omega),
      Option.bind_some, Option.bind_some, Option.bind_some, Option.bind_some, hl, List.length_map, List.length_map, List.length_map, List.length_map, List.length_append,
      show wrap64 (((p.length + (labelsL (L t)).length : Nat) : Int) - ((labelsL (L t)).length : Int)) = (p.length : Int) by rw [wrap_id (by omega) (by omega)]; omega,
      show wrap64 (((labelsL (L n)).length : Int) - ((labelsL (L f)).length : Int)) = (p.length : Int) by rw [wrap_id (by omega) (by omega)]; omega, bne_self_eq_false]
    simp only [ddilaw01_DnameReplacesBack.j0, Bool.false_eq_true, if_false]
    rw [replace_f _ t f (by omega) (by omega) (by omega) _ (by omega), Option.bind_some, replace_back n f t h, if_pos rfl, if_pos rfl, awake_f _ (by omega)]
    rfl
  · rw [if_neg h, replace_err n f t h, toList_L, if_pos rfl, awake_f _ (by omega)]
    rfl
theorem DnameReplacesBack_pure (a0 a1 a2 : ByteArray) (h0 : a0.size ≤ 140737488351232) (h1 : a1.size ≤ 140737488351232) (h2 : a2.size ≤ 140737488351232) : ∃ k, ddilaw01_DnameReplacesBack.f k a0 a1 a2 = some true := by
  refine ⟨2000, ?_⟩
  unfold ddilaw01_DnameReplacesBack.f
  rw [cut_f a0 h0, cut_f a1 h1, cut_f a2 h2, Option.bind_some, Option.bind_some, Option.bind_some]
  exact DnameReplacesBack_go _ _ _ (cut_size a0) (cut_size a1) (cut_size a2)
end Go.Proofs.YtfcgconojomfpaaDoor.Pa
namespace Go.Proofs.YtfcgconojomfpaaDoor.Pure
open Go.RowKit Go.Proofs.YtfcgconojomfpaaDoor.Pa
theorem DnameReplacesBack : ∀ (a0 : ByteArray) (a1 : ByteArray) (a2 : ByteArray), a0.size ≤ 140737488351232 → a1.size ≤ 140737488351232 → a2.size ≤ 140737488351232 → ∃ k, ddilaw01_DnameReplacesBack.f k a0 a1 a2 = some true := fun a b c h0 h1 h2 => DnameReplacesBack_pure a b c h0 h1 h2
end Go.Proofs.YtfcgconojomfpaaDoor.Pure
