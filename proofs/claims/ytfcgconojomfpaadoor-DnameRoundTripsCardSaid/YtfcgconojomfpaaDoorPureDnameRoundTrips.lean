/- The plain statement of the law DnameRoundTrips. -/
import Derived.Test.YtfcgconojomfpaaDoorDn2
import Derived.Test.YtfcgconojomfpaaDoorJoin
import Derived.Test.YtfcgconojomfpaaDoorPax30
namespace Go.Proofs.YtfcgconojomfpaaDoor.Pa
open Go.RowKit Go.Proofs.YtfcgconojomfpaaDoorW.PrintWords Go.Proofs.YtfcgconojomfpaaDoorW.PrintLast Go.Proofs.YtfcgconojomfpaaDoor.DN
set_option linter.unusedVariables false
set_option linter.unusedSimpArgs false

theorem join_good (l : List (List UInt8)) (h : good l) : dname_Join.f (l.map B) = some (B (nm l), 0) := by
  unfold dname_Join.f
  have hl := good_len h
  have hsz : (l.map B).all (fun x => decide (x.size ≤ 140737488351232)) = true := by
    rw [List.all_eq_true]
    intro x hx
    obtain ⟨y, hy, rfl⟩ := List.mem_map.1 hx
    have := lab_len' (labs_all h.1 y hy)
    rw [B_size]; exact decide_eq_true (by omega)
  rw [if_pos hsz, joinL, map_LB]
  by_cases h0 : l = []
  · subst h0; rfl
  · have h0' : l.map B ≠ [] := by simpa using h0
    have hall : (l.map B).all (fun x => labL (L x)) = true := by
      rw [List.all_eq_true]
      intro x hx
      obtain ⟨y, hy, rfl⟩ := List.mem_map.1 hx
      exact labs_all h.1 y hy
    have hn : nm l = txt l := by simp [nm, h0]
    have hv := valid_nm h
    rw [hn] at hv
    rw [if_neg h0', if_neg (by simp; omega), if_pos hall, hv, hn]; rfl
theorem lowC_low {c : UInt8} (h : isLow c = true) : lowC c = c := by
  unfold lowC
  rw [if_neg]
  rintro ⟨h1, h2⟩
  have h1 := UInt8.le_iff_toNat_le.1 h1
  have h2 := UInt8.le_iff_toNat_le.1 h2
  simp only [isLow, Bool.or_eq_true, Bool.and_eq_true, decide_eq_true_eq, beq_iff_eq, UInt8.le_iff_toNat_le, ← UInt8.toNat_inj] at h
  rcases h with ((h | h) | h) | h
  all_goals (simp at h h1 h2; omega)
theorem low_lab {x : List UInt8} (h : labL x = true) : x.map lowC = x := by
  unfold labL at h
  rw [Bool.or_eq_true] at h
  rcases h with h | h
  · unfold ordL at h
    simp only [Bool.and_eq_true, List.all_eq_true] at h
    conv => rhs; rw [← List.map_id x]
    exact List.map_congr_left (fun c hc => lowC_low (h.2 c hc))
  · rw [beq_iff_eq.1 h]; decide
theorem low_txt : ∀ l : List (List UInt8), (∀ x ∈ l, labL x = true) → (txt l).map lowC = txt l
  | [], _ => rfl
  | x :: l, h => by
    rw [txt_cons, List.map_append, List.map_cons, low_lab (h x (by simp)), low_txt l (fun y hy => h y (by simp [hy])), (lowC_46 46).2 rfl]
theorem low_valid {s : List UInt8} (h : validL s = true) : s.map lowC = s := by
  obtain ⟨hg, hn⟩ := valid_good h
  rw [← hn, nm]
  split
  · decide
  · exact low_txt _ (labs_all hg.1)
theorem last_valid {s : List UInt8} (h : validL s = true) : s.getLast? = some 46 := by
  obtain ⟨hg, hn⟩ := valid_good h
  rw [← hn, nm]
  split
  · rfl
  · rename_i h0; exact txt_last h0
theorem parse_valid (n o : ByteArray) (hn : validL (L n) = true) : parseS n o = if validL (L o) = true then (n, 0) else (⟨#[]⟩, 2) := by
  have hp : L n ≠ [] := List.length_pos_iff.1 (valid_pos hn)
  have hl := last_valid hn
  have h64 : L n ≠ [64] := by intro h; rw [h] at hl; exact absurd hl (by decide)
  have hT : parseT (L n) (L o) = L n := by unfold parseT; rw [if_neg h64, if_pos hl, low_valid hn]
  unfold parseS
  rw [hT]
  cases ho : validL (L o) with
  | false => simp
  | true => rw [if_pos ⟨hp, rfl, hn⟩, if_pos rfl, B_L]
theorem starT_txt {s : List UInt8} (h : validL s = true) : starT s = txt ([42] :: labelsL s) := by
  unfold starT
  by_cases h0 : s = [46]
  · subst h0; rw [labels_root]; rfl
  · obtain ⟨x, r, hl, he, hg⟩ := valid_txt h h0
    rw [if_neg h0, txt_cons, hl, txt_cons, ← he]; rfl
theorem star_labels {s : List UInt8} (h : validL s = true) (hs : validL (starT s) = true) : labelsL (starT s) = [42] :: labelsL s := by
  have e := starT_txt h
  have hg := (valid_good h).1
  have hno : ∀ x ∈ [42] :: labelsL s, ∀ c ∈ x, c ≠ 46 := by
    intro x hx
    rcases List.mem_cons.1 hx with h1 | h1
    · subst h1; simp
    · exact good_no hg x h1
  unfold labelsL
  rw [if_neg (by rw [e, txt_cons]; simp), if_pos hs, e, cuts_txt _ hno]
  rfl
theorem star_long {s : List UInt8} (h : validL s = true) (hh : (labelsL s).head? ≠ some [42]) (hs : validL (starT s) = false) : 254 < (txt ([42] :: labelsL s)).length := by
  have hg := (valid_good h).1
  have hlab : labs ([42] :: labelsL s) = true := by
    have : (labelsL s).all ordL = true := by
      cases hq : labelsL s with
      | nil => rfl
      | cons x r =>
        have h1 := hg.1
        rw [hq] at h1 hh
        simp only [labs, Bool.and_eq_true] at h1
        simp only [List.all_cons, Bool.and_eq_true]
        refine ⟨?_, h1.2⟩
        have := h1.1
        unfold labL at this
        rw [Bool.or_eq_true] at this
        rcases this with h2 | h2
        · exact h2
        · exact absurd (by rw [beq_iff_eq.1 h2]; rfl) hh
    simp only [labs, Bool.and_eq_true]
    exact ⟨by decide, this⟩
  apply Nat.lt_of_not_le
  intro hle
  have := valid_nm (l := [42] :: labelsL s) ⟨hlab, hle⟩
  rw [nm, if_neg (by simp), ← starT_txt h, hs] at this
  exact absurd this (by decide)
theorem length_valid {a : ByteArray} (h : validL (L a) = true) : lengthS a = ((txt (labelsL (L a))).length : Int) + 1 := by unfold lengthS; rw [if_pos h]
theorem rt_j2 (n : ByteArray) (hn : n.size ≤ 600) (v : validL (L n) = true) (k : Nat) (hk : 1500 ≤ k) : ddilaw01_DnameRoundTrips.j2 (k + 1) n ((labelsL (L n)).map B) false = some true := by
  have en := valid_good v
  simp only [ddilaw01_DnameRoundTrips.j2, Bool.false_eq_true, if_false]
  rw [star_f n (by omega) k (by omega), Option.bind_some]
  by_cases h1 : (labelsL (L n)).head? = some [42]
  · have hs : starS n = (⟨#[]⟩, false) := by unfold starS; rw [if_neg (fun h => h.2.1 h1)]
    rw [hs, if_neg (by decide)]
    cases hl : labelsL (L n) with
    | nil => rw [hl] at h1; simp at h1
    | cons x r =>
      rw [hl] at h1
      have e : x = [42] := by simpa using h1
      have e0 : rdOf ByteArray.empty ((x :: r).map B) 0 = B x := rfl
      rw [if_pos (by simp), if_pos (by simp), e0, toList_L, L_B, if_pos e, awake_f k (by omega)]
      rfl
  · cases h2 : validL (starT (L n)) with
    | true =>
      have hs : starS n = (B (starT (L n)), true) := by unfold starS; rw [if_pos ⟨v, h1, h2⟩]
      have hlab := star_labels v h2
      have hsz : (B (starT (L n))).size ≤ 254 := by rw [B_size]; exact valid_len h2
      have hpar : parentS (B (starT (L n))) = (n, true) := by
        unfold parentS; rw [L_B, hlab, if_neg (by simp), List.drop_succ_cons, List.drop_zero, en.2, B_L]
      have hlen : lengthS (B (starT (L n))) = wrap64 (lengthS n + 2) := by
        have hb := valid_len v
        have hb2 := en.1.2
        rw [length_valid (by rw [L_B]; exact h2), length_valid v, L_B, hlab, txt_cons, wrap_id (by omega) (by omega)]
        simp; omega
      rw [hs, if_pos rfl]
      dsimp only
      rw [parent_f _ (by omega) k (by omega), Option.bind_some, hpar, if_pos rfl, if_pos rfl, length_f _ (by omega) k (by omega), Option.bind_some, length_f n (by omega) k (by omega), Option.bind_some, if_pos hlen, awake_f k (by omega)]
      rfl
    | false =>
      have hs : starS n = (⟨#[]⟩, false) := by unfold starS; rw [if_neg (by rw [h2]; simp)]
      have hlong := star_long v h1 h2
      rw [txt_cons] at hlong
      have hgt : lengthS n > 253 := by rw [length_valid v]; simp at hlong; omega
      have hend : ((dname_Length.f k n).bind fun t426 => (if t426 > 253 then ((ddilaw01_awake.f k).bind fun t427 => (some t427)) else (some false))) = some true := by
        rw [length_f n (by omega) k (by omega), Option.bind_some, if_pos hgt, awake_f k (by omega)]; rfl
      rw [hs, if_neg (by decide)]
      cases hl : labelsL (L n) with
      | nil => rw [if_neg (by simp)]; exact hend
      | cons x r =>
        rw [hl] at h1
        have e0 : rdOf ByteArray.empty ((x :: r).map B) 0 = B x := rfl
        rw [if_pos (by simp), if_pos (by simp), e0, toList_L, L_B, if_neg (by simpa using h1)]
        exact hend
theorem rt_j1 (n : ByteArray) (hn : n.size ≤ 600) (v : validL (L n) = true) (k : Nat) (hk : 1500 ≤ k) : ddilaw01_DnameRoundTrips.j1 (k + 1 + 1) n ((labelsL (L n)).map B) false = some true := by
  have en := valid_good v
  have ll := labels_len (L n)
  simp only [ddilaw01_DnameRoundTrips.j1, Bool.false_eq_true, if_false]
  rw [parent_f n (by omega) _ (by omega), Option.bind_some]
  cases hl : labelsL (L n) with
  | nil =>
    have hp : parentS n = (⟨#[]⟩, false) := by unfold parentS; rw [if_pos hl]
    have := rt_j2 n hn v k hk
    rw [hl] at this
    rw [hp, if_neg (by simp), if_neg (by decide)]
    exact this
  | cons x r =>
    have hp : parentS n = (B (nm r), true) := by unfold parentS; rw [hl, if_neg (by simp), List.drop_succ_cons, List.drop_zero]
    have hg := en.1
    rw [hl] at hg ll
    have hgr := good_tail hg
    have hz := nm_len hgr
    have vr : validL (L (B (nm r))) = true := by rw [L_B]; exact valid_nm hgr
    have lr : labelsL (L (B (nm r))) = r := by rw [L_B, labels_nm hgr]
    have hu : underL (L n) (L (B (nm r))) = true := by
      unfold underL; rw [v, vr, lr, hl, Bool.true_and, Bool.true_and, List.isSuffixOf_iff_suffix]; exact ⟨[x], rfl⟩
    have e0 : rdOf ByteArray.empty ((x :: r).map B) 0 = B x := rfl
    have hb2 := hg.2
    rw [txt_cons, List.length_append, List.length_cons] at hb2
    have hlen : lengthS (B (nm r)) = wrap64 (wrap64 (lengthS n - 1) - ((B x).size : Int)) := by
      rw [length_valid vr, length_valid v, lr, hl, txt_cons, List.length_append, List.length_cons, B_size,
        show wrap64 (((x.length + ((txt r).length + 1) : Nat) : Int) + 1 - 1) = ((x.length + ((txt r).length + 1) : Nat) : Int) by rw [wrap_id (by omega) (by omega)]; omega, wrap_id (by omega) (by omega)]
      omega
    have := rt_j2 n hn v k hk
    rw [hl] at this
    rw [hp, if_pos (by simp), if_pos rfl]
    dsimp only
    rw [labels_f _ (by omega) _ (by omega), Option.bind_some, lr, List.length_map, List.length_map,
      if_pos (by rw [List.length_cons] at ll ⊢; rw [wrap_id (by omega) (by omega)]; omega), length_f _ (by omega) _ (by omega), Option.bind_some, length_f n (by omega) _ (by omega), Option.bind_some,
      if_pos (by simp), e0, if_pos hlen, under_f n _ (by omega) (by omega) _ (by omega), hu, Option.bind_some]
    exact this
theorem DnameRoundTrips_go (n o : ByteArray) (hn : n.size ≤ 600) (ho : o.size ≤ 600) : ((dname_Valid.f 2000 n).bind fun t392 => (if t392 = true then ((dname_Labels.f 2000 n).bind fun t398 => ((dname_Join.f t398).bind fun bt401 => (if bt401.1.toList = n.toList then (ddilaw01_DnameRoundTrips.j0 2000 n o t398 (bt401.2 != 0)) else (ddilaw01_DnameRoundTrips.j0 2000 n o t398 true)))) else ((dname_Labels.f 2000 n).bind fun t393 => (if (t393.length : Int) = 0 then ((dname_Length.f 2000 n).bind fun t396 => (if t396 = 0 then ((ddilaw01_awake.f 2000).bind fun t397 => (some t397)) else (some false))) else (some false))))) = some true := by
  rw [valid_f n (by omega) _ (by omega), Option.bind_some]
  cases v : validL (L n) with
  | false =>
    rw [if_neg (by decide), labels_f n (by omega) _ (by omega), Option.bind_some, invalid_labels v, if_pos (by rfl), length_f n (by omega) _ (by omega), Option.bind_some, if_pos (by unfold lengthS; rw [v]; rfl), awake_f _ (by omega)]
    rfl
  | true =>
    have en := valid_good v
    rw [if_pos rfl, labels_f n (by omega) _ (by omega), Option.bind_some, join_good _ en.1, Option.bind_some, en.2, B_L, if_pos rfl, show ((0 : Int) != 0) = false from rfl]
    simp only [ddilaw01_DnameRoundTrips.j0, Bool.false_eq_true, if_false]
    rw [parse_f n o (by omega) (by omega) _ (by omega), Option.bind_some, parse_valid n o v, valid_f o (by omega) _ (by omega), Option.bind_some]
    cases vo : validL (L o) with
    | true =>
      rw [if_pos rfl, if_pos rfl, if_pos rfl, bne_self_eq_false]
      exact rt_j1 n hn v 1997 (by omega)
    | false =>
      simp only [Bool.false_eq_true, if_false, show ¬ ((2 : Int) = 0) by decide]
      exact rt_j1 n hn v 1997 (by omega)
theorem DnameRoundTrips_pure (a0 a1 : ByteArray) (h0 : a0.size ≤ 140737488351232) (h1 : a1.size ≤ 140737488351232) : ∃ k, ddilaw01_DnameRoundTrips.f k a0 a1 = some true := by
  refine ⟨2000, ?_⟩
  unfold ddilaw01_DnameRoundTrips.f
  rw [cut_f a0 h0, cut_f a1 h1, Option.bind_some, Option.bind_some]
  exact DnameRoundTrips_go _ _ (cut_size a0) (cut_size a1)
end Go.Proofs.YtfcgconojomfpaaDoor.Pa
namespace Go.Proofs.YtfcgconojomfpaaDoor.Pure
open Go.RowKit Go.Proofs.YtfcgconojomfpaaDoor.Pa
theorem DnameRoundTrips : ∀ (a0 : ByteArray) (a1 : ByteArray), a0.size ≤ 140737488351232 → a1.size ≤ 140737488351232 → ∃ k, ddilaw01_DnameRoundTrips.f k a0 a1 = some true := fun a b h0 h1 => DnameRoundTrips_pure a b h0 h1
end Go.Proofs.YtfcgconojomfpaaDoor.Pure
