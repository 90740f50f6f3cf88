/- The plain statement of the law DnameOrders. -/
import Derived.Test.YtfcgconojomfpaaDoorDn2
import Derived.Test.YtfcgconojomfpaaDoorPax31
namespace Go.Proofs.YtfcgconojomfpaaDoor.Pa
open Go.RowKit Go.Proofs.YtfcgconojomfpaaDoorW.PrintWords Go.Proofs.YtfcgconojomfpaaDoorW.PrintLast Go.Proofs.YtfcgconojomfpaaDoor.DN
set_option linter.unusedVariables false
set_option linter.unusedSimpArgs false

theorem cmpS_neg (a b : ByteArray) : compareS b a = - compareS a b := by
  unfold compareS
  cases validL (L a) <;> cases validL (L b) <;> simp
  · exact cmp_neg _ _
  · exact cmpR_neg _ _
theorem cmpS_zero (a b : ByteArray) : compareS a b = 0 ↔ L a = L b := by
  unfold compareS
  cases va : validL (L a) with
  | false =>
    cases vb : validL (L b) with
    | false => simpa using cmp_zero (L a) (L b)
    | true => exact ⟨fun h => by simp at h, fun h => by rw [h, vb] at va; exact absurd va (by decide)⟩
  | true =>
    cases vb : validL (L b) with
    | false => exact ⟨fun h => by simp at h, fun h => by rw [h, vb] at va; exact absurd va (by decide)⟩
    | true =>
      simp only [if_true]
      rw [cmpR_zero]
      constructor
      · intro h
        have := List.reverse_inj.1 h
        rw [← (valid_good va).2, ← (valid_good vb).2, this]
      · intro h; rw [h]
theorem cmpS_range (a b : ByteArray) : compareS a b = -1 ∨ compareS a b = 0 ∨ compareS a b = 1 := by
  unfold compareS
  cases validL (L a) <;> cases validL (L b) <;> simp
  · exact cmp_range _ _
  · exact cmpR_range _ _
theorem cmpS_trans (a b c : ByteArray) (h1 : compareS a b ≤ 0) (h2 : compareS b c ≤ 0) : compareS a c ≤ 0 := by
  unfold compareS at *
  cases va : validL (L a) <;> cases vb : validL (L b) <;> cases vc : validL (L c) <;> simp [va, vb, vc] at h1 h2 ⊢
  · exact (cmp_trans _ _ _ h1 h2).1
  · exact (cmpR_trans _ _ _ h1 h2).1
theorem under_le (a b : ByteArray) (h : underL (L b) (L a) = true) : compareS a b ≤ 0 := by
  unfold underL at h
  simp only [Bool.and_eq_true, List.isSuffixOf_iff_suffix] at h
  unfold compareS
  rw [if_pos h.1.2, if_pos h.1.1]
  exact cmpR_prefix _ _ (List.reverse_prefix.2 h.2)
theorem under_between (a b c : ByteArray) (h : underL (L c) (L a) = true) (h1 : compareS a b ≤ 0) (h2 : compareS b c ≤ 0) : underL (L b) (L a) = true := by
  unfold underL at h ⊢
  simp only [Bool.and_eq_true, List.isSuffixOf_iff_suffix] at h ⊢
  unfold compareS at h1 h2
  cases vb : validL (L b) with
  | false => rw [vb, if_neg (by decide), if_pos h.1.1] at h2; exact absurd h2 (by decide)
  | true =>
    rw [if_pos h.1.2, if_pos vb] at h1
    rw [if_pos vb, if_pos h.1.1] at h2
    exact ⟨⟨rfl, h.1.2⟩, List.reverse_prefix.1 (cmpR_between _ _ _ (List.reverse_prefix.2 h.2) h1 h2)⟩
theorem ord_j0 (a b c : ByteArray) (ha : a.size ≤ 600) (hb : b.size ≤ 600) (hc : c.size ≤ 600) (x y : Int) (hx : x = compareS a b) (hy : y = compareS b c) (k : Nat) (hk : 1500 ≤ k) : ddilaw01_DnameOrders.j0 (k + 1) a b c x y false = some true := by
  have l1 : underL (L b) (L a) = true → x ≤ 0 := fun h => hx ▸ under_le a b h
  have l2 : underL (L c) (L a) = true → x ≤ 0 → y ≤ 0 → underL (L b) (L a) = true := fun h h1 h2 => under_between a b c h (hx ▸ h1) (hy ▸ h2)
  simp only [ddilaw01_DnameOrders.j0, Bool.false_eq_true, if_false]
  simp only [under_f b a (by omega) (by omega) k (by omega), under_f c a (by omega) (by omega) k (by omega), awake_f k (by omega), Option.bind_some]
  cases h1 : underL (L b) (L a) with
  | true =>
    have := l1 h1
    rw [if_pos rfl, if_neg (by omega)]
    cases underL (L c) (L a) <;> simp
  | false =>
    rw [if_neg (by decide)]
    cases h2 : underL (L c) (L a) with
    | false => simp
    | true =>
      rw [if_pos rfl]
      by_cases h3 : x ≤ 0
      · rw [if_pos h3]
        by_cases h4 : y ≤ 0
        · exact absurd (l2 h2 h3 h4) (by rw [h1]; decide)
        · rw [if_neg h4]
      · rw [if_neg h3]
theorem ord_ifs (g : Bool → Option Bool) (x y z : Int) (e : Prop) [Decidable e] (h0 : x = 0 ↔ e) (h1 : x ≤ 0 → y ≤ 0 → z ≤ 0) (h2 : x ≥ 0 → y ≥ 0 → z ≥ 0) :
    (if e then (if x = 0 then (if x ≤ 0 then (if y ≤ 0 then (if z > 0 then (g true) else (if x ≥ 0 then (if y ≥ 0 then (g (decide (z < 0))) else (g false)) else (g false))) else (if x ≥ 0 then (if y ≥ 0 then (g (decide (z < 0))) else (g false)) else (g false))) else (if x ≥ 0 then (if y ≥ 0 then (g (decide (z < 0))) else (g false)) else (g false))) else (g true)) else (if x = 0 then (g true) else (if x ≤ 0 then (if y ≤ 0 then (if z > 0 then (g true) else (if x ≥ 0 then (if y ≥ 0 then (g (decide (z < 0))) else (g false)) else (g false))) else (if x ≥ 0 then (if y ≥ 0 then (g (decide (z < 0))) else (g false)) else (g false))) else (if x ≥ 0 then (if y ≥ 0 then (g (decide (z < 0))) else (g false)) else (g false))))) = g false := by
  have h3 : x ≥ 0 → y ≥ 0 → decide (z < 0) = false := fun a b => decide_eq_false (by have := h2 a b; omega)
  by_cases he : e
  · have hx : x = 0 := h0.2 he
    rw [if_pos he, if_pos hx, if_pos (by omega)]
    repeat' split
    all_goals first | rfl | (rw [h3 (by omega) (by omega)]) | (exfalso; have := h1 (by omega) (by omega); omega)
  · have hx : ¬ x = 0 := fun h => he (h0.1 h)
    rw [if_neg he, if_neg hx]
    repeat' split
    all_goals first | rfl | (rw [h3 (by omega) (by omega)]) | (exfalso; have := h1 (by omega) (by omega); omega)
theorem DnameOrders_pure (a0 a1 a2 : ByteArray) (h0 : a0.size ≤ 140737488351232) (h1 : a1.size ≤ 140737488351232) (h2 : a2.size ≤ 140737488351232) : ∃ k, ddilaw01_DnameOrders.f k a0 a1 a2 = some true := by
  refine ⟨2001, ?_⟩
  unfold ddilaw01_DnameOrders.f
  have s0 := cut_size a0; have s1 := cut_size a1; have s2 := cut_size a2
  rw [cut_f a0 h0, cut_f a1 h1, cut_f a2 h2, Option.bind_some, Option.bind_some, Option.bind_some]
  generalize cutS a0 = a at *; generalize cutS a1 = b at *; generalize cutS a2 = c at *
  have hr := cmpS_range a b
  have hn := cmpS_neg a b
  rw [compare_f a b (by omega) (by omega) _ (by omega), compare_f b c (by omega) (by omega) _ (by omega), compare_f a c (by omega) (by omega) _ (by omega), compare_f b a (by omega) (by omega) _ (by omega),
    Option.bind_some, Option.bind_some, Option.bind_some, Option.bind_some, if_pos (by rw [hn, Int.neg_neg, wrap_id (by omega) (by omega)]), toList_L, toList_L]
  refine (ord_ifs (fun q => ddilaw01_DnameOrders.j0 2001 a b c (compareS a b) (compareS b c) q) (compareS a b) (compareS b c) (compareS a c) (L a = L b) (cmpS_zero a b) (cmpS_trans a b c) ?_).trans ?_
  · intro h3 h4
    have := cmpS_trans c b a (by rw [cmpS_neg b c]; omega) (by rw [cmpS_neg a b]; omega)
    rw [cmpS_neg a c] at this; omega
  · exact ord_j0 a b c s0 s1 s2 _ _ rfl rfl 2000 (by omega)
end Go.Proofs.YtfcgconojomfpaaDoor.Pa
namespace Go.Proofs.YtfcgconojomfpaaDoor.Pure
open Go.RowKit Go.Proofs.YtfcgconojomfpaaDoor.Pa
theorem DnameOrders : ∀ (a0 a1 a2 : ByteArray), a0.size ≤ 140737488351232 → a1.size ≤ 140737488351232 → a2.size ≤ 140737488351232 → ∃ k, ddilaw01_DnameOrders.f k a0 a1 a2 = some true := fun a b c h0 h1 h2 => DnameOrders_pure a b c h0 h1 h2
end Go.Proofs.YtfcgconojomfpaaDoor.Pure
