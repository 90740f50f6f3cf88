/- What the printed functions of the reference of package dname answer: the labels, the labels in common, at or below, the name of labels, the parent. What the printed functions of the reference of package dname answer: every one as the program's. -/
import Derived.Test.YtfcgconojomfpaaDoorDnA
import Derived.Test.YtfcgconojomfpaaDoorPax16
import Derived.Test.YtfcgconojomfpaaDoorPax17
import Derived.Test.YtfcgconojomfpaaDoorPax18
import Derived.Test.YtfcgconojomfpaaDoorPax21
import Derived.Test.YtfcgconojomfpaaDoorPax5
import Derived.Test.YtfcgconojomfpaaDoorPax6
import Derived.Test.YtfcgconojomfpaaDoorPax17
import Derived.Test.YtfcgconojomfpaaDoorPax18
import Derived.Test.YtfcgconojomfpaaDoorPax19
import Derived.Test.YtfcgconojomfpaaDoorPax22
import Derived.Test.YtfcgconojomfpaaDoorPax23
import Derived.Test.YtfcgconojomfpaaDoorPax24
import Derived.Test.YtfcgconojomfpaaDoorPax7
import Derived.Test.YtfcgconojomfpaaDoorPax8
namespace Go.Proofs.YtfcgconojomfpaaDoor.Pa
open Go.RowKit Go.Proofs.YtfcgconojomfpaaDoorW.PrintWords Go.Proofs.YtfcgconojomfpaaDoorW.PrintLast Go.Proofs.YtfcgconojomfpaaDoor.DN
set_option linter.unusedVariables false
set_option linter.unusedSimpArgs false
/-! ### the reference -/
theorem low_ifs2 {α : Type} (b : Int) (y z : α) : (if b ≥ 97 then (if b ≤ 122 then y else (if b ≥ 48 then (if b ≤ 57 then y else (if b = 45 then y else (if (b = 95) then y else z))) else (if b = 45 then y else (if (b = 95) then y else z)))) else (if b ≥ 48 then (if b ≤ 57 then y else (if b = 45 then y else (if (b = 95) then y else z))) else (if b = 45 then y else (if (b = 95) then y else z)))) = if lowI b = true then y else z := by
  unfold lowI
  repeat' split
  all_goals first | rfl | (simp_all; done) | (simp_all; omega)

theorem islab_l0 (s : ByteArray) (hs : s.size ≤ 140737488351232) : ∀ d i k : Nat, i + d = s.size → d < k → ddiref01_isLabel.l0 k s i = some (((L s).drop i).all isLow) := by
  intro d
  induction d with
  | zero =>
    intro i k hd hk
    obtain ⟨k, rfl⟩ : ∃ m, k = m + 1 := ⟨k - 1, by omega⟩
    simp only [ddiref01_isLabel.l0]
    rw [if_neg (by omega), List.drop_of_length_le (by rw [L_len]; omega)]
    rfl
  | succ d ih =>
    intro i k hd hk
    obtain ⟨k, rfl⟩ : ∃ m, k = m + 1 := ⟨k - 1, by omega⟩
    have hi : i < (L s).length := by rw [L_len]; omega
    have hw : wrap64 ((i : Int) + 1) = ((i + 1 : Nat) : Int) := by rw [wrap_id (by omega) (by omega)]; omega
    simp only [ddiref01_isLabel.l0]
    rw [if_pos (by omega), if_pos (by omega), low_ifs2, bt_L s i hi, lowI_isLow, hw, ih (i + 1) k (by omega) (by omega), List.drop_eq_getElem_cons hi, List.all_cons]
    cases isLow (L s)[i] <;> simp

theorem islab_f (s : ByteArray) (hs : s.size ≤ 140737488351232) (k : Nat) (hk : s.size + 3 ≤ k) : ddiref01_isLabel.f k s = some (labL (L s)) := by
  obtain ⟨k, rfl⟩ : ∃ m, k = m + 1 := ⟨k - 1, by omega⟩
  unfold ddiref01_isLabel.f labL
  have hl := L_len s
  rw [toList_L]
  by_cases h0 : L s = [42]
  · rw [if_pos h0]; simp [h0]
  have hb : (L s == [42]) = false := by simpa using h0
  rw [if_neg h0, hb, Bool.or_false]
  by_cases h1 : (s.size : Int) < 1
  · rw [if_pos h1]
    have : L s = [] := List.length_eq_zero_iff.1 (by omega)
    simp [ddiref01_isLabel.j0, ordL, this]
  rw [if_neg h1]
  simp only [ddiref01_isLabel.j0]
  have hne : (L s).isEmpty = false := by cases hL : L s with | nil => rw [hL] at hl; simp at hl; omega | cons => rfl
  by_cases h2 : (s.size : Int) > 63
  · have : ¬ (L s).length ≤ 63 := by omega
    simp only [h2, decide_true, if_true, ordL, this, decide_false, Bool.and_false, Bool.false_and]
  · have h := islab_l0 s hs s.size 0 k (by omega) (by omega)
    have : (L s).length ≤ 63 := by omega
    simp only [h2, decide_false, Bool.false_eq_true, if_false]
    rw [show (0 : Int) = ((0 : Nat) : Int) from rfl, h]
    simp only [ordL, hne, Bool.not_false, Bool.true_and, this, decide_true, List.drop_zero]

/-- what split makes of the labels that are left, st > 0 or not -/
def okCuts (first : Bool) (l : List (List UInt8)) : Bool := if first then labs l else l.all ordL
theorem okCuts_cons (first : Bool) (x : List UInt8) (l : List (List UInt8)) : okCuts first (x :: l) = ((labL x && (first || !(x == [42]))) && okCuts false l) := by
  have h42 : ordL [42] = false := by decide
  cases first with
  | true => simp [okCuts, labs]
  | false =>
    simp only [okCuts, Bool.false_eq_true, if_false, List.all_cons, Bool.false_or, labL]
    by_cases h : x = [42]
    · subst h; simp [h42]
    · have : (x == [42]) = false := by simpa using h
      simp [this]

theorem split_l0 (s : ByteArray) (hs : s.size ≤ 254) : ∀ d i st k : Nat, ∀ (acc : List ByteArray) (cur : List UInt8), i + d = s.size → st ≤ i → ((L s).drop st).take (i - st) = cur → (∀ c ∈ cur, c ≠ 46) → acc.length ≤ i →
    (cur ++ (L s).drop i = [] ∨ (cur ++ (L s).drop i).getLast? = some 46) → d + 400 < k →
    ddiref01_split.l0 k s acc st i = some (if okCuts (decide (st = 0)) (cuts (cur ++ (L s).drop i)) = true then (acc ++ (cuts (cur ++ (L s).drop i)).map B, true) else ([], false)) := by
  intro d
  induction d with
  | zero =>
    intro i st k acc cur hd hst hcur hno hacc hend hk
    obtain ⟨k, rfl⟩ : ∃ m, k = m + 1 := ⟨k - 1, by omega⟩
    have hR : (L s).drop i = [] := List.drop_of_length_le (by rw [L_len]; omega)
    rw [hR, List.append_nil] at hend ⊢
    have hc0 : cur = [] := by
      rcases hend with h | h
      · exact h
      · obtain ⟨m, rfl⟩ := List.getLast?_eq_some_iff.1 h
        exact absurd rfl (hno 46 (by simp))
    subst hc0
    simp only [ddiref01_split.l0]
    rw [if_neg (by omega)]
    have : okCuts (decide (st = 0)) (cuts []) = true := by cases decide (st = 0) <;> rfl
    rw [if_pos this]; simp [cuts]
  | succ d ih =>
    intro i st k acc cur hd hst hcur hno hacc hend hk
    obtain ⟨k, rfl⟩ : ∃ m, k = m + 1 := ⟨k - 1, by omega⟩
    have hi : i < (L s).length := by rw [L_len]; omega
    have hw : wrap64 ((i : Int) + 1) = ((i + 1 : Nat) : Int) := by rw [wrap_id (by omega) (by omega)]; omega
    have hR : (L s).drop i = (L s)[i] :: (L s).drop (i + 1) := List.drop_eq_getElem_cons hi
    rw [hR] at hend ⊢
    simp only [ddiref01_split.l0]
    rw [if_pos (by omega), if_pos (by omega), bt_L s i hi]
    by_cases hc : (L s)[i] = 46
    · rw [if_pos (by rw [hc]; rfl), if_pos (by omega), if_pos (by omega), if_pos (by omega)]
      simp only [Int.toNat_natCast]
      have hLx : L (s.extract st i) = cur := by rw [L_extract]; exact hcur
      have hxs : (s.extract st i).size ≤ 254 := by
        rw [← L_len, hLx, ← hcur]
        have := List.length_take_le (i - st) ((L s).drop st)
        omega
      have hxB : s.extract st i = B cur := L_inj (by rw [hLx, L_B])
      have hend' : (L s).drop (i + 1) = [] ∨ ((L s).drop (i + 1)).getLast? = some 46 := by
        rcases hend with h | h
        · simp at h
        · cases hr : (L s).drop (i + 1) with
          | nil => exact .inl rfl
          | cons e r => right; rw [hr, List.getLast?_append, List.getLast?_cons_cons] at h; cases hq : (e :: r).getLast? with
            | none => simp at hq
            | some q => rw [hq] at h; simpa using h
      have hacc1 : acc.length < 8796093022208 := by omega
      have hnext := ih (i + 1) (i + 1) k (acc ++ [s.extract st i]) [] (by omega) (Nat.le_refl _) (by simp) (by simp) (by simp; omega) (by simpa using hend') (by omega)
      rw [show decide (i + 1 = 0) = false by simp, List.nil_append] at hnext
      rw [islab_f _ (by omega) k (by omega), hLx, hc, cuts_piece cur hno, okCuts_cons, hw]
      simp only [Option.bind_some]
      rw [toList_L, hLx]
      cases hlab : labL cur with
      | false => simp
      | true =>
        rw [if_pos rfl]
        have hfin : (if okCuts false (cuts ((L s).drop (i + 1))) = true then (acc ++ [s.extract st i] ++ (cuts ((L s).drop (i + 1))).map B, true) else ([], false)) =
            (if okCuts false (cuts ((L s).drop (i + 1))) = true then (acc ++ (cur :: cuts ((L s).drop (i + 1))).map B, true) else (([] : List ByteArray), false)) := by
          rw [hxB]; simp
        by_cases h42 : cur = [42]
        · have hb : (cur == [42]) = true := by simpa using h42
          rw [if_pos h42, hb]
          by_cases hst0 : st = 0
          · subst hst0
            rw [if_neg (by omega), if_pos hacc1, hnext, hfin]
            simp
          · rw [if_pos (by omega)]
            simp [hst0]
        · have hb : (cur == [42]) = false := by simpa using h42
          rw [if_neg h42, if_pos hacc1, hnext, hfin, hb]
          simp
    · rw [if_neg (by intro e; apply hc; apply UInt8.toNat_inj.1; have : (46 : UInt8).toNat = 46 := rfl; omega), hw]
      have hcur' : ((L s).drop st).take (i + 1 - st) = cur ++ [(L s)[i]] := by
        rw [show i + 1 - st = (i - st) + 1 by omega, List.take_succ_eq_append_getElem (by rw [List.length_drop]; omega), hcur]
        congr 2
        rw [List.getElem_drop]; congr 1; omega
      have := ih (i + 1) st k acc (cur ++ [(L s)[i]]) (by omega) (by omega) hcur' (by intro c hc'; rcases List.mem_append.1 hc' with h | h; exact hno c h; rw [List.mem_singleton.1 h]; exact hc) (by omega) (by simpa using hend) (by omega)
      rw [this]; simp

theorem split_f (s : ByteArray) (hs : s.size ≤ 140737488351232) (k : Nat) (hk : 1000 ≤ k) : ddiref01_split.f k s = some ((labelsL (L s)).map B, validL (L s)) := by
  obtain ⟨k, rfl⟩ : ∃ m, k = m + 1 := ⟨k - 1, by omega⟩
  have hl := L_len s
  unfold ddiref01_split.f
  rw [toList_L]
  by_cases h0 : L s = [46]
  · rw [if_pos h0, h0]; rfl
  have hb0 : (L s == [46]) = false := by simpa using h0
  rw [if_neg h0]
  by_cases h1 : (s.size : Int) < 2
  · rw [if_pos h1]
    have hv : validL (L s) = false := by
      cases hL : L s with
      | nil => rfl
      | cons c r =>
        have : r = [] := List.length_eq_zero_iff.1 (by rw [hL] at hl; simp at hl; omega)
        subst this
        have hc : c ≠ 46 := by rintro rfl; exact h0 hL
        simp [validL, hc]
    rw [hv, invalid_labels hv]
    simp [ddiref01_split.j0]
  rw [if_neg h1]
  by_cases h2 : (s.size : Int) > 254
  · rw [if_pos h2]
    have : ¬ (L s).length ≤ 254 := by omega
    have hv : validL (L s) = false := by simp only [validL, hb0, this, decide_false, Bool.false_and, Bool.false_or]
    rw [hv, invalid_labels hv]
    simp [ddiref01_split.j0]
  rw [if_neg h2]
  have hw : wrap64 ((s.size : Int) - 1) = ((s.size - 1 : Nat) : Int) := by rw [wrap_id (by omega) (by omega)]; omega
  rw [hw, if_pos (by omega), if_pos (by omega), bt_L s (s.size - 1) (by omega)]
  have hlast : (L s).getLast? = some (L s)[s.size - 1] := by
    have hidx : (L s).length - 1 = s.size - 1 := by omega
    rw [List.getLast?_eq_getElem?, List.getElem?_eq_getElem (by omega)]; simp only [hidx]
  have hle : (L s).length ≤ 254 := by omega
  simp only [ddiref01_split.j0]
  by_cases hc : (L s)[s.size - 1] = 46
  · have e1 : ((((L s)[s.size - 1]).toNat : Int) != 46) = false := by rw [hc]; rfl
    have hl46 : (L s).getLast? = some 46 := by rw [hlast, hc]
    have hv : validL (L s) = labs (cuts (L s)) := by simp only [validL, hb0, hle, decide_true, Bool.true_and, Bool.false_or, hl46]; simp
    rw [e1, if_neg (by decide)]
    have := split_l0 s (by omega) s.size 0 0 k [] [] (by omega) (Nat.le_refl _) (by simp) (by simp) (by simp) (Or.inr (by rw [List.nil_append, List.drop_zero]; exact hl46)) (by omega)
    rw [show (0 : Int) = ((0 : Nat) : Int) from rfl, this]
    simp only [List.drop_zero, List.nil_append, decide_true, okCuts, if_true]
    rw [hv, labelsL, if_neg h0, hv]
    cases labs (cuts (L s)) <;> simp
  · have e1 : ((((L s)[s.size - 1]).toNat : Int) != 46) = true := by
      rw [bne_iff_ne]; intro e; apply hc; apply UInt8.toNat_inj.1; have : (46 : UInt8).toNat = 46 := rfl; omega
    have e2 : (some (L s)[s.size - 1] == some (46 : UInt8)) = false := beq_eq_false_iff_ne.2 (fun e => hc (Option.some.inj e))
    have hv : validL (L s) = false := by simp only [validL, hb0, hle, decide_true, Bool.true_and, Bool.false_or, hlast, e2, Bool.false_and]
    rw [e1, if_pos rfl, hv, invalid_labels hv]; rfl

theorem rlabels_f (s : ByteArray) (hs : s.size ≤ 140737488351232) (k : Nat) (hk : 1000 ≤ k) : ddiref01_Labels.f k s = some ((labelsL (L s)).map B) := by
  unfold ddiref01_Labels.f; rw [split_f s hs k hk]; rfl

/-! ### labels in common -/
theorem same_l0 (a b : List ByteArray) (ha : a.length ≤ 1000000) (hb : b.length ≤ 1000000) : ∀ d i k : Nat, i + d = sameN (a.map L) (b.map L) → d < k → ddiref01_same.l0 k a b i = some ((sameN (a.map L) (b.map L) : Nat) : Int) := by
  have hle := sameN_le (a.map L) (b.map L)
  rw [List.length_map, List.length_map] at hle
  have key : ∀ i, i < a.length → i < b.length → wrap64 (wrap64 ((a.length : Int) - 1) - i) = ((a.length - 1 - i : Nat) : Int) ∧ wrap64 (wrap64 ((b.length : Int) - 1) - i) = ((b.length - 1 - i : Nat) : Int) := by
    intro i h1 h2
    have e1 : wrap64 ((a.length : Int) - 1) = (a.length : Int) - 1 := wrap_id (by omega) (by omega)
    have e2 : wrap64 ((b.length : Int) - 1) = (b.length : Int) - 1 := wrap_id (by omega) (by omega)
    rw [e1, e2]
    exact ⟨by rw [wrap_id (by omega) (by omega)]; omega, by rw [wrap_id (by omega) (by omega)]; omega⟩
  have rev : ∀ (x : List ByteArray) (i : Nat) (h : i < x.length) (h' : i < (x.map L).reverse.length), (x.map L).reverse[i] = L (x[x.length - 1 - i]'(by omega)) := by
    intro x i h h'
    rw [List.getElem_reverse, List.getElem_map]; simp
  intro d
  induction d with
  | zero =>
    intro i k hd hk
    obtain ⟨k, rfl⟩ : ∃ m, k = m + 1 := ⟨k - 1, by omega⟩
    simp only [ddiref01_same.l0]
    by_cases h1 : (i : Int) < a.length
    · rw [if_pos h1]
      by_cases h2 : (i : Int) < b.length
      · obtain ⟨k1, k2⟩ := key i (by omega) (by omega)
        rw [if_pos h2, k1, k2, if_pos (by omega), if_pos (by omega), if_pos (by omega), if_pos (by omega), toList_L, toList_L]
        have r1 : rdOf ByteArray.empty a ((a.length - 1 - i : Nat) : Int) = a[a.length - 1 - i]'(by omega) := by simp [rdOf, List.getElem?_eq_getElem (show a.length - 1 - i < a.length by omega)]
        have r2 : rdOf ByteArray.empty b ((b.length - 1 - i : Nat) : Int) = b[b.length - 1 - i]'(by omega) := by simp [rdOf, List.getElem?_eq_getElem (show b.length - 1 - i < b.length by omega)]
        have hne := cpl_ne (a.map L).reverse (b.map L).reverse (by rw [List.length_reverse, List.length_map]; unfold sameN at hd; omega) (by rw [List.length_reverse, List.length_map]; unfold sameN at hd; omega)
        rw [rev a _ (by unfold sameN at hd; omega), rev b _ (by unfold sameN at hd; omega)] at hne
        have hi : cpl (a.map L).reverse (b.map L).reverse = i := by unfold sameN at hd; omega
        simp only [hi] at hne
        rw [r1, r2, if_neg hne]; congr 1; omega
      · rw [if_neg h2]; congr 1; omega
    · rw [if_neg h1]; congr 1; omega
  | succ d ih =>
    intro i k hd hk
    obtain ⟨k, rfl⟩ : ∃ m, k = m + 1 := ⟨k - 1, by omega⟩
    have hw : wrap64 ((i : Int) + 1) = ((i + 1 : Nat) : Int) := by rw [wrap_id (by omega) (by omega)]; omega
    obtain ⟨k1, k2⟩ := key i (by omega) (by omega)
    simp only [ddiref01_same.l0]
    rw [if_pos (by omega), if_pos (by omega), k1, k2, if_pos (by omega), if_pos (by omega), if_pos (by omega), if_pos (by omega), toList_L, toList_L]
    have r1 : rdOf ByteArray.empty a ((a.length - 1 - i : Nat) : Int) = a[a.length - 1 - i]'(by omega) := by simp [rdOf, List.getElem?_eq_getElem (show a.length - 1 - i < a.length by omega)]
    have r2 : rdOf ByteArray.empty b ((b.length - 1 - i : Nat) : Int) = b[b.length - 1 - i]'(by omega) := by simp [rdOf, List.getElem?_eq_getElem (show b.length - 1 - i < b.length by omega)]
    have heq := cpl_get (a.map L).reverse (b.map L).reverse i (by unfold sameN at hd; omega) (by rw [List.length_reverse, List.length_map]; omega) (by rw [List.length_reverse, List.length_map]; omega)
    rw [rev a i (by omega), rev b i (by omega)] at heq
    rw [r1, r2, if_pos heq, hw, ih (i + 1) k (by omega) (by omega)]

theorem same_f (a b : List ByteArray) (ha : a.length ≤ 1000000) (hb : b.length ≤ 1000000) (k : Nat) (hk : a.length + 1 ≤ k) : ddiref01_same.f k a b = some ((sameN (a.map L) (b.map L) : Nat) : Int) := by
  have hle := (sameN_le (a.map L) (b.map L)).1
  rw [List.length_map] at hle
  exact same_l0 a b ha hb (sameN (a.map L) (b.map L)) 0 k (by omega) (by omega)

theorem runder_f (a t : ByteArray) (ha : a.size ≤ 140737488351232) (ht : t.size ≤ 140737488351232) (k : Nat) (hk : 1000 ≤ k) : ddiref01_Under.f k a t = some (underL (L a) (L t)) := by
  unfold ddiref01_Under.f underL
  rw [split_f a ha k hk, split_f t ht k hk]
  have l1 := labels_len (L a); have l2 := labels_len (L t)
  simp only [Option.bind_some]
  rw [same_f _ _ (by simp; omega) (by simp; omega) k (by simp; omega), map_LB, map_LB]
  cases validL (L a) with
  | false => simp
  | true =>
    cases validL (L t) with
    | false => simp
    | true =>
      simp only [if_true, Option.bind_some, Bool.true_and, List.length_map]
      congr 1
      rw [Bool.eq_iff_iff, beq_iff_eq, List.isSuffixOf_iff_suffix, ← sameN_suffix]
      omega

/-! ### the name of labels, and the parent -/
theorem name_l0 (l : List ByteArray) (hn : l.length ≤ 1000000) (hs : ∀ x ∈ l, x.size ≤ 1000000) : ∀ d i k : Nat, ∀ s : ByteArray, i + d = l.length → d < k → s.size ≤ 1000001 * i → ddiref01_name.l0 k l s i = some (s ++ B (txt ((l.map L).drop i))) := by
  intro d
  induction d with
  | zero =>
    intro i k s hd hk hsz
    obtain ⟨k, rfl⟩ : ∃ m, k = m + 1 := ⟨k - 1, by omega⟩
    simp only [ddiref01_name.l0]
    rw [if_neg (by omega), List.drop_of_length_le (by simp; omega)]
    congr 1; apply L_inj; rw [L_append]; simp [txt, B]
  | succ d ih =>
    intro i k s hd hk hsz
    obtain ⟨k, rfl⟩ : ∃ m, k = m + 1 := ⟨k - 1, by omega⟩
    have hi : i < l.length := by omega
    have hw : wrap64 ((i : Int) + 1) = ((i + 1 : Nat) : Int) := by rw [wrap_id (by omega) (by omega)]; omega
    have hr : rdOf ByteArray.empty l (i : Int) = l[i] := by simp [rdOf, hi]
    have hx := hs _ (List.getElem_mem hi)
    have h1 : (⟨#[46]⟩ : ByteArray).size = 1 := rfl
    simp only [ddiref01_name.l0]
    rw [if_pos (by omega), if_pos (by omega), hr, if_pos (by omega), if_pos (by rw [ByteArray.size_append]; omega), hw, ih (i + 1) k _ (by omega) (by omega) (by rw [ByteArray.size_append, ByteArray.size_append]; omega)]
    congr 1; apply L_inj
    have hdrop : (l.map L).drop i = L l[i] :: (l.map L).drop (i + 1) := by rw [List.drop_eq_getElem_cons (by simpa using hi)]; simp
    rw [hdrop, txt_cons, L_append, L_append, L_append, L_append, L_B, L_B]
    simp [show L (⟨#[46]⟩ : ByteArray) = [46] from rfl]

theorem name_f (l : List ByteArray) (hn : l.length ≤ 1000000) (hs : ∀ x ∈ l, x.size ≤ 1000000) (k : Nat) (hk : l.length < k) : ddiref01_name.f k l = some (B (nm (l.map L))) := by
  unfold ddiref01_name.f nm
  by_cases h : l = []
  · subst h; rw [if_pos (by simp)]; rfl
  · have : 0 < l.length := List.length_pos_iff.2 h
    rw [if_neg (by omega), if_neg (by simpa using h)]
    have := name_l0 l hn hs l.length 0 k ⟨#[]⟩ (by omega) (by omega) (by simp [ByteArray.size])
    rw [show (0 : Int) = ((0 : Nat) : Int) from rfl, this, List.drop_zero]
    have e : (⟨#[]⟩ : ByteArray) ++ B (txt (l.map L)) = B (txt (l.map L)) := L_inj (by rw [L_append]; rfl)
    rw [e]

theorem rparent_f (a : ByteArray) (ha : a.size ≤ 140737488351232) (k : Nat) (hk : 1000 ≤ k) : ddiref01_Parent.f k a = some (parentS a) := by
  unfold ddiref01_Parent.f parentS
  rw [split_f a ha k hk]
  have hl := labels_len (L a)
  simp only [Option.bind_some, List.length_map]
  by_cases h : labelsL (L a) = []
  · rw [h, if_pos (by rfl), if_pos rfl]
  · have : 0 < (labelsL (L a)).length := List.length_pos_iff.2 h
    rw [if_neg (by omega), if_pos (by omega), if_neg h, ← List.map_drop, name_f _ (by simp; omega) (fun x hx => by
      rw [List.map_drop] at hx
      have := size_B_label (L a) x (List.mem_of_mem_drop hx); omega) k (by simp; omega), map_LB]
    rfl

end Go.Proofs.YtfcgconojomfpaaDoor.Pa

namespace Go.Proofs.YtfcgconojomfpaaDoor.Pa
open Go.RowKit Go.Proofs.YtfcgconojomfpaaDoorW.PrintWords Go.Proofs.YtfcgconojomfpaaDoorW.PrintLast Go.Proofs.YtfcgconojomfpaaDoor.DN
set_option linter.unusedVariables false
set_option linter.unusedSimpArgs false

theorem rvalid_f (a : ByteArray) (ha : a.size ≤ 140737488351232) (k : Nat) (hk : 1000 ≤ k) : ddiref01_Valid.f k a = some (validL (L a)) := by
  unfold ddiref01_Valid.f; rw [split_f a ha k hk]; rfl

/-! ### the reading -/
theorem lowC_nat (c : UInt8) : ((lowC c).toNat : Int) = if 65 ≤ c.toNat ∧ c.toNat ≤ 90 then ((c.toNat : Int) + 32) % 256 else (c.toNat : Int) := by
  unfold lowC
  by_cases h : 65 ≤ c ∧ c ≤ 90
  · have h1 : 65 ≤ c.toNat := UInt8.le_iff_toNat_le.1 h.1
    have h2 : c.toNat ≤ 90 := UInt8.le_iff_toNat_le.1 h.2
    have h3 : (c + 32).toNat = c.toNat + 32 := by rw [UInt8.toNat_add]; show (c.toNat + 32) % 256 = c.toNat + 32; omega
    rw [if_pos h, if_pos ⟨h1, h2⟩, h3]; omega
  · rw [if_neg h, if_neg (fun h' => h ⟨UInt8.le_iff_toNat_le.2 h'.1, UInt8.le_iff_toNat_le.2 h'.2⟩)]
theorem rlower_l0 (a : ByteArray) (ha : a.size ≤ 1000000) : ∀ d i k : Nat, ∀ acc : List Int, i + d = a.size → d < k → acc = ((L a).take i).map (fun c => ((lowC c).toNat : Int)) → ddiref01_lower.l0 k a acc i = some (lowS a) := by
  intro d
  induction d with
  | zero =>
    intro i k acc hd hk hacc
    obtain ⟨k, rfl⟩ : ∃ j, k = j + 1 := ⟨k - 1, by omega⟩
    simp only [ddiref01_lower.l0]
    rw [if_neg (by omega), hacc, List.take_of_length_le (by rw [L_len]; omega)]
    congr 1
    apply L_inj
    rw [L_lowS]
    show (strOfNums _).data.toList = _
    rw [strOfNums_data, List.map_map]
    apply List.map_congr_left
    intro c _
    simp
  | succ d ih =>
    intro i k acc hd hk hacc
    obtain ⟨k, rfl⟩ : ∃ j, k = j + 1 := ⟨k - 1, by omega⟩
    have hi : i < (L a).length := by rw [L_len]; omega
    have hb := bt_L a i hi
    have hstep : ∀ v : Int, v = ((lowC (L a)[i]).toNat : Int) → ddiref01_lower.l0 k a (acc ++ [v]) (wrap64 ((i : Int) + 1)) = some (lowS a) := by
      intro v hv
      rw [show wrap64 ((i : Int) + 1) = ((i + 1 : Nat) : Int) by rw [wrap_id (by omega) (by omega)]; omega]
      exact ih (i + 1) k _ (by omega) (by omega) (by rw [hacc, hv, List.take_succ_eq_append_getElem hi, List.map_append]; rfl)
    have hal : acc.length < 140737488355328 := by rw [hacc, List.length_map, List.length_take]; omega
    have hv := lowC_nat (L a)[i]
    simp only [ddiref01_lower.l0]
    rw [if_pos (by omega), if_pos (by omega), hb]
    by_cases h1 : ((L a)[i].toNat : Int) ≥ 65
    · rw [if_pos h1]
      by_cases h2 : ((L a)[i].toNat : Int) ≤ 90
      · rw [if_pos h2, if_pos hal]; exact hstep _ (by rw [hv, if_pos ⟨by omega, by omega⟩])
      · rw [if_neg h2, if_pos hal]; exact hstep _ (by rw [hv, if_neg (by omega)])
    · rw [if_neg h1, if_pos hal]; exact hstep _ (by rw [hv, if_neg (by omega)])
theorem rlower_f (a : ByteArray) (ha : a.size ≤ 1000000) (k : Nat) (hk : a.size < k) : ddiref01_lower.f k a = some (lowS a) := by
  unfold ddiref01_lower.f
  exact rlower_l0 a ha a.size 0 k [] (by omega) hk (by simp)
theorem bt_last (a : ByteArray) (h : 0 < a.size) : bt a ((a.size - 1 : Nat) : Int) = 46 ↔ (L a).getLast? = some 46 := by
  have hl : a.size - 1 < (L a).length := by rw [L_len]; omega
  rw [bt_L a _ hl, List.getLast?_eq_getElem?, L_len, List.getElem?_eq_getElem hl, Option.some.injEq]
  constructor
  · intro h1; exact UInt8.toNat_inj.1 (by have : ((L a)[a.size - 1].toNat : Int) = ((46 : UInt8).toNat : Int) := h1; omega)
  · intro h1; rw [h1]; rfl
theorem parseT_len (s o : List UInt8) (h : s ≠ [64]) : s.length ≤ (parseT s o).length := by
  unfold parseT
  rw [if_neg h]
  split
  · simp
  · split <;> simp
theorem rparse_f (s o : ByteArray) (hs : s.size ≤ 600) (ho : o.size ≤ 600) (k : Nat) (hk : 1701 ≤ k) : ddiref01_Parse.f k s o = some (parseS s o) := by
  obtain ⟨k, rfl⟩ : ∃ j, k = j + 1 := ⟨k - 1, by omega⟩
  have hbad : ddiref01_Parse.j0 (k + 1) s o true = some (⟨#[]⟩, 2) := by simp only [ddiref01_Parse.j0, if_true]
  unfold ddiref01_Parse.f parseS
  rw [rvalid_f o (by omega) _ (by omega), Option.bind_some]
  cases vo : validL (L o) with
  | false => simp [hbad]
  | true =>
  rw [if_pos rfl, toList_L]
  by_cases h0 : L s = []
  · rw [if_pos h0, if_neg (fun h => h.1 h0)]; exact hbad
  rw [if_neg h0]
  by_cases h255 : (s.size : Int) > 255
  · rw [decide_eq_true h255, if_neg (fun h => by
      have h1 := valid_len h.2.2
      have h2 := parseT_len (L s) (L o) (by intro h; rw [← L_len, h] at h255; simp at h255)
      rw [L_len] at h2; omega)]
    exact hbad
  rw [decide_eq_false h255]
  have fin : ∀ t : ByteArray, L t = parseT (L s) (L o) → t.size ≤ 1000000 → ((ddiref01_Valid.f k t).bind fun t110 => (if t110 = true then (some (t, (0 : Int))) else (some ((⟨#[]⟩ : ByteArray), 2)))) = some (if L s ≠ [] ∧ True ∧ validL (parseT (L s) (L o)) = true then (B (parseT (L s) (L o)), 0) else (⟨#[]⟩, 2)) := by
    intro t ht hts
    rw [rvalid_f t (by omega) k (by omega), Option.bind_some, ht]
    cases hv : validL (parseT (L s) (L o)) with
    | false => simp
    | true => rw [if_pos rfl, if_pos ⟨h0, trivial, rfl⟩, ← ht, B_L]
  have hls : (lowS s).size = s.size := by rw [← L_len, L_lowS, List.length_map, L_len]
  have hs0 : 0 < s.size := by rw [← L_len]; exact List.length_pos_iff.2 h0
  have h46 : (⟨#[46]⟩ : ByteArray).size = 1 := rfl
  simp only [ddiref01_Parse.j0, Bool.false_eq_true, if_false]
  rw [rlower_f s (by omega) k (by omega), Option.bind_some, toList_L]
  by_cases h1 : L s = [64]
  · rw [if_pos h1]
    simp only [true_and] at fin ⊢
    exact fin o (by rw [parseT, if_pos h1]) (by omega)
  have hlast := bt_last s hs0
  rw [if_neg h1, show wrap64 ((s.size : Int) - 1) = ((s.size - 1 : Nat) : Int) by rw [wrap_id (by omega) (by omega)]; omega, if_pos (by omega), if_pos (by omega)]
  simp only [true_and] at fin ⊢
  by_cases h2 : bt s ((s.size - 1 : Nat) : Int) = 46
  · rw [if_pos h2]
    exact fin _ (by rw [parseT, if_neg h1, if_pos (hlast.1 h2), L_lowS]) (by omega)
  rw [if_neg h2, if_pos (by omega), toList_L]
  by_cases h3 : L o = [46]
  · rw [if_pos h3]
    exact fin _ (by rw [parseT, if_neg h1, if_neg (fun h => h2 (hlast.2 h)), if_pos h3, L_append, L_lowS]) (by rw [ByteArray.size_append]; omega)
  · rw [if_neg h3, if_pos (by rw [ByteArray.size_append]; omega)]
    exact fin _ (by rw [parseT, if_neg h1, if_neg (fun h => h2 (hlast.2 h)), if_neg h3, L_append, L_append, L_lowS, List.append_assoc]; rfl) (by rw [ByteArray.size_append, ByteArray.size_append]; omega)

/-! ### the length -/
theorem rlength_l0 (xs : List ByteArray) (hn : xs.length ≤ 1000000) (hs : ∀ x ∈ xs, x.size ≤ 1000000) : ∀ d i k acc : Nat, i + d = xs.length → d < k → acc ≤ 1000002 * (i + 1) → ddiref01_Length.l0 k xs (acc : Int) i = some ((acc + (txt ((xs.map L).drop i)).length : Nat) : Int) := by
  intro d
  induction d with
  | zero =>
    intro i k acc hd hk hacc
    obtain ⟨k, rfl⟩ : ∃ j, k = j + 1 := ⟨k - 1, by omega⟩
    simp only [ddiref01_Length.l0]
    rw [if_neg (by omega), List.drop_of_length_le (by simp; omega)]
    simp [txt]
  | succ d ih =>
    intro i k acc hd hk hacc
    obtain ⟨k, rfl⟩ : ∃ j, k = j + 1 := ⟨k - 1, by omega⟩
    have hi : i < xs.length := by omega
    have hx := hs _ (List.getElem_mem hi)
    simp only [ddiref01_Length.l0]
    rw [if_pos (by omega), if_pos (by omega), rd_at xs i hi,
      show wrap64 ((acc : Int) + (xs[i].size : Int)) = ((acc + xs[i].size : Nat) : Int) by rw [wrap_id (by omega) (by omega)]; omega,
      show wrap64 (((acc + xs[i].size : Nat) : Int) + 1) = ((acc + xs[i].size + 1 : Nat) : Int) by rw [wrap_id (by omega) (by omega)]; omega,
      show wrap64 ((i : Int) + 1) = ((i + 1 : Nat) : Int) by rw [wrap_id (by omega) (by omega)]; omega,
      ih (i + 1) k _ (by omega) (by omega) (by omega)]
    have hdrop : (xs.map L).drop i = L xs[i] :: (xs.map L).drop (i + 1) := by rw [List.drop_eq_getElem_cons (by simpa using hi)]; simp
    rw [hdrop, txt_cons, List.length_append, List.length_cons, L_len]
    congr 2; omega
theorem rlength_f (a : ByteArray) (ha : a.size ≤ 140737488351232) (k : Nat) (hk : 1000 ≤ k) : ddiref01_Length.f k a = some (lengthS a) := by
  unfold ddiref01_Length.f lengthS
  rw [split_f a ha k hk, Option.bind_some]
  have l1 := labels_len (L a)
  cases hv : validL (L a) with
  | false => simp
  | true =>
    rw [if_pos rfl, if_pos rfl]
    have := rlength_l0 ((labelsL (L a)).map B) (by simp; omega) (fun x hx => by have := size_B_label (L a) x hx; omega) ((labelsL (L a)).map B).length 0 k 1 (by omega) (by simp; omega) (by omega)
    rw [map_LB, List.drop_zero] at this
    refine this.trans ?_
    congr 1; omega

/-! ### the order -/
theorem text_f (a b : ByteArray) : ddiref01_text.f a b = some (Lib.compareBytes (L a) (L b)) := rfl
theorem rcmp_tail (x y : List ByteArray) (hx : x.length ≤ 1000000) (hy : y.length ≤ 1000000) (k : Nat) (hk : x.length + 1 ≤ k) (s : Nat) (hs : s = sameN (x.map L) (y.map L)) :
    (if (s : Int) < (x.length : Int) then (ddiref01_Compare.j1 k x y s (decide ((s : Int) < (y.length : Int)))) else (ddiref01_Compare.j1 k x y s false)) = some (cmpR (x.map L).reverse (y.map L).reverse) := by
  obtain ⟨k, rfl⟩ : ∃ j, k = j + 1 := ⟨k - 1, by omega⟩
  have hsk := cmpR_skip (x.map L).reverse (y.map L).reverse
  have hs' : cpl (x.map L).reverse (y.map L).reverse = s := hs.symm
  have hle := cpl_le (x.map L).reverse (y.map L).reverse
  rw [hs', List.length_reverse, List.length_reverse, List.length_map, List.length_map] at hle
  by_cases hc : s < x.length ∧ s < y.length
  · have b1 : x.length - 1 - s < x.length := by omega
    have b2 : y.length - 1 - s < y.length := by omega
    rw [dif_pos (by rw [hs']; simpa using hc)] at hsk
    simp only [hs'] at hsk
    rw [rev_at x s hc.1, rev_at y s hc.2] at hsk
    rw [if_pos (by omega), decide_eq_true (by omega)]
    simp only [ddiref01_Compare.j1, if_true]
    rw [show wrap64 ((x.length : Int) - 1) = (x.length : Int) - 1 from wrap_id (by omega) (by omega), show wrap64 ((y.length : Int) - 1) = (y.length : Int) - 1 from wrap_id (by omega) (by omega),
      show wrap64 ((x.length : Int) - 1 - (s : Int)) = ((x.length - 1 - s : Nat) : Int) by rw [wrap_id (by omega) (by omega)]; omega,
      show wrap64 ((y.length : Int) - 1 - (s : Int)) = ((y.length - 1 - s : Nat) : Int) by rw [wrap_id (by omega) (by omega)]; omega,
      if_pos (Int.natCast_nonneg _), if_pos (Int.ofNat_lt.2 b1), if_pos (Int.natCast_nonneg _), if_pos (Int.ofNat_lt.2 b2), rd_at x _ b1, rd_at y _ b2, text_f, Option.bind_some, hsk]
  · rw [dif_neg (by rw [hs']; simpa using hc)] at hsk
    have e : (if (s : Int) < (x.length : Int) then (ddiref01_Compare.j1 (k + 1) x y s (decide ((s : Int) < (y.length : Int)))) else (ddiref01_Compare.j1 (k + 1) x y s false)) = ddiref01_Compare.j1 (k + 1) x y s false := by
      by_cases h1 : (s : Int) < x.length
      · rw [if_pos h1, decide_eq_false (by omega)]
      · rw [if_neg h1]
    rw [e, hsk]
    simp only [ddiref01_Compare.j1, Bool.false_eq_true, if_false, List.length_reverse, List.length_map]
    by_cases h1 : x.length < y.length
    · rw [if_pos h1, if_pos (by omega)]
    · rw [if_neg h1, if_neg (by omega)]
      by_cases h2 : x.length > y.length
      · rw [if_pos h2, if_pos (by omega)]
      · rw [if_neg h2, if_neg (by omega)]
theorem rcompare_f (a b : ByteArray) (ha : a.size ≤ 140737488351232) (hb : b.size ≤ 140737488351232) (k : Nat) (hk : 1001 ≤ k) : ddiref01_Compare.f k a b = some (compareS a b) := by
  obtain ⟨k, rfl⟩ : ∃ j, k = j + 1 := ⟨k - 1, by omega⟩
  unfold ddiref01_Compare.f compareS
  rw [split_f a ha _ (by omega), split_f b hb _ (by omega), Option.bind_some, Option.bind_some]
  cases va : validL (L a) with
  | true =>
    cases vb : validL (L b) with
    | true =>
      simp only [ddiref01_Compare.j0, Bool.not_true, Bool.false_eq_true, if_false, if_true]
      have l1 := labels_len (L a); have l2 := labels_len (L b)
      rw [same_f _ _ (by simp; omega) (by simp; omega) k (by simp; omega), Option.bind_some]
      have := rcmp_tail ((labelsL (L a)).map B) ((labelsL (L b)).map B) (by simp; omega) (by simp; omega) k (by simp; omega) _ rfl
      rw [map_LB, map_LB] at this ⊢
      exact this
    | false => simp [ddiref01_Compare.j0]
  | false =>
    cases vb : validL (L b) with
    | true => simp [ddiref01_Compare.j0]
    | false =>
      simp only [ddiref01_Compare.j0, Bool.not_false, Bool.false_eq_true, if_false, if_true]
      rw [text_f, Option.bind_some]

/-! ### what two names have in common -/
theorem rcommon_f (a b : ByteArray) (ha : a.size ≤ 140737488351232) (hb : b.size ≤ 140737488351232) (k : Nat) (hk : 1001 ≤ k) : ddiref01_Common.f k a b = some (commonS a b) := by
  obtain ⟨k, rfl⟩ : ∃ j, k = j + 1 := ⟨k - 1, by omega⟩
  unfold ddiref01_Common.f commonS
  rw [split_f a ha _ (by omega), split_f b hb _ (by omega), Option.bind_some, Option.bind_some]
  cases va : validL (L a) with
  | false => simp [ddiref01_Common.j0]
  | true =>
    cases vb : validL (L b) with
    | false => simp [ddiref01_Common.j0]
    | true =>
      simp only [ddiref01_Common.j0, Bool.not_true, Bool.false_eq_true, if_false, if_true]
      have l1 := labels_len (L a); have l2 := labels_len (L b)
      have hle := sameN_le (labelsL (L a)) (labelsL (L b))
      have hsz : ((labelsL (L a)).map B).length = (labelsL (L a)).length := by simp
      rw [same_f _ _ (by simp; omega) (by simp; omega) k (by simp; omega), Option.bind_some, map_LB, map_LB, hsz,
        show wrap64 (((labelsL (L a)).length : Int) - ((sameN (labelsL (L a)) (labelsL (L b)) : Nat) : Int)) = (((labelsL (L a)).length - sameN (labelsL (L a)) (labelsL (L b)) : Nat) : Int) by rw [wrap_id (by omega) (by omega)]; omega,
        if_pos (Int.natCast_nonneg _), if_pos (by omega), Int.toNat_natCast, name_f _ (by simp; omega) (fun x hx => by
          have := size_B_label (L a) x (List.mem_of_mem_drop hx); omega) k (by simp; omega), Option.bind_some, List.map_drop, map_LB]
      simp [commonL]

/-! ### the wildcard -/
theorem rstar_f (a : ByteArray) (ha : a.size ≤ 140737488351200) (k : Nat) (hk : 1001 ≤ k) : ddiref01_Star.f k a = some (starS a) := by
  obtain ⟨k, rfl⟩ : ∃ j, k = j + 1 := ⟨k - 1, by omega⟩
  unfold ddiref01_Star.f starS
  rw [split_f a (by omega) _ (by omega), Option.bind_some]
  cases hv : validL (L a) with
  | false => simp [ddiref01_Star.j0]
  | true =>
    rw [if_pos rfl]
    have hj : (labelsL (L a)).head? ≠ some [42] → ddiref01_Star.j0 (k + 1) a false = some (if True ∧ (labelsL (L a)).head? ≠ some [42] ∧ validL (starT (L a)) = true then (B (starT (L a)), true) else (⟨#[]⟩, false)) := by
      intro hh
      have hfin : ∀ t : ByteArray, L t = starT (L a) → ((ddiref01_Valid.f k t).bind fun t222 => (if t222 = true then (some (t, true)) else (some ((⟨#[]⟩ : ByteArray), false)))) = some (if True ∧ (labelsL (L a)).head? ≠ some [42] ∧ validL (starT (L a)) = true then (B (starT (L a)), true) else (⟨#[]⟩, false)) := by
        intro t ht
        have hts : t.size ≤ 140737488351232 := by
          rw [← L_len, ht]; unfold starT
          have := L_len a
          split <;> simp <;> omega
        rw [rvalid_f t hts k (by omega), Option.bind_some, ht]
        cases hs : validL (starT (L a)) with
        | false => simp
        | true => rw [if_pos rfl, if_pos ⟨trivial, hh, rfl⟩, ← ht, B_L]
      simp only [ddiref01_Star.j0, Bool.false_eq_true, if_false]
      rw [toList_L]
      by_cases h : L a = [46]
      · rw [if_pos h]; exact hfin _ (by rw [h]; rfl)
      · rw [if_neg h, if_pos (by omega)]; exact hfin _ (by rw [L_append, starT, if_neg h]; rfl)
    have hset : ∀ z : ByteArray × Bool, some (if true = true ∧ (labelsL (L a)).head? ≠ some [42] ∧ validL (starT (L a)) = true then (B (starT (L a)), true) else (⟨#[]⟩, false)) = some (if True ∧ (labelsL (L a)).head? ≠ some [42] ∧ validL (starT (L a)) = true then (B (starT (L a)), true) else ((⟨#[]⟩ : ByteArray), false)) := by
      intro z; simp
    cases hl : labelsL (L a) with
    | nil =>
      rw [hl] at hj
      simpa using hj (by simp)
    | cons x r =>
      rw [hl] at hj
      have e0 : rdOf ByteArray.empty ((x :: r).map B) 0 = B x := rfl
      simp only [List.length_map, List.length_cons]
      rw [if_pos (by omega), if_pos (by omega), e0, toList_L, L_B]
      by_cases hx : x = [42]
      · subst hx; simp [ddiref01_Star.j0]
      · have := hj (by simpa using hx)
        rw [show (x == [42]) = false by simpa using hx, this]

/-! ### the replacing -/
theorem labs_take {p q : List (List UInt8)} (h : labs (p ++ q) = true) : labs p = true := by
  cases p with
  | nil => rfl
  | cons x p =>
    simp only [List.cons_append, labs, List.all_append, Bool.and_eq_true] at h ⊢
    exact ⟨h.1, h.2.1⟩
theorem good_take {p q : List (List UInt8)} (h : good (p ++ q)) : good p := ⟨labs_take h.1, by have := h.2; rw [txt_append, List.length_append] at this; omega⟩
theorem rep_valid {ln lf lt : List (List UInt8)} (hn : good ln) (ht : good lt) (hs : lf <:+ ln) (hlt : lf.length < ln.length) (hh : lt.head? ≠ some [42]) : nm (repL ln lf lt) = txt (repL ln lf lt) ∧ validL (txt (repL ln lf lt)) = decide ((txt (repL ln lf lt)).length ≤ 254) := by
  have hp : good (ln.take (ln.length - lf.length)) := by have := suffix_take hs; rw [← this] at hn; exact good_take hn
  have hpn : ln.take (ln.length - lf.length) ≠ [] := by intro h; have := congrArg List.length h; simp at this; omega
  have hnm : nm (repL ln lf lt) = txt (repL ln lf lt) := by
    rw [nm, if_neg (by unfold repL; simp [hpn])]
  refine ⟨hnm, ?_⟩
  by_cases hl : (txt (repL ln lf lt)).length ≤ 254
  · rw [decide_eq_true hl, ← hnm]
    exact valid_nm (good_append hp hpn ht.1 hh hl)
  · rw [decide_eq_false hl]
    cases hv : validL (txt (repL ln lf lt)) with
    | false => rfl
    | true => exact absurd (valid_len hv) hl
theorem rreplace_f (n f t : ByteArray) (hn : n.size ≤ 140737488351200) (hf : f.size ≤ 140737488351200) (ht : t.size ≤ 140737488351200) (k : Nat) (hk : 1302 ≤ k) : ddiref01_Replace.f k n f t = some (replaceS n f t) := by
  obtain ⟨k, rfl⟩ : ∃ j, k = j + 1 := ⟨k - 1, by omega⟩
  obtain ⟨k, rfl⟩ : ∃ j, k = j + 1 := ⟨k - 1, by omega⟩
  have hbad : ∀ x y z, ddiref01_Replace.j0 (k + 1 + 1) n f x y z true = some (⟨#[]⟩, 2) := by intro x y z; simp only [ddiref01_Replace.j0, if_true]
  unfold ddiref01_Replace.f replaceS
  rw [split_f n (by omega) _ (by omega), split_f f (by omega) _ (by omega), split_f t (by omega) _ (by omega), Option.bind_some, Option.bind_some, Option.bind_some]
  cases vn : validL (L n) with
  | false => simp [hbad]
  | true =>
  cases vf : validL (L f) with
  | false => simp [hbad]
  | true =>
  cases vt : validL (L t) with
  | false => simp [hbad]
  | true =>
  rw [if_pos rfl, if_pos rfl, if_pos rfl]
  have en := valid_good vn; have ef := valid_good vf; have et := valid_good vt
  have ln := labels_len (L n); have lf := labels_len (L f); have lt := labels_len (L t)
  have hgo : (labelsL (L t)).head? ≠ some [42] → ddiref01_Replace.j0 (k + 1 + 1) n f ((labelsL (L n)).map B) ((labelsL (L f)).map B) ((labelsL (L t)).map B) false = some (if labelsL (L f) <:+ labelsL (L n) ∧ (labelsL (L f)).length < (labelsL (L n)).length then
      (if (txt (repL (labelsL (L n)) (labelsL (L f)) (labelsL (L t)))).length ≤ 254 then (B (txt (repL (labelsL (L n)) (labelsL (L f)) (labelsL (L t)))), 0) else (⟨#[]⟩, 9))
    else (⟨#[]⟩, 1)) := by
    intro hh
    simp only [ddiref01_Replace.j0, Bool.false_eq_true, if_false]
    rw [runder_f n f (by omega) (by omega) _ (by omega), Option.bind_some, underL, vn, vf, Bool.true_and, Bool.true_and]
    by_cases hs : labelsL (L f) <:+ labelsL (L n)
    · have hle := hs.length_le
      rw [if_pos (List.isSuffixOf_iff_suffix.2 hs), List.length_map, List.length_map]
      by_cases hlt : (labelsL (L f)).length < (labelsL (L n)).length
      · rw [show (((labelsL (L n)).length : Int) == ((labelsL (L f)).length : Int)) = false by rw [beq_eq_false_iff_ne]; omega, if_pos ⟨hs, hlt⟩]
        simp only [ddiref01_Replace.j1, Bool.false_eq_true, if_false]
        rw [List.length_map, List.length_map, show wrap64 (((labelsL (L n)).length : Int) - ((labelsL (L f)).length : Int)) = (((labelsL (L n)).length - (labelsL (L f)).length : Nat) : Int) by rw [wrap_id (by omega) (by omega)]; omega,
          if_pos (Int.natCast_nonneg _), if_pos (by omega), Int.toNat_natCast, Option.bind_some, if_pos (by simp; omega), Option.bind_some, List.nil_append, if_pos (by simp; omega)]
        have hmem : ∀ x ∈ List.take ((labelsL (L n)).length - (labelsL (L f)).length) (List.map B (labelsL (L n))) ++ List.map B (labelsL (L t)), x.size ≤ 1000000 := by
          intro x hx
          rcases List.mem_append.1 hx with h | h
          · have := size_B_label (L n) x (List.mem_of_mem_take h); omega
          · have := size_B_label (L t) x h; omega
        have hmap : (List.take ((labelsL (L n)).length - (labelsL (L f)).length) (List.map B (labelsL (L n))) ++ List.map B (labelsL (L t))).map L = repL (labelsL (L n)) (labelsL (L f)) (labelsL (L t)) := by
          rw [List.map_append, List.map_take, map_LB, map_LB, repL]
        have hrep := rep_valid en.1 et.1 hs hlt hh
        rw [name_f _ (by simp; omega) hmem _ (by simp; omega), Option.bind_some, hmap, hrep.1]
        have hsz : (B (txt (repL (labelsL (L n)) (labelsL (L f)) (labelsL (L t))))).size ≤ 140737488351232 := by
          have e1 := en.1.2; have e2 := et.1.2
          rw [← suffix_take hs, txt_append, List.length_append] at e1
          rw [B_size, repL, txt_append, List.length_append]
          omega
        rw [rvalid_f _ hsz _ (by omega), Option.bind_some, L_B, hrep.2]
        by_cases hl : (txt (repL (labelsL (L n)) (labelsL (L f)) (labelsL (L t)))).length ≤ 254
        · rw [if_pos hl, if_pos (decide_eq_true hl)]
        · rw [if_neg hl, if_neg (by rw [decide_eq_true_iff]; exact hl)]
      · rw [show (((labelsL (L n)).length : Int) == ((labelsL (L f)).length : Int)) = true by rw [beq_iff_eq]; omega, if_neg (fun h => hlt h.2)]
        simp only [ddiref01_Replace.j1, if_true]
    · rw [if_neg (fun h => hs (List.isSuffixOf_iff_suffix.1 h)), if_neg (fun h => hs h.1)]
      simp only [ddiref01_Replace.j1, if_true]
  cases hl : labelsL (L t) with
  | nil =>
    rw [hl] at hgo
    rw [if_neg (by simp), if_pos ⟨rfl, rfl, rfl, by simp⟩]
    exact hgo (by simp)
  | cons x r =>
    rw [hl] at hgo
    have e0 : rdOf ByteArray.empty ((x :: r).map B) 0 = B x := rfl
    rw [if_pos (by simp), if_pos (by simp), e0, toList_L, L_B]
    by_cases hx : x = [42]
    · subst hx
      rw [if_neg (by simp)]
      exact hbad _ _ _
    · rw [show (x == [42]) = false by simpa using hx, if_pos ⟨rfl, rfl, rfl, by simpa using hx⟩]
      exact hgo (by simpa using hx)

/-! ### equal lists -/
theorem texts_l0 (x : List ByteArray) (hx : x.length ≤ 1000000) : ∀ d i k : Nat, i + d = x.length → d < k → ddilaw01_texts.l0 k x x (x.length : Int) i = some true := by
  intro d
  induction d with
  | zero =>
    intro i k hd hk
    obtain ⟨k, rfl⟩ : ∃ j, k = j + 1 := ⟨k - 1, by omega⟩
    simp only [ddilaw01_texts.l0]
    rw [if_neg (by omega)]
  | succ d ih =>
    intro i k hd hk
    obtain ⟨k, rfl⟩ : ∃ j, k = j + 1 := ⟨k - 1, by omega⟩
    simp only [ddilaw01_texts.l0]
    rw [if_pos (by omega), if_pos (by omega), if_pos (by omega), if_pos (by omega), if_pos True.intro, show wrap64 ((i : Int) + 1) = ((i + 1 : Nat) : Int) by rw [wrap_id (by omega) (by omega)]; omega]
    exact ih (i + 1) k (by omega) (by omega)
theorem texts_f (x : List ByteArray) (hx : x.length ≤ 1000000) (k : Nat) (hk : x.length < k) : ddilaw01_texts.f k x x = some true := by
  unfold ddilaw01_texts.f
  rw [if_pos rfl]
  exact texts_l0 x hx x.length 0 k (by omega) hk
end Go.Proofs.YtfcgconojomfpaaDoor.Pa
