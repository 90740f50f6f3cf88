/- What the printed functions of the reference of package dname answer: the labels, the labels in common, at or below, the name of labels, the parent. -/
import Derived.Test.YtannhjclhdennaaDoorDn
import Derived.Test.YtannhjclhdennaaDoorPax10
import Derived.Test.YtannhjclhdennaaDoorPax11
import Derived.Test.YtannhjclhdennaaDoorPax8
import Derived.Test.YtannhjclhdennaaDoorPax9
namespace Go.Proofs.YtannhjclhdennaaDoor.Pa
open Go.RowKit Go.Proofs.YtannhjclhdennaaDoorW.PrintWords Go.Proofs.YtannhjclhdennaaDoorW.PrintLast Go.Proofs.YtannhjclhdennaaDoor.DN
set_option linter.unusedVariables false
set_option linter.unusedSimpArgs false
/-! ### the reference -/
theorem low_ifs2 {α : Type} (b : Int) (y z : α) : (if b ≥ 97 then (if b ≤ 122 then y else (if b ≥ 48 then (if b ≤ 57 then y else (if b = 45 then y else (if (b = 95) then y else z))) else (if b = 45 then y else (if (b = 95) then y else z)))) else (if b ≥ 48 then (if b ≤ 57 then y else (if b = 45 then y else (if (b = 95) then y else z))) else (if b = 45 then y else (if (b = 95) then y else z)))) = if lowI b = true then y else z := by
  unfold lowI
  repeat' split
  all_goals first | rfl | (simp_all; done) | (simp_all; omega)

theorem islab_l0 (s : ByteArray) (hs : s.size ≤ 140737488351232) : ∀ d i k : Nat, i + d = s.size → d < k → ddiref01_isLabel.l0 k s i = some (((L s).drop i).all isLow) := by
  intro d
  induction d with
  | zero =>
    intro i k hd hk
    obtain ⟨k, rfl⟩ : ∃ m, k = m + 1 := ⟨k - 1, by omega⟩
    simp only [ddiref01_isLabel.l0]
    rw [if_neg (by omega), List.drop_of_length_le (by rw [L_len]; omega)]
    rfl
  | succ d ih =>
    intro i k hd hk
    obtain ⟨k, rfl⟩ : ∃ m, k = m + 1 := ⟨k - 1, by omega⟩
    have hi : i < (L s).length := by rw [L_len]; omega
    have hw : wrap64 ((i : Int) + 1) = ((i + 1 : Nat) : Int) := by rw [wrap_id (by omega) (by omega)]; omega
    simp only [ddiref01_isLabel.l0]
    rw [if_pos (by omega), if_pos (by omega), low_ifs2, bt_L s i hi, lowI_isLow, hw, ih (i + 1) k (by omega) (by omega), List.drop_eq_getElem_cons hi, List.all_cons]
    cases isLow (L s)[i] <;> simp

theorem islab_f (s : ByteArray) (hs : s.size ≤ 140737488351232) (k : Nat) (hk : s.size + 3 ≤ k) : ddiref01_isLabel.f k s = some (labL (L s)) := by
  obtain ⟨k, rfl⟩ : ∃ m, k = m + 1 := ⟨k - 1, by omega⟩
  unfold ddiref01_isLabel.f labL
  have hl := L_len s
  rw [toList_L]
  by_cases h0 : L s = [42]
  · rw [if_pos h0]; simp [h0]
  have hb : (L s == [42]) = false := by simpa using h0
  rw [if_neg h0, hb, Bool.or_false]
  by_cases h1 : (s.size : Int) < 1
  · rw [if_pos h1]
    have : L s = [] := List.length_eq_zero_iff.1 (by omega)
    simp [ddiref01_isLabel.j0, ordL, this]
  rw [if_neg h1]
  simp only [ddiref01_isLabel.j0]
  have hne : (L s).isEmpty = false := by cases hL : L s with | nil => rw [hL] at hl; simp at hl; omega | cons => rfl
  by_cases h2 : (s.size : Int) > 63
  · have : ¬ (L s).length ≤ 63 := by omega
    simp only [h2, decide_true, if_true, ordL, this, decide_false, Bool.and_false, Bool.false_and]
  · have h := islab_l0 s hs s.size 0 k (by omega) (by omega)
    have : (L s).length ≤ 63 := by omega
    simp only [h2, decide_false, Bool.false_eq_true, if_false]
    rw [show (0 : Int) = ((0 : Nat) : Int) from rfl, h]
    simp only [ordL, hne, Bool.not_false, Bool.true_and, this, decide_true, List.drop_zero]

/-- what split makes of the labels that are left, st > 0 or not -/
def okCuts (first : Bool) (l : List (List UInt8)) : Bool := if first then labs l else l.all ordL
theorem okCuts_cons (first : Bool) (x : List UInt8) (l : List (List UInt8)) : okCuts first (x :: l) = ((labL x && (first || !(x == [42]))) && okCuts false l) := by
  have h42 : ordL [42] = false := by decide
  cases first with
  | true => simp [okCuts, labs]
  | false =>
    simp only [okCuts, Bool.false_eq_true, if_false, List.all_cons, Bool.false_or, labL]
    by_cases h : x = [42]
    · subst h; simp [h42]
    · have : (x == [42]) = false := by simpa using h
      simp [this]

theorem split_l0 (s : ByteArray) (hs : s.size ≤ 254) : ∀ d i st k : Nat, ∀ (acc : List ByteArray) (cur : List UInt8), i + d = s.size → st ≤ i → ((L s).drop st).take (i - st) = cur → (∀ c ∈ cur, c ≠ 46) → acc.length ≤ i →
    (cur ++ (L s).drop i = [] ∨ (cur ++ (L s).drop i).getLast? = some 46) → d + 400 < k →
    ddiref01_split.l0 k s acc st i = some (if okCuts (decide (st = 0)) (cuts (cur ++ (L s).drop i)) = true then (acc ++ (cuts (cur ++ (L s).drop i)).map B, true) else ([], false)) := by
  intro d
  induction d with
  | zero =>
    intro i st k acc cur hd hst hcur hno hacc hend hk
    obtain ⟨k, rfl⟩ : ∃ m, k = m + 1 := ⟨k - 1, by omega⟩
    have hR : (L s).drop i = [] := List.drop_of_length_le (by rw [L_len]; omega)
    rw [hR, List.append_nil] at hend ⊢
    have hc0 : cur = [] := by
      rcases hend with h | h
      · exact h
      · obtain ⟨m, rfl⟩ := List.getLast?_eq_some_iff.1 h
        exact absurd rfl (hno 46 (by simp))
    subst hc0
    simp only [ddiref01_split.l0]
    rw [if_neg (by omega)]
    have : okCuts (decide (st = 0)) (cuts []) = true := by cases decide (st = 0) <;> rfl
    rw [if_pos this]; simp [cuts]
  | succ d ih =>
    intro i st k acc cur hd hst hcur hno hacc hend hk
    obtain ⟨k, rfl⟩ : ∃ m, k = m + 1 := ⟨k - 1, by omega⟩
    have hi : i < (L s).length := by rw [L_len]; omega
    have hw : wrap64 ((i : Int) + 1) = ((i + 1 : Nat) : Int) := by rw [wrap_id (by omega) (by omega)]; omega
    have hR : (L s).drop i = (L s)[i] :: (L s).drop (i + 1) := List.drop_eq_getElem_cons hi
    rw [hR] at hend ⊢
    simp only [ddiref01_split.l0]
    rw [if_pos (by omega), if_pos (by omega), bt_L s i hi]
    by_cases hc : (L s)[i] = 46
    · rw [if_pos (by rw [hc]; rfl), if_pos (by omega), if_pos (by omega), if_pos (by omega)]
      simp only [Int.toNat_natCast]
      have hLx : L (s.extract st i) = cur := by rw [L_extract]; exact hcur
      have hxs : (s.extract st i).size ≤ 254 := by
        rw [← L_len, hLx, ← hcur]
        have := List.length_take_le (i - st) ((L s).drop st)
        omega
      have hxB : s.extract st i = B cur := L_inj (by rw [hLx, L_B])
      have hend' : (L s).drop (i + 1) = [] ∨ ((L s).drop (i + 1)).getLast? = some 46 := by
        rcases hend with h | h
        · simp at h
        · cases hr : (L s).drop (i + 1) with
          | nil => exact .inl rfl
          | cons e r => right; rw [hr, List.getLast?_append, List.getLast?_cons_cons] at h; cases hq : (e :: r).getLast? with
            | none => simp at hq
            | some q => rw [hq] at h; simpa using h
      have hacc1 : acc.length < 8796093022208 := by omega
      have hnext := ih (i + 1) (i + 1) k (acc ++ [s.extract st i]) [] (by omega) (Nat.le_refl _) (by simp) (by simp) (by simp; omega) (by simpa using hend') (by omega)
      rw [show decide (i + 1 = 0) = false by simp, List.nil_append] at hnext
      rw [islab_f _ (by omega) k (by omega), hLx, hc, cuts_piece cur hno, okCuts_cons, hw]
      simp only [Option.bind_some]
      rw [toList_L, hLx]
      cases hlab : labL cur with
      | false => simp
      | true =>
        rw [if_pos rfl]
        have hfin : (if okCuts false (cuts ((L s).drop (i + 1))) = true then (acc ++ [s.extract st i] ++ (cuts ((L s).drop (i + 1))).map B, true) else ([], false)) =
            (if okCuts false (cuts ((L s).drop (i + 1))) = true then (acc ++ (cur :: cuts ((L s).drop (i + 1))).map B, true) else (([] : List ByteArray), false)) := by
          rw [hxB]; simp
        by_cases h42 : cur = [42]
        · have hb : (cur == [42]) = true := by simpa using h42
          rw [if_pos h42, hb]
          by_cases hst0 : st = 0
          · subst hst0
            rw [if_neg (by omega), if_pos hacc1, hnext, hfin]
            simp
          · rw [if_pos (by omega)]
            simp [hst0]
        · have hb : (cur == [42]) = false := by simpa using h42
          rw [if_neg h42, if_pos hacc1, hnext, hfin, hb]
          simp
    · rw [if_neg (by intro e; apply hc; apply UInt8.toNat_inj.1; have : (46 : UInt8).toNat = 46 := rfl; omega), hw]
      have hcur' : ((L s).drop st).take (i + 1 - st) = cur ++ [(L s)[i]] := by
        rw [show i + 1 - st = (i - st) + 1 by omega, List.take_succ_eq_append_getElem (by rw [List.length_drop]; omega), hcur]
        congr 2
        rw [List.getElem_drop]; congr 1; omega
      have := ih (i + 1) st k acc (cur ++ [(L s)[i]]) (by omega) (by omega) hcur' (by intro c hc'; rcases List.mem_append.1 hc' with h | h; exact hno c h; rw [List.mem_singleton.1 h]; exact hc) (by omega) (by simpa using hend) (by omega)
      rw [this]; simp

theorem split_f (s : ByteArray) (hs : s.size ≤ 140737488351232) (k : Nat) (hk : 1000 ≤ k) : ddiref01_split.f k s = some ((labelsL (L s)).map B, validL (L s)) := by
  obtain ⟨k, rfl⟩ : ∃ m, k = m + 1 := ⟨k - 1, by omega⟩
  have hl := L_len s
  unfold ddiref01_split.f
  rw [toList_L]
  by_cases h0 : L s = [46]
  · rw [if_pos h0, h0]; rfl
  have hb0 : (L s == [46]) = false := by simpa using h0
  rw [if_neg h0]
  by_cases h1 : (s.size : Int) < 2
  · rw [if_pos h1]
    have hv : validL (L s) = false := by
      cases hL : L s with
      | nil => rfl
      | cons c r =>
        have : r = [] := List.length_eq_zero_iff.1 (by rw [hL] at hl; simp at hl; omega)
        subst this
        have hc : c ≠ 46 := by rintro rfl; exact h0 hL
        simp [validL, hc]
    rw [hv, invalid_labels hv]
    simp [ddiref01_split.j0]
  rw [if_neg h1]
  by_cases h2 : (s.size : Int) > 254
  · rw [if_pos h2]
    have : ¬ (L s).length ≤ 254 := by omega
    have hv : validL (L s) = false := by simp only [validL, hb0, this, decide_false, Bool.false_and, Bool.false_or]
    rw [hv, invalid_labels hv]
    simp [ddiref01_split.j0]
  rw [if_neg h2]
  have hw : wrap64 ((s.size : Int) - 1) = ((s.size - 1 : Nat) : Int) := by rw [wrap_id (by omega) (by omega)]; omega
  rw [hw, if_pos (by omega), if_pos (by omega), bt_L s (s.size - 1) (by omega)]
  have hlast : (L s).getLast? = some (L s)[s.size - 1] := by
    have hidx : (L s).length - 1 = s.size - 1 := by omega
    rw [List.getLast?_eq_getElem?, List.getElem?_eq_getElem (by omega)]; simp only [hidx]
  have hle : (L s).length ≤ 254 := by omega
  simp only [ddiref01_split.j0]
  by_cases hc : (L s)[s.size - 1] = 46
  · have e1 : ((((L s)[s.size - 1]).toNat : Int) != 46) = false := by rw [hc]; rfl
    have hl46 : (L s).getLast? = some 46 := by rw [hlast, hc]
    have hv : validL (L s) = labs (cuts (L s)) := by simp only [validL, hb0, hle, decide_true, Bool.true_and, Bool.false_or, hl46]; simp
    rw [e1, if_neg (by decide)]
    have := split_l0 s (by omega) s.size 0 0 k [] [] (by omega) (Nat.le_refl _) (by simp) (by simp) (by simp) (Or.inr (by rw [List.nil_append, List.drop_zero]; exact hl46)) (by omega)
    rw [show (0 : Int) = ((0 : Nat) : Int) from rfl, this]
    simp only [List.drop_zero, List.nil_append, decide_true, okCuts, if_true]
    rw [hv, labelsL, if_neg h0, hv]
    cases labs (cuts (L s)) <;> simp
  · have e1 : ((((L s)[s.size - 1]).toNat : Int) != 46) = true := by
      rw [bne_iff_ne]; intro e; apply hc; apply UInt8.toNat_inj.1; have : (46 : UInt8).toNat = 46 := rfl; omega
    have e2 : (some (L s)[s.size - 1] == some (46 : UInt8)) = false := beq_eq_false_iff_ne.2 (fun e => hc (Option.some.inj e))
    have hv : validL (L s) = false := by simp only [validL, hb0, hle, decide_true, Bool.true_and, Bool.false_or, hlast, e2, Bool.false_and]
    rw [e1, if_pos rfl, hv, invalid_labels hv]; rfl

theorem rlabels_f (s : ByteArray) (hs : s.size ≤ 140737488351232) (k : Nat) (hk : 1000 ≤ k) : ddiref01_Labels.f k s = some ((labelsL (L s)).map B) := by
  unfold ddiref01_Labels.f; rw [split_f s hs k hk]; rfl

/-! ### labels in common -/
theorem same_l0 (a b : List ByteArray) (ha : a.length ≤ 1000000) (hb : b.length ≤ 1000000) : ∀ d i k : Nat, i + d = sameN (a.map L) (b.map L) → d < k → ddiref01_same.l0 k a b i = some ((sameN (a.map L) (b.map L) : Nat) : Int) := by
  have hle := sameN_le (a.map L) (b.map L)
  rw [List.length_map, List.length_map] at hle
  have key : ∀ i, i < a.length → i < b.length → wrap64 (wrap64 ((a.length : Int) - 1) - i) = ((a.length - 1 - i : Nat) : Int) ∧ wrap64 (wrap64 ((b.length : Int) - 1) - i) = ((b.length - 1 - i : Nat) : Int) := by
    intro i h1 h2
    have e1 : wrap64 ((a.length : Int) - 1) = (a.length : Int) - 1 := wrap_id (by omega) (by omega)
    have e2 : wrap64 ((b.length : Int) - 1) = (b.length : Int) - 1 := wrap_id (by omega) (by omega)
    rw [e1, e2]
    exact ⟨by rw [wrap_id (by omega) (by omega)]; omega, by rw [wrap_id (by omega) (by omega)]; omega⟩
  have rev : ∀ (x : List ByteArray) (i : Nat) (h : i < x.length) (h' : i < (x.map L).reverse.length), (x.map L).reverse[i] = L (x[x.length - 1 - i]'(by omega)) := by
    intro x i h h'
    rw [List.getElem_reverse, List.getElem_map]; simp
  intro d
  induction d with
  | zero =>
    intro i k hd hk
    obtain ⟨k, rfl⟩ : ∃ m, k = m + 1 := ⟨k - 1, by omega⟩
    simp only [ddiref01_same.l0]
    by_cases h1 : (i : Int) < a.length
    · rw [if_pos h1]
      by_cases h2 : (i : Int) < b.length
      · obtain ⟨k1, k2⟩ := key i (by omega) (by omega)
        rw [if_pos h2, k1, k2, if_pos (by omega), if_pos (by omega), if_pos (by omega), if_pos (by omega), toList_L, toList_L]
        have r1 : rdOf ByteArray.empty a ((a.length - 1 - i : Nat) : Int) = a[a.length - 1 - i]'(by omega) := by simp [rdOf, List.getElem?_eq_getElem (show a.length - 1 - i < a.length by omega)]
        have r2 : rdOf ByteArray.empty b ((b.length - 1 - i : Nat) : Int) = b[b.length - 1 - i]'(by omega) := by simp [rdOf, List.getElem?_eq_getElem (show b.length - 1 - i < b.length by omega)]
        have hne := cpl_ne (a.map L).reverse (b.map L).reverse (by rw [List.length_reverse, List.length_map]; unfold sameN at hd; omega) (by rw [List.length_reverse, List.length_map]; unfold sameN at hd; omega)
        rw [rev a _ (by unfold sameN at hd; omega), rev b _ (by unfold sameN at hd; omega)] at hne
        have hi : cpl (a.map L).reverse (b.map L).reverse = i := by unfold sameN at hd; omega
        simp only [hi] at hne
        rw [r1, r2, if_neg hne]; congr 1; omega
      · rw [if_neg h2]; congr 1; omega
    · rw [if_neg h1]; congr 1; omega
  | succ d ih =>
    intro i k hd hk
    obtain ⟨k, rfl⟩ : ∃ m, k = m + 1 := ⟨k - 1, by omega⟩
    have hw : wrap64 ((i : Int) + 1) = ((i + 1 : Nat) : Int) := by rw [wrap_id (by omega) (by omega)]; omega
    obtain ⟨k1, k2⟩ := key i (by omega) (by omega)
    simp only [ddiref01_same.l0]
    rw [if_pos (by omega), if_pos (by omega), k1, k2, if_pos (by omega), if_pos (by omega), if_pos (by omega), if_pos (by omega), toList_L, toList_L]
    have r1 : rdOf ByteArray.empty a ((a.length - 1 - i : Nat) : Int) = a[a.length - 1 - i]'(by omega) := by simp [rdOf, List.getElem?_eq_getElem (show a.length - 1 - i < a.length by omega)]
    have r2 : rdOf ByteArray.empty b ((b.length - 1 - i : Nat) : Int) = b[b.length - 1 - i]'(by omega) := by simp [rdOf, List.getElem?_eq_getElem (show b.length - 1 - i < b.length by omega)]
    have heq := cpl_get (a.map L).reverse (b.map L).reverse i (by unfold sameN at hd; omega) (by rw [List.length_reverse, List.length_map]; omega) (by rw [List.length_reverse, List.length_map]; omega)
    rw [rev a i (by omega), rev b i (by omega)] at heq
    rw [r1, r2, if_pos heq, hw, ih (i + 1) k (by omega) (by omega)]

theorem same_f (a b : List ByteArray) (ha : a.length ≤ 1000000) (hb : b.length ≤ 1000000) (k : Nat) (hk : a.length + 1 ≤ k) : ddiref01_same.f k a b = some ((sameN (a.map L) (b.map L) : Nat) : Int) := by
  have hle := (sameN_le (a.map L) (b.map L)).1
  rw [List.length_map] at hle
  exact same_l0 a b ha hb (sameN (a.map L) (b.map L)) 0 k (by omega) (by omega)

theorem runder_f (a t : ByteArray) (ha : a.size ≤ 140737488351232) (ht : t.size ≤ 140737488351232) (k : Nat) (hk : 1000 ≤ k) : ddiref01_Under.f k a t = some (underL (L a) (L t)) := by
  unfold ddiref01_Under.f underL
  rw [split_f a ha k hk, split_f t ht k hk]
  have l1 := labels_len (L a); have l2 := labels_len (L t)
  simp only [Option.bind_some]
  rw [same_f _ _ (by simp; omega) (by simp; omega) k (by simp; omega), map_LB, map_LB]
  cases validL (L a) with
  | false => simp
  | true =>
    cases validL (L t) with
    | false => simp
    | true =>
      simp only [if_true, Option.bind_some, Bool.true_and, List.length_map]
      congr 1
      rw [Bool.eq_iff_iff, beq_iff_eq, List.isSuffixOf_iff_suffix, ← sameN_suffix]
      omega

/-! ### the name of labels, and the parent -/
theorem name_l0 (l : List ByteArray) (hn : l.length ≤ 1000000) (hs : ∀ x ∈ l, x.size ≤ 1000000) : ∀ d i k : Nat, ∀ s : ByteArray, i + d = l.length → d < k → s.size ≤ 1000001 * i → ddiref01_name.l0 k l s i = some (s ++ B (txt ((l.map L).drop i))) := by
  intro d
  induction d with
  | zero =>
    intro i k s hd hk hsz
    obtain ⟨k, rfl⟩ : ∃ m, k = m + 1 := ⟨k - 1, by omega⟩
    simp only [ddiref01_name.l0]
    rw [if_neg (by omega), List.drop_of_length_le (by simp; omega)]
    congr 1; apply L_inj; rw [L_append]; simp [txt, B]
  | succ d ih =>
    intro i k s hd hk hsz
    obtain ⟨k, rfl⟩ : ∃ m, k = m + 1 := ⟨k - 1, by omega⟩
    have hi : i < l.length := by omega
    have hw : wrap64 ((i : Int) + 1) = ((i + 1 : Nat) : Int) := by rw [wrap_id (by omega) (by omega)]; omega
    have hr : rdOf ByteArray.empty l (i : Int) = l[i] := by simp [rdOf, hi]
    have hx := hs _ (List.getElem_mem hi)
    have h1 : (⟨#[46]⟩ : ByteArray).size = 1 := rfl
    simp only [ddiref01_name.l0]
    rw [if_pos (by omega), if_pos (by omega), hr, if_pos (by omega), if_pos (by rw [ByteArray.size_append]; omega), hw, ih (i + 1) k _ (by omega) (by omega) (by rw [ByteArray.size_append, ByteArray.size_append]; omega)]
    congr 1; apply L_inj
    have hdrop : (l.map L).drop i = L l[i] :: (l.map L).drop (i + 1) := by rw [List.drop_eq_getElem_cons (by simpa using hi)]; simp
    rw [hdrop, txt_cons, L_append, L_append, L_append, L_append, L_B, L_B]
    simp [show L (⟨#[46]⟩ : ByteArray) = [46] from rfl]

theorem name_f (l : List ByteArray) (hn : l.length ≤ 1000000) (hs : ∀ x ∈ l, x.size ≤ 1000000) (k : Nat) (hk : l.length < k) : ddiref01_name.f k l = some (B (nm (l.map L))) := by
  unfold ddiref01_name.f nm
  by_cases h : l = []
  · subst h; rw [if_pos (by simp)]; rfl
  · have : 0 < l.length := List.length_pos_iff.2 h
    rw [if_neg (by omega), if_neg (by simpa using h)]
    have := name_l0 l hn hs l.length 0 k ⟨#[]⟩ (by omega) (by omega) (by simp [ByteArray.size])
    rw [show (0 : Int) = ((0 : Nat) : Int) from rfl, this, List.drop_zero]
    have e : (⟨#[]⟩ : ByteArray) ++ B (txt (l.map L)) = B (txt (l.map L)) := L_inj (by rw [L_append]; rfl)
    rw [e]

/-- the parent, in both texts -/
def parentS (a : ByteArray) : ByteArray × Bool := if labelsL (L a) = [] then (⟨#[]⟩, false) else (B (nm ((labelsL (L a)).drop 1)), true)
theorem rparent_f (a : ByteArray) (ha : a.size ≤ 140737488351232) (k : Nat) (hk : 1000 ≤ k) : ddiref01_Parent.f k a = some (parentS a) := by
  unfold ddiref01_Parent.f parentS
  rw [split_f a ha k hk]
  have hl := labels_len (L a)
  simp only [Option.bind_some, List.length_map]
  by_cases h : labelsL (L a) = []
  · rw [h, if_pos (by rfl), if_pos rfl]
  · have : 0 < (labelsL (L a)).length := List.length_pos_iff.2 h
    rw [if_neg (by omega), if_pos (by omega), if_neg h, ← List.map_drop, name_f _ (by simp; omega) (fun x hx => by
      rw [List.map_drop] at hx
      have := size_B_label (L a) x (List.mem_of_mem_drop hx); omega) k (by simp; omega), map_LB]
    rfl

end Go.Proofs.YtannhjclhdennaaDoor.Pa
