/- Parts of the proof of this claim's statement (joined by a program of this session): NewP, Aw0, Awk. -/
import Derived.Test.YtlabnocmmeciaaaDoorn5
import Derived.Test.YtlabnocmmeciaaaDoorn1
import Derived.Test.YtlabnocmmeciaaaDoorn6
import Derived.Test.YtlabnocmmeciaaaDoorn3
namespace Go.Proofs.YtlabnocmmeciaaaDoor.Pa
open Go.RowKit Go.Proofs.YtlabnocmmeciaaaDoorW.PrintWords Go.Proofs.YtlabnocmmeciaaaDoorW.PrintLast Go.Proofs.YtlabnocmmeciaaaDoor.DN
set_option linter.unusedVariables false
set_option linter.unusedSimpArgs false
theorem rd_at (x : List ByteArray) (i : Nat) (h : i < x.length) : rdOf ByteArray.empty x (i : Int) = x[i] := by simp [rdOf, List.getElem?_eq_getElem h]
theorem low_ifs2 {α : Type} (b : Int) (y z : α) : (if b ≥ 97 then (if b ≤ 122 then y else (if b ≥ 48 then (if b ≤ 57 then y else (if b = 45 then y else (if (b = 95) then y else z))) else (if b = 45 then y else (if (b = 95) then y else z)))) else (if b ≥ 48 then (if b ≤ 57 then y else (if b = 45 then y else (if (b = 95) then y else z))) else (if b = 45 then y else (if (b = 95) then y else z)))) = if lowI b = true then y else z := by
  unfold lowI
  repeat' split
  all_goals first | rfl | (simp_all; done) | (simp_all; omega)

theorem islab_l0 (s : ByteArray) (hs : s.size ≤ 140737488351232) : ∀ d i k : Nat, i + d = s.size → d < k → ddiref01_isLabel.l0 k s i = some (((L s).drop i).all isLow) := by
  intro d
  induction d with
  | zero =>
    intro i k hd hk
    obtain ⟨k, rfl⟩ : ∃ m, k = m + 1 := ⟨k - 1, by omega⟩
    simp only [ddiref01_isLabel.l0]
    rw [if_neg (by omega), List.drop_of_length_le (by rw [L_len]; omega)]
    rfl
  | succ d ih =>
    intro i k hd hk
    obtain ⟨k, rfl⟩ : ∃ m, k = m + 1 := ⟨k - 1, by omega⟩
    have hi : i < (L s).length := by rw [L_len]; omega
    have hw : wrap64 ((i : Int) + 1) = ((i + 1 : Nat) : Int) := by rw [wrap_id (by omega) (by omega)]; omega
    simp only [ddiref01_isLabel.l0]
    rw [if_pos (by omega), if_pos (by omega), low_ifs2, bt_L s i hi, lowI_isLow, hw, ih (i + 1) k (by omega) (by omega), List.drop_eq_getElem_cons hi, List.all_cons]
    cases isLow (L s)[i] <;> simp

theorem islab_f (s : ByteArray) (hs : s.size ≤ 140737488351232) (k : Nat) (hk : s.size + 3 ≤ k) : ddiref01_isLabel.f k s = some (labL (L s)) := by
  obtain ⟨k, rfl⟩ : ∃ m, k = m + 1 := ⟨k - 1, by omega⟩
  unfold ddiref01_isLabel.f labL
  have hl := L_len s
  rw [toList_L]
  by_cases h0 : L s = [42]
  · rw [if_pos h0]; simp [h0]
  have hb : (L s == [42]) = false := by simpa using h0
  rw [if_neg h0, hb, Bool.or_false]
  by_cases h1 : (s.size : Int) < 1
  · rw [if_pos h1]
    have : L s = [] := List.length_eq_zero_iff.1 (by omega)
    simp [ddiref01_isLabel.j0, ordL, this]
  rw [if_neg h1]
  simp only [ddiref01_isLabel.j0]
  have hne : (L s).isEmpty = false := by cases hL : L s with | nil => rw [hL] at hl; simp at hl; omega | cons => rfl
  by_cases h2 : (s.size : Int) > 63
  · have : ¬ (L s).length ≤ 63 := by omega
    simp only [h2, decide_true, if_true, ordL, this, decide_false, Bool.and_false, Bool.false_and]
  · have h := islab_l0 s hs s.size 0 k (by omega) (by omega)
    have : (L s).length ≤ 63 := by omega
    simp only [h2, decide_false, Bool.false_eq_true, if_false]
    rw [show (0 : Int) = ((0 : Nat) : Int) from rfl, h]
    simp only [ordL, hne, Bool.not_false, Bool.true_and, this, decide_true, List.drop_zero]

/-- what split makes of the labels that are left, st > 0 or not -/
def okCuts (first : Bool) (l : List (List UInt8)) : Bool := if first then labs l else l.all ordL
theorem okCuts_cons (first : Bool) (x : List UInt8) (l : List (List UInt8)) : okCuts first (x :: l) = ((labL x && (first || !(x == [42]))) && okCuts false l) := by
  have h42 : ordL [42] = false := by decide
  cases first with
  | true => simp [okCuts, labs]
  | false =>
    simp only [okCuts, Bool.false_eq_true, if_false, List.all_cons, Bool.false_or, labL]
    by_cases h : x = [42]
    · subst h; simp [h42]
    · have : (x == [42]) = false := by simpa using h
      simp [this]

theorem split_l0 (s : ByteArray) (hs : s.size ≤ 254) : ∀ d i st k : Nat, ∀ (acc : List ByteArray) (cur : List UInt8), i + d = s.size → st ≤ i → ((L s).drop st).take (i - st) = cur → (∀ c ∈ cur, c ≠ 46) → acc.length ≤ i →
    (cur ++ (L s).drop i = [] ∨ (cur ++ (L s).drop i).getLast? = some 46) → d + 400 < k →
    ddiref01_split.l0 k s acc st i = some (if okCuts (decide (st = 0)) (cuts (cur ++ (L s).drop i)) = true then (acc ++ (cuts (cur ++ (L s).drop i)).map B, true) else ([], false)) := by
  intro d
  induction d with
  | zero =>
    intro i st k acc cur hd hst hcur hno hacc hend hk
    obtain ⟨k, rfl⟩ : ∃ m, k = m + 1 := ⟨k - 1, by omega⟩
    have hR : (L s).drop i = [] := List.drop_of_length_le (by rw [L_len]; omega)
    rw [hR, List.append_nil] at hend ⊢
    have hc0 : cur = [] := by
      rcases hend with h | h
      · exact h
      · obtain ⟨m, rfl⟩ := List.getLast?_eq_some_iff.1 h
        exact absurd rfl (hno 46 (by simp))
    subst hc0
    simp only [ddiref01_split.l0]
    rw [if_neg (by omega)]
    have : okCuts (decide (st = 0)) (cuts []) = true := by cases decide (st = 0) <;> rfl
    rw [if_pos this]; simp [cuts]
  | succ d ih =>
    intro i st k acc cur hd hst hcur hno hacc hend hk
    obtain ⟨k, rfl⟩ : ∃ m, k = m + 1 := ⟨k - 1, by omega⟩
    have hi : i < (L s).length := by rw [L_len]; omega
    have hw : wrap64 ((i : Int) + 1) = ((i + 1 : Nat) : Int) := by rw [wrap_id (by omega) (by omega)]; omega
    have hR : (L s).drop i = (L s)[i] :: (L s).drop (i + 1) := List.drop_eq_getElem_cons hi
    rw [hR] at hend ⊢
    simp only [ddiref01_split.l0]
    rw [if_pos (by omega), if_pos (by omega), bt_L s i hi]
    by_cases hc : (L s)[i] = 46
    · rw [if_pos (by rw [hc]; rfl), if_pos (by omega), if_pos (by omega), if_pos (by omega)]
      simp only [Int.toNat_natCast]
      have hLx : L (s.extract st i) = cur := by rw [L_extract]; exact hcur
      have hxs : (s.extract st i).size ≤ 254 := by
        rw [← L_len, hLx, ← hcur]
        have := List.length_take_le (i - st) ((L s).drop st)
        omega
      have hxB : s.extract st i = B cur := L_inj (by rw [hLx, L_B])
      have hend' : (L s).drop (i + 1) = [] ∨ ((L s).drop (i + 1)).getLast? = some 46 := by
        rcases hend with h | h
        · simp at h
        · cases hr : (L s).drop (i + 1) with
          | nil => exact .inl rfl
          | cons e r => right; rw [hr, List.getLast?_append, List.getLast?_cons_cons] at h; cases hq : (e :: r).getLast? with
            | none => simp at hq
            | some q => rw [hq] at h; simpa using h
      have hacc1 : acc.length < 8796093022208 := by omega
      have hnext := ih (i + 1) (i + 1) k (acc ++ [s.extract st i]) [] (by omega) (Nat.le_refl _) (by simp) (by simp) (by simp; omega) (by simpa using hend') (by omega)
      rw [show decide (i + 1 = 0) = false by simp, List.nil_append] at hnext
      rw [islab_f _ (by omega) k (by omega), hLx, hc, cuts_piece cur hno, okCuts_cons, hw]
      simp only [Option.bind_some]
      rw [toList_L, hLx]
      cases hlab : labL cur with
      | false => simp
      | true =>
        rw [if_pos rfl]
        have hfin : (if okCuts false (cuts ((L s).drop (i + 1))) = true then (acc ++ [s.extract st i] ++ (cuts ((L s).drop (i + 1))).map B, true) else ([], false)) =
            (if okCuts false (cuts ((L s).drop (i + 1))) = true then (acc ++ (cur :: cuts ((L s).drop (i + 1))).map B, true) else (([] : List ByteArray), false)) := by
          rw [hxB]; simp
        by_cases h42 : cur = [42]
        · have hb : (cur == [42]) = true := by simpa using h42
          rw [if_pos h42, hb]
          by_cases hst0 : st = 0
          · subst hst0
            rw [if_neg (by omega), if_pos hacc1, hnext, hfin]
            simp
          · rw [if_pos (by omega)]
            simp [hst0]
        · have hb : (cur == [42]) = false := by simpa using h42
          rw [if_neg h42, if_pos hacc1, hnext, hfin, hb]
          simp
    · rw [if_neg (by intro e; apply hc; apply UInt8.toNat_inj.1; have : (46 : UInt8).toNat = 46 := rfl; omega), hw]
      have hcur' : ((L s).drop st).take (i + 1 - st) = cur ++ [(L s)[i]] := by
        rw [show i + 1 - st = (i - st) + 1 by omega, List.take_succ_eq_append_getElem (by rw [List.length_drop]; omega), hcur]
        congr 2
        rw [List.getElem_drop]; congr 1; omega
      have := ih (i + 1) st k acc (cur ++ [(L s)[i]]) (by omega) (by omega) hcur' (by intro c hc'; rcases List.mem_append.1 hc' with h | h; exact hno c h; rw [List.mem_singleton.1 h]; exact hc) (by omega) (by simpa using hend) (by omega)
      rw [this]; simp

theorem split_f (s : ByteArray) (hs : s.size ≤ 140737488351232) (k : Nat) (hk : 1000 ≤ k) : ddiref01_split.f k s = some ((labelsL (L s)).map B, validL (L s)) := by
  obtain ⟨k, rfl⟩ : ∃ m, k = m + 1 := ⟨k - 1, by omega⟩
  have hl := L_len s
  unfold ddiref01_split.f
  rw [toList_L]
  by_cases h0 : L s = [46]
  · rw [if_pos h0, h0]; rfl
  have hb0 : (L s == [46]) = false := by simpa using h0
  rw [if_neg h0]
  by_cases h1 : (s.size : Int) < 2
  · rw [if_pos h1]
    have hv : validL (L s) = false := by
      cases hL : L s with
      | nil => rfl
      | cons c r =>
        have : r = [] := List.length_eq_zero_iff.1 (by rw [hL] at hl; simp at hl; omega)
        subst this
        have hc : c ≠ 46 := by rintro rfl; exact h0 hL
        simp [validL, hc]
    rw [hv, invalid_labels hv]
    simp [ddiref01_split.j0]
  rw [if_neg h1]
  by_cases h2 : (s.size : Int) > 254
  · rw [if_pos h2]
    have : ¬ (L s).length ≤ 254 := by omega
    have hv : validL (L s) = false := by simp only [validL, hb0, this, decide_false, Bool.false_and, Bool.false_or]
    rw [hv, invalid_labels hv]
    simp [ddiref01_split.j0]
  rw [if_neg h2]
  have hw : wrap64 ((s.size : Int) - 1) = ((s.size - 1 : Nat) : Int) := by rw [wrap_id (by omega) (by omega)]; omega
  rw [hw, if_pos (by omega), if_pos (by omega), bt_L s (s.size - 1) (by omega)]
  have hlast : (L s).getLast? = some (L s)[s.size - 1] := by
    have hidx : (L s).length - 1 = s.size - 1 := by omega
    rw [List.getLast?_eq_getElem?, List.getElem?_eq_getElem (by omega)]; simp only [hidx]
  have hle : (L s).length ≤ 254 := by omega
  simp only [ddiref01_split.j0]
  by_cases hc : (L s)[s.size - 1] = 46
  · have e1 : ((((L s)[s.size - 1]).toNat : Int) != 46) = false := by rw [hc]; rfl
    have hl46 : (L s).getLast? = some 46 := by rw [hlast, hc]
    have hv : validL (L s) = labs (cuts (L s)) := by simp only [validL, hb0, hle, decide_true, Bool.true_and, Bool.false_or, hl46]; simp
    rw [e1, if_neg (by decide)]
    have := split_l0 s (by omega) s.size 0 0 k [] [] (by omega) (Nat.le_refl _) (by simp) (by simp) (by simp) (Or.inr (by rw [List.nil_append, List.drop_zero]; exact hl46)) (by omega)
    rw [show (0 : Int) = ((0 : Nat) : Int) from rfl, this]
    simp only [List.drop_zero, List.nil_append, decide_true, okCuts, if_true]
    rw [hv, labelsL, if_neg h0, hv]
    cases labs (cuts (L s)) <;> simp
  · have e1 : ((((L s)[s.size - 1]).toNat : Int) != 46) = true := by
      rw [bne_iff_ne]; intro e; apply hc; apply UInt8.toNat_inj.1; have : (46 : UInt8).toNat = 46 := rfl; omega
    have e2 : (some (L s)[s.size - 1] == some (46 : UInt8)) = false := beq_eq_false_iff_ne.2 (fun e => hc (Option.some.inj e))
    have hv : validL (L s) = false := by simp only [validL, hb0, hle, decide_true, Bool.true_and, Bool.false_or, hlast, e2, Bool.false_and]
    rw [e1, if_pos rfl, hv, invalid_labels hv]; rfl


theorem name_l0 (l : List ByteArray) (hn : l.length ≤ 1000000) (hs : ∀ x ∈ l, x.size ≤ 1000000) : ∀ d i k : Nat, ∀ s : ByteArray, i + d = l.length → d < k → s.size ≤ 1000001 * i → ddiref01_name.l0 k l s i = some (s ++ B (txt ((l.map L).drop i))) := by
  intro d
  induction d with
  | zero =>
    intro i k s hd hk hsz
    obtain ⟨k, rfl⟩ : ∃ m, k = m + 1 := ⟨k - 1, by omega⟩
    simp only [ddiref01_name.l0]
    rw [if_neg (by omega), List.drop_of_length_le (by simp; omega)]
    congr 1; apply L_inj; rw [L_append]; simp [txt, B]
  | succ d ih =>
    intro i k s hd hk hsz
    obtain ⟨k, rfl⟩ : ∃ m, k = m + 1 := ⟨k - 1, by omega⟩
    have hi : i < l.length := by omega
    have hw : wrap64 ((i : Int) + 1) = ((i + 1 : Nat) : Int) := by rw [wrap_id (by omega) (by omega)]; omega
    have hr : rdOf ByteArray.empty l (i : Int) = l[i] := by simp [rdOf, hi]
    have hx := hs _ (List.getElem_mem hi)
    have h1 : (⟨#[46]⟩ : ByteArray).size = 1 := rfl
    simp only [ddiref01_name.l0]
    rw [if_pos (by omega), if_pos (by omega), hr, if_pos (by omega), if_pos (by rw [ByteArray.size_append]; omega), hw, ih (i + 1) k _ (by omega) (by omega) (by rw [ByteArray.size_append, ByteArray.size_append]; omega)]
    congr 1; apply L_inj
    have hdrop : (l.map L).drop i = L l[i] :: (l.map L).drop (i + 1) := by rw [List.drop_eq_getElem_cons (by simpa using hi)]; simp
    rw [hdrop, txt_cons, L_append, L_append, L_append, L_append, L_B, L_B]
    simp [show L (⟨#[46]⟩ : ByteArray) = [46] from rfl]

theorem name_f (l : List ByteArray) (hn : l.length ≤ 1000000) (hs : ∀ x ∈ l, x.size ≤ 1000000) (k : Nat) (hk : l.length < k) : ddiref01_name.f k l = some (B (nm (l.map L))) := by
  unfold ddiref01_name.f nm
  by_cases h : l = []
  · subst h; rw [if_pos (by simp)]; rfl
  · have : 0 < l.length := List.length_pos_iff.2 h
    rw [if_neg (by omega), if_neg (by simpa using h)]
    have := name_l0 l hn hs l.length 0 k ⟨#[]⟩ (by omega) (by omega) (by simp [ByteArray.size])
    rw [show (0 : Int) = ((0 : Nat) : Int) from rfl, this, List.drop_zero]
    have e : (⟨#[]⟩ : ByteArray) ++ B (txt (l.map L)) = B (txt (l.map L)) := L_inj (by rw [L_append]; rfl)
    rw [e]


theorem rvalid_f (a : ByteArray) (ha : a.size ≤ 140737488351232) (k : Nat) (hk : 1000 ≤ k) : ddiref01_Valid.f k a = some (validL (L a)) := by
  unfold ddiref01_Valid.f; rw [split_f a ha k hk]; rfl
theorem rjoin1 (h : ByteArray) (hs : h.size ≤ 140737488351232) (k : Nat) (hk : h.size + 3000 ≤ k) : ddiref01_Join.f k [h] = some (joinL [h]) := by
  obtain ⟨k, rfl⟩ : ∃ j, k = j + 2 := ⟨k - 2, by omega⟩
  have e0 : joinL [h] = if labL (L h) = true then (if validL (txt [L h]) = true then (B (txt [L h]), 0) else (⟨#[]⟩, 2)) else (⟨#[]⟩, 2) := by
    unfold joinL; rw [if_neg (by simp), if_neg (by simp)]; simp
  rw [e0]
  unfold ddiref01_Join.f
  rw [if_neg (by simp)]
  rw [show ddiref01_Join.l0 (k + 2) [h] 0 = (ddiref01_isLabel.f (k + 1) (rdOf ByteArray.empty [h] ((0 : Nat) : Int))).bind fun t128 => (if t128 = true then (ddiref01_Join.l0 (k + 1) [h] (wrap64 (0 + 1))) else (some ((⟨#[]⟩ : ByteArray), 2))) from by
    simp only [ddiref01_Join.l0]; rw [if_pos (by simp), if_pos (by omega)]; rfl]
  rw [rd_at [h] 0 (by simp), show [h][0]'(by simp) = h from rfl, islab_f _ hs (k + 1) (by show h.size + 3 ≤ k + 1; omega), Option.bind_some]
  show (if labL (L h) = true then _ else _) = _
  by_cases hl : labL (L h) = true
  · have h63 := lab_len' hl
    rw [L_len] at h63
    have hsz : (B (nm [L h])).size ≤ 140737488351232 := by rw [B_size, nm, if_neg (by simp), txt_cons, txt_nil, List.length_append, L_len]; simp; omega
    rw [if_pos hl, if_pos hl]
    rw [show wrap64 (0 + 1) = ((1 : Nat) : Int) from by rw [wrap_id (by omega) (by omega)]; rfl]
    simp only [ddiref01_Join.l0]
    rw [if_neg (by simp), name_f [h] (by simp) (fun x hx => by rw [List.mem_singleton] at hx; subst hx; omega) k (by simp; omega), Option.bind_some, show List.map L [h] = [L h] from rfl, rvalid_f _ hsz k (by omega), Option.bind_some, L_B]
    rw [show nm [L h] = txt [L h] from by rw [nm, if_neg (by simp)]]
    cases validL (txt [L h]) <;> rfl
  · rw [if_neg hl, if_neg hl]

def vis (b : UInt8) : Bool := decide (33 ≤ b.toNat ∧ b.toNat ≤ 126)
def cli (s : ByteArray) : Bool := decide (1 ≤ s.size ∧ s.size ≤ 32) && (L s).all vis
theorem wsucc' {i : Nat} (h : i < 9223372036854775806) : wrap64 ((i : Int) + 1) = ((i + 1 : Nat) : Int) := by rw [wrap_id (by omega) (by omega)]; rfl
theorem drop_at' {α : Type} {l : List α} {i : Nat} (h : i < l.length) : l.drop i = l[i] :: l.drop (i + 1) := by rw [List.drop_eq_getElem_cons h]
theorem stc_l (s : ByteArray) (hs : s.size ≤ 140737488351232) : ∀ (n k i : Nat), s.size - i ≤ n → n < k → i ≤ s.size → station_isClient.l0 k s (i : Int) = some (((L s).drop i).all vis && decide (1 ≤ s.size ∧ s.size ≤ 32)) := by
  have he : (if (s.size : Int) ≥ 1 then (some (decide ((s.size : Int) ≤ 32))) else (some false)) = some (decide (1 ≤ s.size ∧ s.size ≤ 32)) := by
    by_cases h1 : 1 ≤ s.size
    · rw [if_pos (by omega)]; congr 1; exact decide_eq_decide.mpr (by omega)
    · rw [if_neg (by omega), decide_eq_false (by omega)]
  intro n
  induction n with
  | zero =>
    intro k i hn hk hi
    obtain ⟨k, rfl⟩ : ∃ q, k = q + 1 := ⟨k - 1, by omega⟩
    rw [station_isClient.l0, if_neg (by omega), List.drop_eq_nil_of_le (by rw [L_len]; omega), he]; rfl
  | succ n ih =>
    intro k i hn hk hi
    obtain ⟨k, rfl⟩ : ∃ q, k = q + 1 := ⟨k - 1, by omega⟩
    by_cases hlt : i < s.size
    · have hL : i < (L s).length := by rw [L_len]; exact hlt
      rw [station_isClient.l0, if_pos (by omega), if_pos (by omega), bt_L s i hL, drop_at' hL, List.all_cons]
      by_cases h1 : (L s)[i].toNat < 33
      · rw [if_pos (by omega), show vis (L s)[i] = false from decide_eq_false (by omega)]; rfl
      · rw [if_neg (by omega)]
        by_cases h2 : 126 < (L s)[i].toNat
        · rw [if_pos (by omega), show vis (L s)[i] = false from decide_eq_false (by omega)]; rfl
        · rw [if_neg (by omega), show vis (L s)[i] = true from decide_eq_true (by omega), Bool.true_and, wsucc' (by omega)]
          exact ih k (i + 1) (by omega) (by omega) (by omega)
    · rw [station_isClient.l0, if_neg (by omega), List.drop_eq_nil_of_le (by rw [L_len]; omega), he]; rfl
theorem stclient_f (s : ByteArray) (hs : s.size ≤ 140737488351232) (k : Nat) (hk : s.size < k) : station_isClient.f k s = some (cli s) := by
  unfold station_isClient.f cli
  rw [show station_isClient.l0 k s 0 = _ from stc_l s hs s.size k 0 (by omega) hk (by omega), List.drop_zero, Bool.and_comm]
theorem r38_l (s : ByteArray) (hs : s.size ≤ 32) : ∀ (n k i : Nat), s.size - i ≤ n → n < k → i ≤ s.size → ddiref38_Client.l0 k s (i : Int) = some (((L s).drop i).all vis) := by
  intro n
  induction n with
  | zero =>
    intro k i hn hk hi
    obtain ⟨k, rfl⟩ : ∃ q, k = q + 1 := ⟨k - 1, by omega⟩
    rw [ddiref38_Client.l0, if_neg (by omega), List.drop_eq_nil_of_le (by rw [L_len]; omega)]; rfl
  | succ n ih =>
    intro k i hn hk hi
    obtain ⟨k, rfl⟩ : ∃ q, k = q + 1 := ⟨k - 1, by omega⟩
    by_cases hlt : i < s.size
    · have hL : i < (L s).length := by rw [L_len]; exact hlt
      rw [ddiref38_Client.l0, if_pos (by omega), if_pos (by omega), bt_L s i hL, drop_at' hL, List.all_cons]
      by_cases h1 : (L s)[i].toNat < 33
      · rw [if_pos (by omega), show vis (L s)[i] = false from decide_eq_false (by omega)]; rfl
      · rw [if_neg (by omega)]
        by_cases h2 : 126 < (L s)[i].toNat
        · rw [if_pos (by omega), show vis (L s)[i] = false from decide_eq_false (by omega)]; rfl
        · rw [if_neg (by omega), show vis (L s)[i] = true from decide_eq_true (by omega), Bool.true_and, wsucc' (by omega)]
          exact ih k (i + 1) (by omega) (by omega) (by omega)
    · rw [ddiref38_Client.l0, if_neg (by omega), List.drop_eq_nil_of_le (by rw [L_len]; omega)]; rfl
theorem r38client_f (s : ByteArray) (k : Nat) (hk : 100 < k) : ddiref38_Client.f k s = some (cli s) := by
  obtain ⟨k, rfl⟩ : ∃ q, k = q + 1 := ⟨k - 1, by omega⟩
  unfold ddiref38_Client.f cli
  by_cases h0 : s.size = 0
  · rw [if_pos (by omega), ddiref38_Client.j0, if_pos rfl, decide_eq_false (by omega)]; rfl
  · rw [if_neg (by omega), ddiref38_Client.j0]
    by_cases h : s.size ≤ 32
    · rw [decide_eq_false (show ¬ ((s.size : Int) > 32) by omega), if_neg (by decide), decide_eq_true (by omega), Bool.true_and]
      exact r38_l s h s.size k 0 (by omega) (by omega) (by omega)
    · rw [decide_eq_true (show (s.size : Int) > 32 by omega), if_pos rfl, decide_eq_false (by omega)]; rfl

def hostOk (h : ByteArray) : Bool := (h.toList == ([] : List UInt8)) || (decide ((joinL [h]).2 = 0) && !(h.toList == ([42] : List UInt8)))
abbrev NewT := ByteArray × ByteArray × Int × Int × Int × Bool × Int × Int × Int × Int × Int × Int × Int × Int
def newL (c h : ByteArray) : NewT :=
  if cli c = true then (if hostOk h = true then (c, h, 0, 0, 0, false, 0, 0, 0, 0, 0, 0, 0, 0) else ((⟨#[]⟩ : ByteArray), (⟨#[]⟩ : ByteArray), 0, 0, 0, false, 0, 0, 0, 0, 0, 0, 0, 2))
  else ((⟨#[]⟩ : ByteArray), (⟨#[]⟩ : ByteArray), 0, 0, 0, false, 0, 0, 0, 0, 0, 0, 0, 1)
theorem new_f (c h : ByteArray) (hc : c.size ≤ 140737488351232) (hh : h.size ≤ 140737488351232) (k : Nat) (hk : c.size < k) : station_New.f k c h = some (newL c h) := by
  unfold station_New.f newL
  rw [stclient_f c hc k hk, Option.bind_some]
  by_cases h1 : cli c = true
  · rw [if_pos h1, if_pos h1, show dname_Join.f [h] = some (joinL [h]) from by unfold dname_Join.f; rw [if_pos (by simpa using hh)], Option.bind_some]
    unfold hostOk
    by_cases h2 : h.toList = []
    · rw [if_pos h2, h2]; rfl
    · rw [if_neg h2, show (h.toList == ([] : List UInt8)) = false from beq_eq_false_iff_ne.mpr h2, Bool.false_or]
      by_cases h3 : (joinL [h]).2 = 0
      · rw [if_pos h3, decide_eq_true h3, Bool.true_and]
        by_cases h4 : h.toList = ([42] : List UInt8)
        · rw [if_pos h4, h4]; rfl
        · rw [if_neg h4, show (h.toList == ([42] : List UInt8)) = false from beq_eq_false_iff_ne.mpr h4]; rfl
      · rw [if_neg h3, decide_eq_false h3]; rfl
  · rw [if_neg h1, if_neg h1]
theorem rnew_f (c h : ByteArray) (hh : h.size ≤ 140737488351232) (k : Nat) (hk : h.size + 3000 ≤ k) : ddiref42_New.f k c h = some (newL c h) := by
  unfold ddiref42_New.f newL
  rw [r38client_f c k (by omega), Option.bind_some]
  by_cases h1 : cli c = true
  · rw [if_pos h1, if_pos h1]
    unfold hostOk ddiref42_label.f
    by_cases h2 : h.toList = []
    · rw [if_pos h2, h2]; rfl
    · rw [if_neg h2, show (h.toList == ([] : List UInt8)) = false from beq_eq_false_iff_ne.mpr h2, Bool.false_or, rjoin1 h hh k hk, Option.bind_some]
      by_cases h3 : (joinL [h]).2 = 0
      · rw [if_pos h3, decide_eq_true h3, Bool.true_and, Option.bind_some]
        by_cases h4 : h.toList = ([42] : List UInt8)
        · rw [h4]; rfl
        · rw [show (h.toList != ([42] : List UInt8)) = true from bne_iff_ne.mpr h4, show (h.toList == ([42] : List UInt8)) = false from beq_eq_false_iff_ne.mpr h4]; rfl
      · rw [if_neg h3, decide_eq_false h3, Option.bind_some]; rfl
  · rw [if_neg h1, if_neg h1]
end Go.Proofs.YtlabnocmmeciaaaDoor.Pa


namespace Go.Proofs.YtlabnocmmeciaaaDoor.BQ
open Go Go.RowKit Go.Proofs.YtlabnocmmeciaaaDoorW.PrintWords Go.Proofs.YtlabnocmmeciaaaDoorW.PrintLast Go.Proofs.YtlabnocmmeciaaaDoorW.PrintMore Go.Proofs.YtlabnocmmeciaaaDoor.Pa Go.Proofs.YtlabnocmmeciaaaDoor.STN
set_option linter.unusedVariables false
set_option linter.unusedSimpArgs false
theorem ret_of {id : FuncId} {args : Array Value} {w : World} {f : Stn × List S39} {s : Stn} {l : List S39} (h : Calls Tryd.prog id args w (Ret f w)) (e : f = (s, l)) : Calls Tryd.prog id args w fun e w' => ∃ A c, e = .returned (.tuple #[.agg (stA s), .slice A l.length c]) ∧ Foot (fun W => Kd.C k39 W A l.length l) w' (fun k => w.heap.size ≤ k) ∧ Below w.heap.size w w' := by
  subst e; refine h.mono ?_; rintro e w' ⟨v, rfl, hf, hb⟩; obtain ⟨A, c, rfl, _, _⟩ := hf.now
  refine ⟨A, c, rfl, hf.imp (fun W hW => ?_), hb⟩; obtain ⟨A', c', e, _, hC⟩ := hW; injection e with e1 e2 e3; subst e1; exact hC
theorem aw_new : station_New.f 1000 (⟨#[97]⟩ : ByteArray) (⟨#[104]⟩ : ByteArray) = some ((⟨#[97]⟩ : ByteArray), (⟨#[104]⟩ : ByteArray), 0, 0, 0, false, 0, 0, 0, 0, 0, 0, 0, 0) := by kernel_rfl
theorem aw_bad : station_New.f 1000 (⟨#[97]⟩ : ByteArray) (⟨#[97, 46, 98]⟩ : ByteArray) = some ((⟨#[]⟩ : ByteArray), (⟨#[]⟩ : ByteArray), 0, 0, 0, false, 0, 0, 0, 0, 0, 0, 0, 2) := by kernel_rfl
theorem aw_t0 : tickF (⟨(⟨#[97]⟩ : ByteArray), (⟨#[104]⟩ : ByteArray), 0, 0, 0, ⟨false, 0, 0⟩, 0, 0, 0, 0, 0⟩ : Stn) 0 = ((⟨(⟨#[97]⟩ : ByteArray), (⟨#[104]⟩ : ByteArray), 1, 1, 0, ⟨false, 0, 0⟩, 0, 0, 0, 0, 1⟩ : Stn), [(⟨1, 1, 0, (⟨#[97]⟩ : ByteArray), zA, zA, zA, false, [⟨12, (⟨#[104]⟩ : ByteArray)⟩]⟩ : S39)]) := by kernel_rfl
theorem aw_t4 : tickF (⟨(⟨#[97]⟩ : ByteArray), (⟨#[104]⟩ : ByteArray), 1, 1, 0, ⟨false, 0, 0⟩, 0, 0, 0, 0, 1⟩ : Stn) 4 = ((⟨(⟨#[97]⟩ : ByteArray), (⟨#[104]⟩ : ByteArray), 1, 2, 0, ⟨false, 0, 0⟩, 0, 0, 0, 4, 2⟩ : Stn), [(⟨1, 2, 0, (⟨#[97]⟩ : ByteArray), zA, zA, zA, false, [⟨12, (⟨#[104]⟩ : ByteArray)⟩]⟩ : S39)]) := by kernel_rfl
theorem aw_of : recvF (⟨(⟨#[97]⟩ : ByteArray), (⟨#[104]⟩ : ByteArray), 1, 2, 0, ⟨false, 0, 0⟩, 0, 0, 0, 4, 2⟩ : Stn) 2 2 7 (⟨#[97]⟩ : ByteArray) ⟨false, 0, 167772161⟩ 0 0 0 false 7 = ((⟨(⟨#[97]⟩ : ByteArray), (⟨#[104]⟩ : ByteArray), 2, 3, 7, ⟨false, 0, 167772161⟩, 0, 0, 0, 7, 1⟩ : Stn), [(⟨3, 3, 7, (⟨#[97]⟩ : ByteArray), zA, zA, zA, false, [⟨50, ⟨#[10, 0, 0, 1]⟩⟩, ⟨12, (⟨#[104]⟩ : ByteArray)⟩]⟩ : S39)]) := by kernel_rfl
theorem aw_ls : dhcp_Lease.f 1000 5 3 7 (⟨#[97]⟩ : ByteArray) false 0 0 false 0 167772161 false 0 0 false [⟨51, ⟨#[0, 0, 0, 100]⟩⟩] = some (100, 50, 87, true) := by kernel_rfl
theorem aw_l0 : dhcp_Lease.f 1000 2 2 7 (⟨#[97]⟩ : ByteArray) false 0 0 false 0 167772161 false 0 0 false [] = some (0, 0, 0, false) := by kernel_rfl
theorem aw_ak : recvF (⟨(⟨#[97]⟩ : ByteArray), (⟨#[104]⟩ : ByteArray), 2, 3, 7, ⟨false, 0, 167772161⟩, 0, 0, 0, 7, 1⟩ : Stn) 5 3 7 (⟨#[97]⟩ : ByteArray) ⟨false, 0, 167772161⟩ 100 50 87 true 9 = ((⟨(⟨#[97]⟩ : ByteArray), (⟨#[104]⟩ : ByteArray), 3, 3, 7, ⟨false, 0, 167772161⟩, 57, 94, 107, 7, 0⟩ : Stn), ([] : List S39)) := by kernel_rfl
theorem aw_lv : giveF (⟨(⟨#[97]⟩ : ByteArray), (⟨#[104]⟩ : ByteArray), 3, 3, 7, ⟨false, 0, 167772161⟩, 57, 94, 107, 7, 0⟩ : Stn) 7 = ((⟨(⟨#[97]⟩ : ByteArray), (⟨#[104]⟩ : ByteArray), 0, 4, 0, ⟨false, 0, 0⟩, 0, 0, 0, 0, 0⟩ : Stn), [(⟨7, 4, 7, (⟨#[97]⟩ : ByteArray), ⟨false, 0, 167772161⟩, zA, zA, false, []⟩ : S39)]) := by kernel_rfl
theorem aw_h1 : holdsF (⟨(⟨#[97]⟩ : ByteArray), (⟨#[104]⟩ : ByteArray), 3, 3, 7, ⟨false, 0, 167772161⟩, 57, 94, 107, 7, 0⟩ : Stn) 106 = (⟨false, 0, 167772161⟩, true) := by kernel_rfl
theorem aw_h2 : holdsF (⟨(⟨#[97]⟩ : ByteArray), (⟨#[104]⟩ : ByteArray), 3, 3, 7, ⟨false, 0, 167772161⟩, 57, 94, 107, 7, 0⟩ : Stn) 107 = (zA, false) := by kernel_rfl
theorem cw_t0 (w : World)  : Calls Tryd.prog 9 #[.agg (stC (⟨#[97]⟩ : ByteArray) (⟨#[104]⟩ : ByteArray) 0 0 0 false 0 0 0 0 0 0 0), .int .i64 0] w fun e w' => ∃ A c, e = .returned (.tuple #[.agg (stC (⟨#[97]⟩ : ByteArray) (⟨#[104]⟩ : ByteArray) 1 1 0 false 0 0 0 0 0 0 1), .slice A 1 c]) ∧ Foot (fun W => Kd.C k39 W A 1 [(⟨1, 1, 0, (⟨#[97]⟩ : ByteArray), zA, zA, zA, false, [⟨12, (⟨#[104]⟩ : ByteArray)⟩]⟩ : S39)]) w' (fun k => w.heap.size ≤ k) ∧ Below w.heap.size w w' := ret_of (tick_c (⟨(⟨#[97]⟩ : ByteArray), (⟨#[104]⟩ : ByteArray), 0, 0, 0, ⟨false, 0, 0⟩, 0, 0, 0, 0, 0⟩ : Stn) 0 w (by decide) (by decide) (by decide) (by decide) (fun hq => by rcases hq with hq | hq <;> exact absurd hq (by decide)) ⟨true, by kernel_rfl⟩) aw_t0
theorem cw_t4 (w : World)  : Calls Tryd.prog 9 #[.agg (stC (⟨#[97]⟩ : ByteArray) (⟨#[104]⟩ : ByteArray) 1 1 0 false 0 0 0 0 0 0 1), .int .i64 4] w fun e w' => ∃ A c, e = .returned (.tuple #[.agg (stC (⟨#[97]⟩ : ByteArray) (⟨#[104]⟩ : ByteArray) 1 2 0 false 0 0 0 0 0 4 2), .slice A 1 c]) ∧ Foot (fun W => Kd.C k39 W A 1 [(⟨1, 2, 0, (⟨#[97]⟩ : ByteArray), zA, zA, zA, false, [⟨12, (⟨#[104]⟩ : ByteArray)⟩]⟩ : S39)]) w' (fun k => w.heap.size ≤ k) ∧ Below w.heap.size w w' := ret_of (tick_c (⟨(⟨#[97]⟩ : ByteArray), (⟨#[104]⟩ : ByteArray), 1, 1, 0, ⟨false, 0, 0⟩, 0, 0, 0, 0, 1⟩ : Stn) 4 w (by decide) (by decide) (by decide) (by decide) (fun _ => by decide) ⟨true, by kernel_rfl⟩) aw_t4
theorem cw_of (w : World)  : Calls Tryd.prog 12 #[.agg (stC (⟨#[97]⟩ : ByteArray) (⟨#[104]⟩ : ByteArray) 1 2 0 false 0 0 0 0 0 4 2), .agg (pkC 2 2 7 (⟨#[97]⟩ : ByteArray) false 0 0 false 0 167772161 false 0 0 false (.slice none 0 0)), .int .i64 7] w fun e w' => ∃ A c, e = .returned (.tuple #[.agg (stC (⟨#[97]⟩ : ByteArray) (⟨#[104]⟩ : ByteArray) 2 3 7 false 0 167772161 0 0 0 7 1), .slice A 1 c]) ∧ Foot (fun W => Kd.C k39 W A 1 [(⟨3, 3, 7, (⟨#[97]⟩ : ByteArray), zA, zA, zA, false, [⟨50, ⟨#[10, 0, 0, 1]⟩⟩, ⟨12, (⟨#[104]⟩ : ByteArray)⟩]⟩ : S39)]) w' (fun k => w.heap.size ≤ k) ∧ Below w.heap.size w w' := ret_of (recv_c (⟨(⟨#[97]⟩ : ByteArray), (⟨#[104]⟩ : ByteArray), 1, 2, 0, ⟨false, 0, 0⟩, 0, 0, 0, 4, 2⟩ : Stn) 2 2 7 (⟨#[97]⟩ : ByteArray) false 0 0 ⟨false, 0, 167772161⟩ false 0 0 false none 0 [] (fun _ => False) 0 0 0 false 7 w (by decide) (by decide) (show addr_Valid.f false 0 167772161 = some (validF ⟨false, 0, 167772161⟩) by kernel_rfl) ⟨true, by kernel_rfl⟩ (foot_no _ none 0) (Nat.le_refl _) aw_l0 (fun hq => Bool.noConfusion hq)) aw_of
theorem cw_ak (w : World) (B : Nat → Prop) {A : Option Addr} (hB : Foot (fun W => Kd.C k60 W A 1 [(⟨51, (⟨#[0, 0, 0, 100]⟩ : ByteArray)⟩ : S60)]) w B) : Calls Tryd.prog 12 #[.agg (stC (⟨#[97]⟩ : ByteArray) (⟨#[104]⟩ : ByteArray) 2 3 7 false 0 167772161 0 0 0 7 1), .agg (pkC 5 3 7 (⟨#[97]⟩ : ByteArray) false 0 0 false 0 167772161 false 0 0 false (.slice A 1 1)), .int .i64 9] w fun e w' => ∃ A c, e = .returned (.tuple #[.agg (stC (⟨#[97]⟩ : ByteArray) (⟨#[104]⟩ : ByteArray) 3 3 7 false 0 167772161 57 94 107 7 0), .slice A 0 c]) ∧ Foot (fun W => Kd.C k39 W A 0 []) w' (fun k => w.heap.size ≤ k) ∧ Below w.heap.size w w' := ret_of (recv_c (⟨(⟨#[97]⟩ : ByteArray), (⟨#[104]⟩ : ByteArray), 2, 3, 7, ⟨false, 0, 167772161⟩, 0, 0, 0, 7, 1⟩ : Stn) 5 3 7 (⟨#[97]⟩ : ByteArray) false 0 0 ⟨false, 0, 167772161⟩ false 0 0 false A 1 [(⟨51, (⟨#[0, 0, 0, 100]⟩ : ByteArray)⟩ : S60)] B 100 50 87 true 9 w (by decide) (by decide) (show addr_Valid.f false 0 167772161 = some (validF ⟨false, 0, 167772161⟩) by kernel_rfl) ⟨true, by kernel_rfl⟩ hB (Nat.le_refl _) aw_ls (fun _ => by decide)) aw_ak
theorem cw_lv (w : World)  : Calls Tryd.prog 13 #[.agg (stC (⟨#[97]⟩ : ByteArray) (⟨#[104]⟩ : ByteArray) 3 3 7 false 0 167772161 57 94 107 7 0), .int .i64 20] w fun e w' => ∃ A c, e = .returned (.tuple #[.agg (stC (⟨#[97]⟩ : ByteArray) (⟨#[104]⟩ : ByteArray) 0 4 0 false 0 0 0 0 0 0 0), .slice A 1 c]) ∧ Foot (fun W => Kd.C k39 W A 1 [(⟨7, 4, 7, (⟨#[97]⟩ : ByteArray), ⟨false, 0, 167772161⟩, zA, zA, false, []⟩ : S39)]) w' (fun k => w.heap.size ≤ k) ∧ Below w.heap.size w w' := ret_of (leave_c (⟨(⟨#[97]⟩ : ByteArray), (⟨#[104]⟩ : ByteArray), 3, 3, 7, ⟨false, 0, 167772161⟩, 57, 94, 107, 7, 0⟩ : Stn) 20 w (by decide)) aw_lv
theorem cw_h1 (w : World) : Calls Tryd.prog 16 #[.agg (stC (⟨#[97]⟩ : ByteArray) (⟨#[104]⟩ : ByteArray) 3 3 7 false 0 167772161 57 94 107 7 0), .int .i64 106] w fun e w' => e = .returned (.tuple #[.agg #[.bool false, .int .u64 0, .int .u64 167772161], .bool true]) ∧ Below w.heap.size w w' := by
  have h := holds_c (⟨(⟨#[97]⟩ : ByteArray), (⟨#[104]⟩ : ByteArray), 3, 3, 7, ⟨false, 0, 167772161⟩, 57, 94, 107, 7, 0⟩ : Stn) 106 w; rw [aw_h1] at h; exact h
theorem cw_h2 (w : World) : Calls Tryd.prog 16 #[.agg (stC (⟨#[97]⟩ : ByteArray) (⟨#[104]⟩ : ByteArray) 3 3 7 false 0 167772161 57 94 107 7 0), .int .i64 107] w fun e w' => e = .returned (.tuple #[.agg #[.bool false, .int .u64 0, .int .u64 0], .bool false]) ∧ Below w.heap.size w w' := by
  have h := holds_c (⟨(⟨#[97]⟩ : ByteArray), (⟨#[104]⟩ : ByteArray), 3, 3, 7, ⟨false, 0, 167772161⟩, 57, 94, 107, 7, 0⟩ : Stn) 107 w; rw [aw_h2] at h; exact h
end Go.Proofs.YtlabnocmmeciaaaDoor.BQ


namespace Go.Proofs.YtlabnocmmeciaaaDoor.BQ
open Go Go.RowKit Go.Proofs.YtlabnocmmeciaaaDoorW.PrintWords Go.Proofs.YtlabnocmmeciaaaDoorW.PrintLast Go.Proofs.YtlabnocmmeciaaaDoorW.PrintMore Go.Proofs.YtlabnocmmeciaaaDoor.Pa Go.Proofs.YtlabnocmmeciaaaDoor.STN
set_option linter.unusedVariables false
set_option linter.unusedSimpArgs false
section
variable {P : Program} {ops : Array Oper} {Q : Exit → Act → World → Prop} {S : World → Prop} {oi : Oper} {a : Act} {w w1 : World} {N : Option Tmp}
theorem cs1 {K V : Act → World → Prop} {f : FuncId} {fn : Func} {ags : Array Operand} {ts : Array TypeId} (hK : Shut (∀ a' w', S w' → (S w' → V a' w') → K a' w')) (hN : oi.dst = N) (hf : P.funcs[f]? = some fn) (hname : (fn.name == "runtime.NumGoroutine") = false) (hb : fn.body.isSome = true) (args : Array Value)
    (hop : oi.op = .call { callee := .value (.func f), args := ags, argTypes := ts }) (hargs : ags.map a.eval = args) (h : Calls P f args w fun e w1 => ∃ v, e = .returned v ∧ S w1 ∧ V (a.put N v) w1) (hw : Region.wanted oi (yielded ops a.tmps) = true := by rfl) : if Region.wanted oi (yielded ops a.tmps) = true then Oper.wp P oi a w K Q else K (a.put N undef) w :=
  goes_ hf hname hb args hw hN hop hargs (h.mono (fun e w1 ⟨v, he, hS, hh⟩ => ⟨v, he, hK.out _ _ hS (fun _ => hh)⟩))
end
section
variable {P : Program} {B : Nat → Prop} {w0 w w1 : World} {L : Bxs} {F : World → Prop} {t : TypeId} {cs : Array Value} {ops : Array Oper} {oi : Oper} {a : Act} {Q : Exit → Act → World → Prop} {S : World → Prop} {ds : List Nat} {fuel : Nat} {l : Array Bool} {N : Option Tmp} {i : Nat}
theorem as1 {K V : Act → World → Prop} (hK : Shut (∀ a' w', S w' → (S w' → V a' w') → K a' w')) (hN : oi.dst = N) (hr : (execOp a.eval oi).run P w = .ok (.value (.pointer (some ⟨w.heap.size, 0, none⟩))) (w.alloc (.cells cs t (0, 0)))) (I : Inv B w0 L F w)
    (h : ∀ g w1, Inv B w0 ((g, t, cs) :: L) F w1 → S w1 ∧ V (a.put N (.pointer (some ⟨g, 0, none⟩))) w1) (hw : Region.wanted oi (yielded ops a.tmps) = true := by rfl) : if Region.wanted oi (yielded ops a.tmps) = true then Oper.wp P oi a w K Q else K (a.put N undef) w :=
  value_ hw hN hr (hK.out _ _ (h _ _ (I.alloc t cs)).1 (fun _ => (h _ _ (I.alloc t cs)).2))
theorem wl_cell {rest : List Oper} {o : Oper} {ty : TypeId} {x : Operand} {p : Addr} {v : Value} {opsA : Array Oper} (hgd : o.guard = none) (ho : o.op = .load ty x) (hx : a.eval x = .pointer (some p)) (d : TypeDesc) (hu : P.underlying ty = some d) (hd : d.isRow = false) (hc : w.cell? p = some v) (h : wpList P opsA Q rest (a.put o.dst v) w) : wpList P opsA Q (o :: rest) a w :=
  wpList_plain hgd fun K hK => by
    have hagg : (isAgg ty).run P w = .ok false w := by
      unfold isAgg; rw [Sem.run_bind, run_underlying hu w]; cases d <;> simp_all [TypeDesc.isRow]
    have hl : (loadVar ty p).run P w = .ok v w := by simp [loadVar, Sem.run_bind, hagg, hc]
    unfold Oper.wp
    rw [show (execOp a.eval o).run P w = .ok (.value v) w by unfold execOp; simp only [ho, hx, Instr.loadAt, Instr.sureAddr, Sem.run_bind, Sem.run_pure, Result.andThen_ok, hl]]
    exact hK _ _ h
theorem tc1 {w1 : World} {a' : Act} {v : Value} (hi : ops[i]? = some oi) (hN : oi.dst = N) (hc : takeB .any ops ds l (l.setIfInBounds i true) i = true) (hS : Below w1.heap.size w1 w) (hrun : ∀ W, Below w1.heap.size w1 W → (execOp a.eval oi).run P W = .ok (.value v) W)
    (h : wpAnyLast P .any ops Q (fun W => Below w1.heap.size w1 W) ds fuel (l.setIfInBounds i true) a' w) (hw : Region.wanted oi (yielded ops a.tmps) = true := by rfl) (ha : a.put N v = a' := by (go_simp; rfl)) (hQ : ∀ c a w, Q (.panic c) (a.put oi.dst v) w → Q (.panic c) a w := by exact fun _ _ _ h => h) :
    wpAnyLast P .any ops Q (fun W => Below w1.heap.size w1 W) ds (fuel + 1) l a w := take_ _ hi hN hc hQ (Or.inl ⟨hw, fun W hW => hrun W hW⟩) hS ha h
theorem run_cellB {ty : TypeId} {x : Operand} {p : Addr} {v : Value} {w1 : World} (ho : oi.op = .load ty x) (hx : a.eval x = .pointer (some p)) (d : TypeDesc) (hu : P.underlying ty = some d) (hd : d.isRow = false) (hc : w1.cell? p = some v) : ∀ W, Below w1.heap.size w1 W → (execOp a.eval oi).run P W = .ok (.value v) W := fun W hW => by
  have hc2 : W.cell? p = some v := (hW.cell (World.block_lt_of_cell? w1 _ hc)).trans hc
  have hagg : (isAgg ty).run P W = .ok false W := by
    unfold isAgg; rw [Sem.run_bind, run_underlying hu W]; cases d <;> simp_all [TypeDesc.isRow]
  have hl : (loadVar ty p).run P W = .ok v W := by simp [loadVar, Sem.run_bind, hagg, hc2]
  unfold execOp; simp only [ho, hx, Instr.loadAt, Instr.sureAddr, Sem.run_bind, Sem.run_pure, Result.andThen_ok, hl]
theorem run_ownB {ty : TypeId} {x : Operand} {g off : Nat} {v : Value} {w1 : World} (ho : oi.op = .load ty x) (hx : a.eval x = .pointer (some ⟨g, off, none⟩)) (I : Inv B w0 L F w1) (hm : (g, t, cs) ∈ L) (hl : Ld P ty cs off v) : ∀ W, Below w1.heap.size w1 W → (execOp a.eval oi).run P W = .ok (.value v) W := fun W hW => by
  have := hl W g t (blk_below (I.box _ hm) hW)
  unfold execOp; simp only [ho, hx, Instr.loadAt, Instr.sureAddr, Sem.run_bind, Sem.run_pure, Result.andThen_ok, this]
theorem al1 (hi : ops[i]? = some oi) (hN : oi.dst = N) (hc : readyB .any ops l (l.setIfInBounds i true) i = true) (hd : i ∉ ds) (hr : (execOp a.eval oi).run P w = .ok (.value (.pointer (some ⟨w.heap.size, 0, none⟩))) (w.alloc (.cells cs t (0, 0)))) (I : Inv B w0 L F w)
    (h : ∀ g w1, Inv B w0 ((g, t, cs) :: L) F w1 → S w1 ∧ wpAnyLast P .any ops Q S ds fuel (l.setIfInBounds i true) (a.put N (.pointer (some ⟨g, 0, none⟩))) w1) (hw : Region.wanted oi (yielded ops a.tmps) = true := by rfl) : wpAnyLast P .any ops Q S ds (fuel + 1) l a w :=
  va1 hi hN hc hd hr (h _ _ (I.alloc t cs)).1 (h _ _ (I.alloc t cs)).2 hw
end
theorem run_twoB {oi : Oper} {a : Act} {x : Operand} {p : Addr} {u v : Value} {w1 : World} (ho : oi.op = .load 60 x) (hx : a.eval x = .pointer (some p)) (h0 : w1.cell? p = some u) (h1 : w1.cell? ⟨p.block, p.off + 1, none⟩ = some v) : ∀ W, Below w1.heap.size w1 W → (execOp a.eval oi).run Tryd.prog W = .ok (.value (.agg #[u, v])) W := fun W hW => by
  have hu60 := Tryd.underlying60
  have q0 : W.cell? p = some u := (hW.cell (World.block_lt_of_cell? w1 _ h0)).trans h0
  have q1 : W.cell? ⟨p.block, p.off + 1, none⟩ = some v := (hW.cell (World.block_lt_of_cell? w1 _ h1)).trans h1
  unfold execOp; simp only [ho, hx]
  go_simp

set_option maxHeartbeats 4000000 in
set_option maxRecDepth 100000 in
theorem awake_c (w : World) : Calls Tryd.prog 8 #[] w fun e w' => e = .returned (.bool true) ∧ Below w.heap.size w w' := by
 have hu26 := Tryd.underlying26
 have hu39 := Tryd.underlying39
 have hu24 := Tryd.underlying24
 have hu60 := Tryd.underlying60
 have I := Aside0.mk (Inv.start0 (w0 := w))
 go_enter Tryd.func8, Tryd.ntmps8
 go_wp2_with (first
  | ((with_reducible refine gate_alloc (ty := 26) rfl ?_); refine wl_box (t := 26) (cs := (stC (⟨#[]⟩ : ByteArray) (⟨#[]⟩ : ByteArray) 0 0 0 false 0 0 0 0 0 0 0)) rfl ?hr I.out ?_; (case hr => first | (go_simp; done) | (go_simp; rfl)); intro gb w1 hI; clear I; have I := Aside0.mk hI; clear hI)
  | ((with_reducible refine gate_alloc (ty := 24) rfl ?_); refine wl_box (t := 24) (cs := #[.bool false, .int .u64 0, .int .u64 0]) rfl ?hr I.out ?_; (case hr => first | (go_simp; done) | (go_simp; rfl)); intro gb w1 hI; clear I; have I := Aside0.mk hI; clear hI)
  | ((with_reducible refine gate_ld rfl ?_); (try (refine gate_guard (by rfl) ?_; dsimp only)); refine wl_ld rfl rfl rfl I.out (by first | exact .head _ | exact .tail _ (.head _) | exact .tail _ (.tail _ (.head _)) | exact .tail _ (.tail _ (.tail _ (.head _))) | exact .tail _ (.tail _ (.tail _ (.tail _ (.head _)))) | exact .tail _ (.tail _ (.tail _ (.tail _ (.tail _ (.head _))))) | exact .tail _ (.tail _ (.tail _ (.tail _ (.tail _ (.tail _ (.head _)))))) | exact .tail _ (.tail _ (.tail _ (.tail _ (.tail _ (.tail _ (.tail _ (.head _))))))) | exact .tail _ (.tail _ (.tail _ (.tail _ (.tail _ (.tail _ (.tail _ (.tail _ (.head _))))))))) (by first | exact ld_st | exact ld_ad) ?_)
  | ((with_reducible refine gate_callee (f := 6) rfl ?_); (try (refine gate_guard (by rfl) ?_; dsimp only)); refine goesL_ (some 19) rfl rfl Tryd.func6 (by kernel_rfl) rfl #[.string (⟨#[97]⟩ : ByteArray), .string (⟨#[104]⟩ : ByteArray)] rfl (by (try simp only [List.map_toArray, List.map_cons, List.map_nil]); first | done | rfl) ?_; (refine (station_New.calls 1000 (⟨#[97]⟩ : ByteArray) (⟨#[104]⟩ : ByteArray) _ _ _ _ _ _ _ _ _ _ _ _ _ _ _ aw_new).mono ?_); rintro e_ w1 ⟨rfl, hb⟩; refine ⟨_, rfl, ?_⟩; have I2 := Aside0.mk (I.out.call hb); clear I hb; have I := I2; clear I2)
  | ((with_reducible refine gate_callee (f := 6) rfl ?_); (try (refine gate_guard (by rfl) ?_; dsimp only)); refine goesL_ (some 23) rfl rfl Tryd.func6 (by kernel_rfl) rfl #[.string (⟨#[97]⟩ : ByteArray), .string (⟨#[97, 46, 98]⟩ : ByteArray)] rfl (by (try simp only [List.map_toArray, List.map_cons, List.map_nil]); first | done | rfl) ?_; (refine (station_New.calls 1000 (⟨#[97]⟩ : ByteArray) (⟨#[97, 46, 98]⟩ : ByteArray) _ _ _ _ _ _ _ _ _ _ _ _ _ _ _ aw_bad).mono ?_); rintro e_ w1 ⟨rfl, hb⟩; refine ⟨_, rfl, ?_⟩; have I2 := Aside0.mk (I.out.call hb); clear I hb; have I := I2; clear I2)
  | ((with_reducible refine gate_callee (f := 9) rfl ?_); (try (refine gate_guard (by rfl) ?_; dsimp only)); refine goesL_ (some 28) rfl rfl Tryd.func9 (by kernel_rfl) rfl #[.agg (stC (⟨#[97]⟩ : ByteArray) (⟨#[104]⟩ : ByteArray) 0 0 0 false 0 0 0 0 0 0 0), .int .i64 0] rfl (by (try simp only [List.map_toArray, List.map_cons, List.map_nil]); first | done | rfl) ?_; (refine (cw_t0 _).mono ?_); rintro e_ w1 ⟨A, c, rfl, hf, hb⟩; refine ⟨_, rfl, ?_⟩; have I2 := Aside0.mk (I.out.addNew hb hf (fun k hk _ => I.out.new_out k hk)); clear I hb hf; have I := I2; clear I2)
  | ((with_reducible refine gate_callee (f := 9) rfl ?_); (try (refine gate_guard (by rfl) ?_; dsimp only)); refine goesL_ (some 33) rfl rfl Tryd.func9 (by kernel_rfl) rfl #[.agg (stC (⟨#[97]⟩ : ByteArray) (⟨#[104]⟩ : ByteArray) 1 1 0 false 0 0 0 0 0 0 1), .int .i64 4] rfl (by (try simp only [List.map_toArray, List.map_cons, List.map_nil]); first | done | rfl) ?_; (refine (cw_t4 _).mono ?_); rintro e_ w1 ⟨A, c, rfl, hf, hb⟩; refine ⟨_, rfl, ?_⟩; have I2 := Aside0.mk (I.out.addNew hb hf (fun k hk _ => I.out.new_out k hk)); clear I hb hf; have I := I2; clear I2)
  | ((with_reducible refine gate_sr rfl ?_); refine wl_sr2 rfl rfl rfl rfl rfl I.out (by first | exact .head _ | exact .tail _ (.head _) | exact .tail _ (.tail _ (.head _)) | exact .tail _ (.tail _ (.tail _ (.head _))) | exact .tail _ (.tail _ (.tail _ (.tail _ (.head _)))) | exact .tail _ (.tail _ (.tail _ (.tail _ (.tail _ (.head _))))) | exact .tail _ (.tail _ (.tail _ (.tail _ (.tail _ (.tail _ (.head _)))))) | exact .tail _ (.tail _ (.tail _ (.tail _ (.tail _ (.tail _ (.tail _ (.head _))))))) | exact .tail _ (.tail _ (.tail _ (.tail _ (.tail _ (.tail _ (.tail _ (.tail _ (.head _))))))))) (by first | exact sr_st | exact sr_ad) (by first | exact .head | exact .tail (.head) | exact .tail (.tail (.head)) | exact .tail (.tail (.tail (.head))) | exact .tail (.tail (.tail (.tail (.head)))) | exact .tail (.tail (.tail (.tail (.tail (.head))))) | exact .tail (.tail (.tail (.tail (.tail (.tail (.head)))))) | exact .tail (.tail (.tail (.tail (.tail (.tail (.tail (.head))))))) | exact .tail (.tail (.tail (.tail (.tail (.tail (.tail (.tail (.head))))))))) ?_; intro w1 hI; clear I; have I := Aside0.mk hI; clear hI)
  )
 refine (fun (rest : (?T5 : Prop)) => ?main5) ?rest5
 case main5 =>
  have IS := Aside0.mk ((I.out.imp (fun _ _ => trivial)).sub (.cons_cons _ (.cons _ (.cons _ .slnil)))).drew
  refine draw_ (Inv _ w [_] (fun _ => True)) [] (by kernel_rfl) rfl IS.out ?_
  have I2 := Aside0.mk I.out.drew
  have I := I2
  clear I2
  refine ta1 (i := 0) rfl rfl (by kernel_rfl) rfl rfl IS.out (by first | exact .head _ | exact .tail _ (.head _) | exact .tail _ (.tail _ (.head _)) | exact .tail _ (.tail _ (.tail _ (.head _)))) (by exact ld_st) ?_ (ha := by (go_simp; rfl))
  refine two1 (i := 1) (j := 7) rfl rfl rfl rfl (by kernel_rfl) (by decide) (by decide) (fun K hK => ?_) (fun K hK => ?_)
  ·
    refine cs1 hK rfl Tryd.func21 (by kernel_rfl) rfl #[.int .u64 1] rfl (by (try simp only [List.map_toArray, List.map_cons, List.map_nil]); first | done | rfl) ?_
    refine (ten_c _).mono ?_
    rintro e_ w1 ⟨rfl, hb⟩
    have I2 := Aside0.mk (I.out.call hb)
    clear I IS hb
    have I := I2
    clear I2
    have IS := Aside0.mk ((I.out.imp (fun _ _ => trivial)).sub (.cons_cons _ (.cons _ (.cons _ .slnil))))
    refine ⟨_, rfl, IS.out, ?_⟩
    refine pu1 (i := 2) rfl rfl (by kernel_rfl) ?_ (ha := by (go_simp; rfl))
    refine two1 (i := 3) (j := 7) rfl rfl rfl rfl (by kernel_rfl) (by decide) (by decide) (fun K hK => ?_) (fun K hK => ?_)
    ·
      refine cs1 hK rfl Tryd.func12 (by kernel_rfl) rfl #[.agg (stC (⟨#[97]⟩ : ByteArray) (⟨#[104]⟩ : ByteArray) 1 2 0 false 0 0 0 0 0 4 2), .agg (pkC 2 2 7 (⟨#[97]⟩ : ByteArray) false 0 0 false 0 167772161 false 0 0 false (.slice none 0 0)), .int .i64 7] rfl (by (try simp only [List.map_toArray, List.map_cons, List.map_nil]); first | done | rfl) ?_
      refine (cw_of _).mono ?_
      rintro e_ w1 ⟨A, c, rfl, hf, hb⟩
      have I2 := Aside0.mk (I.out.addNew hb hf (fun k hk _ => I.out.new_out k hk))
      clear I IS hb hf
      have I := I2
      clear I2
      have IS := Aside0.mk ((I.out.imp (fun _ _ => trivial)).sub (.cons_cons _ (.cons _ (.cons _ .slnil))))
      refine ⟨_, rfl, IS.out, ?_⟩
      refine pu1 (i := 4) rfl rfl (by kernel_rfl) ?_ (ha := by (go_simp; rfl))
      refine pu1 (i := 5) rfl rfl (by kernel_rfl) ?_ (ha := by (go_simp; rfl))
      refine pu1 (i := 6) rfl rfl (by kernel_rfl) ?_ (ha := by (go_simp; rfl))
      refine al1 (i := 7) (t := 26) (cs := (stC (⟨#[]⟩ : ByteArray) (⟨#[]⟩ : ByteArray) 0 0 0 false 0 0 0 0 0 0 0)) rfl rfl (by kernel_rfl) (by decide) ?hr I.out (fun gb w1 hI => ⟨(hI.imp (fun _ _ => trivial)).sub (.cons _ (.cons_cons _ (.cons _ (.cons _ .slnil)))), ?_⟩)
      case hr => first | (go_simp; done) | (go_simp; rfl)
      clear I IS
      have I := Aside0.mk hI
      clear hI
      have IS := Aside0.mk ((I.out.imp (fun _ _ => trivial)).sub (.cons _ (.cons_cons _ (.cons _ (.cons _ .slnil)))))
      refine st1 (i := 8) rfl rfl (by kernel_rfl) (by decide) rfl rfl rfl I.out (by first | exact .head _ | exact .tail _ (.head _) | exact .tail _ (.tail _ (.head _)) | exact .tail _ (.tail _ (.tail _ (.head _)))) (by first | exact sr_st) (by first | exact .head | exact .tail .head | exact .tail (.tail .head) | exact .tail (.tail (.tail .head))) (fun w1 hI => ⟨(hI.imp (fun _ _ => trivial)).sub (.cons _ (.cons_cons _ (.cons _ (.cons _ .slnil)))), ?_⟩)
      clear I IS
      have I := Aside0.mk hI
      clear hI
      refine pu1 (i := 9) rfl rfl (by kernel_rfl) ?_ (ha := by (go_simp; rfl))
      refine do1 (by kernel_rfl) ?_
      replace I := I.out
      revert I
      revert w1
      revert c
      revert A
      revert gb
      exact rest
    ·
      refine as1 (t := 26) (cs := (stC (⟨#[]⟩ : ByteArray) (⟨#[]⟩ : ByteArray) 0 0 0 false 0 0 0 0 0 0 0)) hK rfl ?hr I.out (fun gb w1 hI => ⟨(hI.imp (fun _ _ => trivial)).sub (.cons _ (.cons_cons _ (.cons _ (.cons _ .slnil)))), ?_⟩)
      case hr => first | (go_simp; done) | (go_simp; rfl)
      clear I IS
      have I := Aside0.mk hI
      clear hI
      have IS := Aside0.mk ((I.out.imp (fun _ _ => trivial)).sub (.cons _ (.cons_cons _ (.cons _ (.cons _ .slnil)))))
      refine ca1 (i := 3) rfl rfl (by kernel_rfl) (by decide) Tryd.func12 (by kernel_rfl) rfl #[.agg (stC (⟨#[97]⟩ : ByteArray) (⟨#[104]⟩ : ByteArray) 1 2 0 false 0 0 0 0 0 4 2), .agg (pkC 2 2 7 (⟨#[97]⟩ : ByteArray) false 0 0 false 0 167772161 false 0 0 false (.slice none 0 0)), .int .i64 7] rfl (by (try simp only [List.map_toArray, List.map_cons, List.map_nil]); first | done | rfl) ?_
      refine (cw_of _).mono ?_
      rintro e_ w1 ⟨A, c, rfl, hf, hb⟩
      have I2 := Aside0.mk (I.out.addNew hb hf (fun k hk _ => I.out.new_out k hk))
      clear I IS hb hf
      have I := I2
      clear I2
      have IS := Aside0.mk ((I.out.imp (fun _ _ => trivial)).sub (.cons _ (.cons_cons _ (.cons _ (.cons _ .slnil)))))
      refine ⟨_, rfl, IS.out, ?_⟩
      refine pu1 (i := 4) rfl rfl (by kernel_rfl) ?_ (ha := by (go_simp; rfl))
      refine pu1 (i := 5) rfl rfl (by kernel_rfl) ?_ (ha := by (go_simp; rfl))
      refine pu1 (i := 6) rfl rfl (by kernel_rfl) ?_ (ha := by (go_simp; rfl))
      refine st1 (i := 8) rfl rfl (by kernel_rfl) (by decide) rfl rfl rfl I.out (by first | exact .head _ | exact .tail _ (.head _) | exact .tail _ (.tail _ (.head _)) | exact .tail _ (.tail _ (.tail _ (.head _)))) (by first | exact sr_st) (by first | exact .head | exact .tail .head | exact .tail (.tail .head) | exact .tail (.tail (.tail .head))) (fun w1 hI => ⟨(hI.imp (fun _ _ => trivial)).sub (.cons _ (.cons_cons _ (.cons _ (.cons _ .slnil)))), ?_⟩)
      clear I IS
      have I := Aside0.mk hI
      clear hI
      refine pu1 (i := 9) rfl rfl (by kernel_rfl) ?_ (ha := by (go_simp; rfl))
      refine do1 (by kernel_rfl) ?_
      replace I := I.out
      revert I
      revert w1
      revert c
      revert A
      revert gb
      exact rest
  ·
    refine as1 (t := 26) (cs := (stC (⟨#[]⟩ : ByteArray) (⟨#[]⟩ : ByteArray) 0 0 0 false 0 0 0 0 0 0 0)) hK rfl ?hr I.out (fun gb w1 hI => ⟨(hI.imp (fun _ _ => trivial)).sub (.cons _ (.cons_cons _ (.cons _ (.cons _ .slnil)))), ?_⟩)
    case hr => first | (go_simp; done) | (go_simp; rfl)
    clear I IS
    have I := Aside0.mk hI
    clear hI
    have IS := Aside0.mk ((I.out.imp (fun _ _ => trivial)).sub (.cons _ (.cons_cons _ (.cons _ (.cons _ .slnil)))))
    refine ca1 (i := 1) rfl rfl (by kernel_rfl) (by decide) Tryd.func21 (by kernel_rfl) rfl #[.int .u64 1] rfl (by (try simp only [List.map_toArray, List.map_cons, List.map_nil]); first | done | rfl) ?_
    refine (ten_c _).mono ?_
    rintro e_ w1 ⟨rfl, hb⟩
    have I2 := Aside0.mk (I.out.call hb)
    clear I IS hb
    have I := I2
    clear I2
    have IS := Aside0.mk ((I.out.imp (fun _ _ => trivial)).sub (.cons _ (.cons_cons _ (.cons _ (.cons _ .slnil)))))
    refine ⟨_, rfl, IS.out, ?_⟩
    refine pu1 (i := 2) rfl rfl (by kernel_rfl) ?_ (ha := by (go_simp; rfl))
    refine ca1 (i := 3) rfl rfl (by kernel_rfl) (by decide) Tryd.func12 (by kernel_rfl) rfl #[.agg (stC (⟨#[97]⟩ : ByteArray) (⟨#[104]⟩ : ByteArray) 1 2 0 false 0 0 0 0 0 4 2), .agg (pkC 2 2 7 (⟨#[97]⟩ : ByteArray) false 0 0 false 0 167772161 false 0 0 false (.slice none 0 0)), .int .i64 7] rfl (by (try simp only [List.map_toArray, List.map_cons, List.map_nil]); first | done | rfl) ?_
    refine (cw_of _).mono ?_
    rintro e_ w1 ⟨A, c, rfl, hf, hb⟩
    have I2 := Aside0.mk (I.out.addNew hb hf (fun k hk _ => I.out.new_out k hk))
    clear I IS hb hf
    have I := I2
    clear I2
    have IS := Aside0.mk ((I.out.imp (fun _ _ => trivial)).sub (.cons _ (.cons_cons _ (.cons _ (.cons _ .slnil)))))
    refine ⟨_, rfl, IS.out, ?_⟩
    refine pu1 (i := 4) rfl rfl (by kernel_rfl) ?_ (ha := by (go_simp; rfl))
    refine pu1 (i := 5) rfl rfl (by kernel_rfl) ?_ (ha := by (go_simp; rfl))
    refine pu1 (i := 6) rfl rfl (by kernel_rfl) ?_ (ha := by (go_simp; rfl))
    refine st1 (i := 8) rfl rfl (by kernel_rfl) (by decide) rfl rfl rfl I.out (by first | exact .head _ | exact .tail _ (.head _) | exact .tail _ (.tail _ (.head _)) | exact .tail _ (.tail _ (.tail _ (.head _)))) (by first | exact sr_st) (by first | exact .head | exact .tail .head | exact .tail (.tail .head) | exact .tail (.tail (.tail .head))) (fun w1 hI => ⟨(hI.imp (fun _ _ => trivial)).sub (.cons _ (.cons_cons _ (.cons _ (.cons _ .slnil)))), ?_⟩)
    clear I IS
    have I := Aside0.mk hI
    clear hI
    refine pu1 (i := 9) rfl rfl (by kernel_rfl) ?_ (ha := by (go_simp; rfl))
    refine do1 (by kernel_rfl) ?_
    replace I := I.out
    revert I
    revert w1
    revert c
    revert A
    revert gb
    exact rest
 case rest5 =>
  intro gb A c w1 I
  have I := Aside0.mk I
  try go_wp2
  refine (fun (rest : (?T6 : Prop)) => ?main6) ?rest6
  case main6 =>
   have IS := Aside0.mk ((I.out.imp (fun _ _ => trivial)).sub (.cons_cons _ (.cons _ (.cons _ (.cons _ .slnil))))).drew
   refine draw_ (Inv _ w [_] (fun _ => True)) [] (by kernel_rfl) rfl IS.out ?_
   have I2 := Aside0.mk I.out.drew
   have I := I2
   clear I2
   refine ta1 (i := 0) rfl rfl (by kernel_rfl) rfl rfl IS.out (by first | exact .head _ | exact .tail _ (.head _) | exact .tail _ (.tail _ (.head _)) | exact .tail _ (.tail _ (.tail _ (.head _)))) (by exact ld_st) ?_ (ha := by (go_simp; rfl))
   refine two1 (i := 1) (j := 6) rfl rfl rfl rfl (by kernel_rfl) (by decide) (by decide) (fun K hK => ?_) (fun K hK => ?_)
   ·
     refine cs1 hK rfl Tryd.func22 (by kernel_rfl) rfl #[.int .i64 3] rfl (by (try simp only [List.map_toArray, List.map_cons, List.map_nil]); first | done | rfl) ?_
     refine (ackm_c _).mono ?_
     rintro e_ w1 ⟨g, rfl, hf, hb⟩
     have I2 := Aside0.mk (I.out.addNew hb hf (fun k hk _ => I.out.new_out k hk))
     clear I IS hb hf
     have I := I2
     clear I2
     have IS := Aside0.mk ((I.out.imp (fun _ _ => trivial)).sub (.cons_cons _ (.cons _ (.cons _ (.cons _ .slnil)))))
     refine ⟨_, rfl, IS.out, ?_⟩
     refine two1 (i := 2) (j := 6) rfl rfl rfl rfl (by kernel_rfl) (by decide) (by decide) (fun K hK => ?_) (fun K hK => ?_)
     ·
       refine cs1 hK rfl Tryd.func12 (by kernel_rfl) rfl #[.agg (stC (⟨#[97]⟩ : ByteArray) (⟨#[104]⟩ : ByteArray) 2 3 7 false 0 167772161 0 0 0 7 1), .agg (pkC 5 3 7 (⟨#[97]⟩ : ByteArray) false 0 0 false 0 167772161 false 0 0 false (.slice (some ⟨g, 0, none⟩) 1 1)), .int .i64 9] rfl (by (try simp only [List.map_toArray, List.map_cons, List.map_nil]); first | done | rfl) ?_
       refine (cw_ak _ _ (I.out.foot.imp (fun W hW => hW.2))).mono ?_
       rintro e_ w1 ⟨A, c, rfl, hf, hb⟩
       have I2 := Aside0.mk (I.out.addNew hb hf (fun k hk _ => I.out.new_out k hk))
       clear I IS hb hf
       have I := I2
       clear I2
       have IS := Aside0.mk ((I.out.imp (fun _ _ => trivial)).sub (.cons_cons _ (.cons _ (.cons _ (.cons _ .slnil)))))
       refine ⟨_, rfl, IS.out, ?_⟩
       refine pu1 (i := 3) rfl rfl (by kernel_rfl) ?_ (ha := by (go_simp; rfl))
       refine pu1 (i := 4) rfl rfl (by kernel_rfl) ?_ (ha := by (go_simp; rfl))
       refine pu1 (i := 5) rfl rfl (by kernel_rfl) ?_ (ha := by (go_simp; rfl))
       refine al1 (i := 6) (t := 26) (cs := (stC (⟨#[]⟩ : ByteArray) (⟨#[]⟩ : ByteArray) 0 0 0 false 0 0 0 0 0 0 0)) rfl rfl (by kernel_rfl) (by decide) ?hr I.out (fun gb w1 hI => ⟨(hI.imp (fun _ _ => trivial)).sub (.cons _ (.cons_cons _ (.cons _ (.cons _ (.cons _ .slnil))))), ?_⟩)
       case hr => first | (go_simp; done) | (go_simp; rfl)
       clear I IS
       have I := Aside0.mk hI
       clear hI
       have IS := Aside0.mk ((I.out.imp (fun _ _ => trivial)).sub (.cons _ (.cons_cons _ (.cons _ (.cons _ (.cons _ .slnil))))))
       refine st1 (i := 7) rfl rfl (by kernel_rfl) (by decide) rfl rfl rfl I.out (by first | exact .head _ | exact .tail _ (.head _) | exact .tail _ (.tail _ (.head _)) | exact .tail _ (.tail _ (.tail _ (.head _)))) (by first | exact sr_st) (by first | exact .head | exact .tail .head | exact .tail (.tail .head) | exact .tail (.tail (.tail .head))) (fun w1 hI => ⟨(hI.imp (fun _ _ => trivial)).sub (.cons _ (.cons_cons _ (.cons _ (.cons _ (.cons _ .slnil))))), ?_⟩)
       clear I IS
       have I := Aside0.mk hI
       clear hI
       refine pu1 (i := 8) rfl rfl (by kernel_rfl) ?_ (ha := by (go_simp; rfl))
       refine do1 (by kernel_rfl) ?_
       replace I := I.out
       revert I
       revert w1
       revert c
       revert A
       revert gb
       revert g
       exact rest
     ·
       refine as1 (t := 26) (cs := (stC (⟨#[]⟩ : ByteArray) (⟨#[]⟩ : ByteArray) 0 0 0 false 0 0 0 0 0 0 0)) hK rfl ?hr I.out (fun gb w1 hI => ⟨(hI.imp (fun _ _ => trivial)).sub (.cons _ (.cons_cons _ (.cons _ (.cons _ (.cons _ .slnil))))), ?_⟩)
       case hr => first | (go_simp; done) | (go_simp; rfl)
       clear I IS
       have I := Aside0.mk hI
       clear hI
       have IS := Aside0.mk ((I.out.imp (fun _ _ => trivial)).sub (.cons _ (.cons_cons _ (.cons _ (.cons _ (.cons _ .slnil))))))
       refine ca1 (i := 2) rfl rfl (by kernel_rfl) (by decide) Tryd.func12 (by kernel_rfl) rfl #[.agg (stC (⟨#[97]⟩ : ByteArray) (⟨#[104]⟩ : ByteArray) 2 3 7 false 0 167772161 0 0 0 7 1), .agg (pkC 5 3 7 (⟨#[97]⟩ : ByteArray) false 0 0 false 0 167772161 false 0 0 false (.slice (some ⟨g, 0, none⟩) 1 1)), .int .i64 9] rfl (by (try simp only [List.map_toArray, List.map_cons, List.map_nil]); first | done | rfl) ?_
       refine (cw_ak _ _ (I.out.foot.imp (fun W hW => hW.2))).mono ?_
       rintro e_ w1 ⟨A, c, rfl, hf, hb⟩
       have I2 := Aside0.mk (I.out.addNew hb hf (fun k hk _ => I.out.new_out k hk))
       clear I IS hb hf
       have I := I2
       clear I2
       have IS := Aside0.mk ((I.out.imp (fun _ _ => trivial)).sub (.cons _ (.cons_cons _ (.cons _ (.cons _ (.cons _ .slnil))))))
       refine ⟨_, rfl, IS.out, ?_⟩
       refine pu1 (i := 3) rfl rfl (by kernel_rfl) ?_ (ha := by (go_simp; rfl))
       refine pu1 (i := 4) rfl rfl (by kernel_rfl) ?_ (ha := by (go_simp; rfl))
       refine pu1 (i := 5) rfl rfl (by kernel_rfl) ?_ (ha := by (go_simp; rfl))
       refine st1 (i := 7) rfl rfl (by kernel_rfl) (by decide) rfl rfl rfl I.out (by first | exact .head _ | exact .tail _ (.head _) | exact .tail _ (.tail _ (.head _)) | exact .tail _ (.tail _ (.tail _ (.head _)))) (by first | exact sr_st) (by first | exact .head | exact .tail .head | exact .tail (.tail .head) | exact .tail (.tail (.tail .head))) (fun w1 hI => ⟨(hI.imp (fun _ _ => trivial)).sub (.cons _ (.cons_cons _ (.cons _ (.cons _ (.cons _ .slnil))))), ?_⟩)
       clear I IS
       have I := Aside0.mk hI
       clear hI
       refine pu1 (i := 8) rfl rfl (by kernel_rfl) ?_ (ha := by (go_simp; rfl))
       refine do1 (by kernel_rfl) ?_
       replace I := I.out
       revert I
       revert w1
       revert c
       revert A
       revert gb
       revert g
       exact rest
   ·
     refine as1 (t := 26) (cs := (stC (⟨#[]⟩ : ByteArray) (⟨#[]⟩ : ByteArray) 0 0 0 false 0 0 0 0 0 0 0)) hK rfl ?hr I.out (fun gb w1 hI => ⟨(hI.imp (fun _ _ => trivial)).sub (.cons _ (.cons_cons _ (.cons _ (.cons _ (.cons _ .slnil))))), ?_⟩)
     case hr => first | (go_simp; done) | (go_simp; rfl)
     clear I IS
     have I := Aside0.mk hI
     clear hI
     have IS := Aside0.mk ((I.out.imp (fun _ _ => trivial)).sub (.cons _ (.cons_cons _ (.cons _ (.cons _ (.cons _ .slnil))))))
     refine ca1 (i := 1) rfl rfl (by kernel_rfl) (by decide) Tryd.func22 (by kernel_rfl) rfl #[.int .i64 3] rfl (by (try simp only [List.map_toArray, List.map_cons, List.map_nil]); first | done | rfl) ?_
     refine (ackm_c _).mono ?_
     rintro e_ w1 ⟨g, rfl, hf, hb⟩
     have I2 := Aside0.mk (I.out.addNew hb hf (fun k hk _ => I.out.new_out k hk))
     clear I IS hb hf
     have I := I2
     clear I2
     have IS := Aside0.mk ((I.out.imp (fun _ _ => trivial)).sub (.cons _ (.cons_cons _ (.cons _ (.cons _ (.cons _ .slnil))))))
     refine ⟨_, rfl, IS.out, ?_⟩
     refine ca1 (i := 2) rfl rfl (by kernel_rfl) (by decide) Tryd.func12 (by kernel_rfl) rfl #[.agg (stC (⟨#[97]⟩ : ByteArray) (⟨#[104]⟩ : ByteArray) 2 3 7 false 0 167772161 0 0 0 7 1), .agg (pkC 5 3 7 (⟨#[97]⟩ : ByteArray) false 0 0 false 0 167772161 false 0 0 false (.slice (some ⟨g, 0, none⟩) 1 1)), .int .i64 9] rfl (by (try simp only [List.map_toArray, List.map_cons, List.map_nil]); first | done | rfl) ?_
     refine (cw_ak _ _ (I.out.foot.imp (fun W hW => hW.2))).mono ?_
     rintro e_ w1 ⟨A, c, rfl, hf, hb⟩
     have I2 := Aside0.mk (I.out.addNew hb hf (fun k hk _ => I.out.new_out k hk))
     clear I IS hb hf
     have I := I2
     clear I2
     have IS := Aside0.mk ((I.out.imp (fun _ _ => trivial)).sub (.cons _ (.cons_cons _ (.cons _ (.cons _ (.cons _ .slnil))))))
     refine ⟨_, rfl, IS.out, ?_⟩
     refine pu1 (i := 3) rfl rfl (by kernel_rfl) ?_ (ha := by (go_simp; rfl))
     refine pu1 (i := 4) rfl rfl (by kernel_rfl) ?_ (ha := by (go_simp; rfl))
     refine pu1 (i := 5) rfl rfl (by kernel_rfl) ?_ (ha := by (go_simp; rfl))
     refine st1 (i := 7) rfl rfl (by kernel_rfl) (by decide) rfl rfl rfl I.out (by first | exact .head _ | exact .tail _ (.head _) | exact .tail _ (.tail _ (.head _)) | exact .tail _ (.tail _ (.tail _ (.head _)))) (by first | exact sr_st) (by first | exact .head | exact .tail .head | exact .tail (.tail .head) | exact .tail (.tail (.tail .head))) (fun w1 hI => ⟨(hI.imp (fun _ _ => trivial)).sub (.cons _ (.cons_cons _ (.cons _ (.cons _ (.cons _ .slnil))))), ?_⟩)
     clear I IS
     have I := Aside0.mk hI
     clear hI
     refine pu1 (i := 8) rfl rfl (by kernel_rfl) ?_ (ha := by (go_simp; rfl))
     refine do1 (by kernel_rfl) ?_
     replace I := I.out
     revert I
     revert w1
     revert c
     revert A
     revert gb
     revert g
     exact rest
  case rest6 =>
   intro g gb A c w1 I
   have I := Aside0.mk (I.imp (fun W hW => hW.1.1))
   obtain ⟨⟨⟨_, k5⟩, k7⟩, k9⟩ := I.out.now
   obtain ⟨ad5, _, _, e5, -⟩ := at_T39 k5 0 (by decide) (by decide); subst e5
   obtain ⟨ad7, _, _, e7, -⟩ := at_T39 k7 0 (by decide) (by decide); subst e7
   obtain ⟨ad9, _, _, e9, -⟩ := at_T39 k9 0 (by decide) (by decide); subst e9
   clear k5 k7 k9
   go_wp2_with (first
    | ((with_reducible refine gate_alloc (ty := 26) rfl ?_); refine wl_box (t := 26) (cs := (stC (⟨#[]⟩ : ByteArray) (⟨#[]⟩ : ByteArray) 0 0 0 false 0 0 0 0 0 0 0)) rfl ?hr I.out ?_; (case hr => first | (go_simp; done) | (go_simp; rfl)); intro gb w1 hI; clear I; have I := Aside0.mk hI; clear hI)
    | ((with_reducible refine gate_alloc (ty := 24) rfl ?_); refine wl_box (t := 24) (cs := #[.bool false, .int .u64 0, .int .u64 0]) rfl ?hr I.out ?_; (case hr => first | (go_simp; done) | (go_simp; rfl)); intro gb w1 hI; clear I; have I := Aside0.mk hI; clear hI)
    | ((with_reducible refine gate_ld rfl ?_); (try (refine gate_guard (by rfl) ?_; dsimp only)); refine wl_ld rfl rfl rfl I.out (by first | exact .head _ | exact .tail _ (.head _) | exact .tail _ (.tail _ (.head _)) | exact .tail _ (.tail _ (.tail _ (.head _))) | exact .tail _ (.tail _ (.tail _ (.tail _ (.head _)))) | exact .tail _ (.tail _ (.tail _ (.tail _ (.tail _ (.head _))))) | exact .tail _ (.tail _ (.tail _ (.tail _ (.tail _ (.tail _ (.head _)))))) | exact .tail _ (.tail _ (.tail _ (.tail _ (.tail _ (.tail _ (.tail _ (.head _))))))) | exact .tail _ (.tail _ (.tail _ (.tail _ (.tail _ (.tail _ (.tail _ (.tail _ (.head _))))))))) (by first | exact ld_st | exact ld_ad | exact ld_st2 | exact ld_st8 | exact ld_st9 | exact ld_st10) ?_)
    | ((with_reducible refine gate_ld rfl ?_); (try (refine gate_guard (by rfl) ?_; dsimp only)); obtain ⟨⟨⟨⟨_, k5⟩, k7⟩, k9⟩, k17⟩ := I.out.now; obtain ⟨ad5, B5, b5, e5, c5_0, c5_1, c5_2, -, -, -, -, -, -, -, -, -, -, -, c5_14, -, o5⟩ := at_T39 k5 0 (by decide) (by decide); cases e5; obtain ⟨ad7, B7, b7, e7, c7_0, c7_1, c7_2, -, -, -, -, -, -, -, -, -, -, -, c7_14, -, o7⟩ := at_T39 k7 0 (by decide) (by decide); cases e7; obtain ⟨ad9, B9, b9, e9, c9_0, c9_1, c9_2, -, -, -, -, -, -, -, -, -, -, -, c9_14, -, o9⟩ := at_T39 k9 0 (by decide) (by decide); cases e9; obtain ⟨ad17, B17, b17, e17, c17_0, c17_1, c17_2, -, -, -, -, -, -, -, -, -, -, -, c17_14, -, o17⟩ := at_T39 k17 0 (by decide) (by decide); cases e17; (first | refine wl_cell rfl rfl rfl _ Tryd.underlying3 rfl c5_0 ?_ | refine wl_cell rfl rfl rfl _ Tryd.underlying3 rfl c5_1 ?_ | refine wl_cell rfl rfl rfl _ Tryd.underlying3 rfl c5_2 ?_ | refine wl_cell rfl rfl rfl _ Tryd.underlying3 rfl c7_0 ?_ | refine wl_cell rfl rfl rfl _ Tryd.underlying3 rfl c7_1 ?_ | refine wl_cell rfl rfl rfl _ Tryd.underlying3 rfl c7_2 ?_ | refine wl_cell rfl rfl rfl _ Tryd.underlying3 rfl c9_0 ?_ | refine wl_cell rfl rfl rfl _ Tryd.underlying3 rfl c9_1 ?_ | refine wl_cell rfl rfl rfl _ Tryd.underlying3 rfl c9_2 ?_ | refine wl_cell rfl rfl rfl _ Tryd.underlying3 rfl c17_0 ?_ | refine wl_cell rfl rfl rfl _ Tryd.underlying3 rfl c17_1 ?_ | refine wl_cell rfl rfl rfl _ Tryd.underlying3 rfl c17_2 ?_ | refine wl_cell rfl rfl rfl _ Tryd.underlying37 rfl c9_14 ?_))
    | ((with_reducible refine gate_callee (f := 16) rfl ?_); (try (refine gate_guard (by rfl) ?_; dsimp only)); refine goesL_ (some 51) rfl rfl Tryd.func16 (by kernel_rfl) rfl #[.agg (stC (⟨#[97]⟩ : ByteArray) (⟨#[104]⟩ : ByteArray) 3 3 7 false 0 167772161 57 94 107 7 0), .int .i64 106] rfl (by (try simp only [List.map_toArray, List.map_cons, List.map_nil]); first | done | rfl) ?_; (refine (cw_h1 _).mono ?_); rintro e_ w1 ⟨rfl, hb⟩; refine ⟨_, rfl, ?_⟩; have I2 := Aside0.mk (I.out.call hb); clear I hb; have I := I2; clear I2)
    | ((with_reducible refine gate_callee (f := 16) rfl ?_); (try (refine gate_guard (by rfl) ?_; dsimp only)); refine goesL_ (some 56) rfl rfl Tryd.func16 (by kernel_rfl) rfl #[.agg (stC (⟨#[97]⟩ : ByteArray) (⟨#[104]⟩ : ByteArray) 3 3 7 false 0 167772161 57 94 107 7 0), .int .i64 107] rfl (by (try simp only [List.map_toArray, List.map_cons, List.map_nil]); first | done | rfl) ?_; (refine (cw_h2 _).mono ?_); rintro e_ w1 ⟨rfl, hb⟩; refine ⟨_, rfl, ?_⟩; have I2 := Aside0.mk (I.out.call hb); clear I hb; have I := I2; clear I2)
    | ((with_reducible refine gate_callee (f := 13) rfl ?_); (try (refine gate_guard (by rfl) ?_; dsimp only)); refine goesL_ (some 61) rfl rfl Tryd.func13 (by kernel_rfl) rfl #[.agg (stC (⟨#[97]⟩ : ByteArray) (⟨#[104]⟩ : ByteArray) 3 3 7 false 0 167772161 57 94 107 7 0), .int .i64 20] rfl (by (try simp only [List.map_toArray, List.map_cons, List.map_nil]); first | done | rfl) ?_; (refine (cw_lv _).mono ?_); rintro e_ w1 ⟨A, c, rfl, hf, hb⟩; obtain ⟨ad17, _, _, e17, -⟩ := at_T39 hf.now 0 (by decide) (by decide); subst e17; refine ⟨_, rfl, ?_⟩; have I2 := Aside0.mk (I.out.addNew hb hf (fun k hk _ => I.out.new_out k hk)); clear I hb hf; have I := I2; clear I2)
    | ((with_reducible refine gate_sr rfl ?_); refine wl_sr2 rfl rfl rfl rfl rfl I.out (by first | exact .head _ | exact .tail _ (.head _) | exact .tail _ (.tail _ (.head _)) | exact .tail _ (.tail _ (.tail _ (.head _))) | exact .tail _ (.tail _ (.tail _ (.tail _ (.head _)))) | exact .tail _ (.tail _ (.tail _ (.tail _ (.tail _ (.head _))))) | exact .tail _ (.tail _ (.tail _ (.tail _ (.tail _ (.tail _ (.head _)))))) | exact .tail _ (.tail _ (.tail _ (.tail _ (.tail _ (.tail _ (.tail _ (.head _))))))) | exact .tail _ (.tail _ (.tail _ (.tail _ (.tail _ (.tail _ (.tail _ (.tail _ (.head _))))))))) (by first | exact sr_st | exact sr_ad) (by first | exact .head | exact .tail (.head) | exact .tail (.tail (.head)) | exact .tail (.tail (.tail (.head))) | exact .tail (.tail (.tail (.tail (.head)))) | exact .tail (.tail (.tail (.tail (.tail (.head))))) | exact .tail (.tail (.tail (.tail (.tail (.tail (.head)))))) | exact .tail (.tail (.tail (.tail (.tail (.tail (.tail (.head))))))) | exact .tail (.tail (.tail (.tail (.tail (.tail (.tail (.tail (.head))))))))) ?_; intro w1 hI; clear I; have I := Aside0.mk hI; clear hI)
    )
   simp only [List.append, List.append_eq, List.cons_append, List.nil_append]
   obtain ⟨⟨⟨⟨_, k5⟩, k7⟩, k9⟩, k17⟩ := I.out.now
   obtain ⟨ad5, B5, b5, e5, c5_0, c5_1, c5_2, -, -, -, -, -, -, -, -, -, -, -, c5_14, -, o5⟩ := at_T39 k5 0 (by decide) (by decide)
   cases e5
   obtain ⟨ad7, B7, b7, e7, c7_0, c7_1, c7_2, -, -, -, -, -, -, -, -, -, -, -, c7_14, -, o7⟩ := at_T39 k7 0 (by decide) (by decide)
   cases e7
   obtain ⟨ad9, B9, b9, e9, c9_0, c9_1, c9_2, -, -, -, -, -, -, -, -, -, -, -, c9_14, -, o9⟩ := at_T39 k9 0 (by decide) (by decide)
   cases e9
   obtain ⟨ad17, B17, b17, e17, c17_0, c17_1, c17_2, -, -, -, -, -, -, -, -, -, -, -, c17_14, -, o17⟩ := at_T39 k17 0 (by decide) (by decide)
   cases e17
   obtain ⟨adO, eO, p0_0, p0_1⟩ := at_T60 o9 0 (by decide) (by decide)
   obtain ⟨adP, eP, p1_0, p1_1⟩ := at_T60 o9 1 (by decide) (by decide)
   subst eO
   cases eP
   replace c5_0 : _ = some (Value.int IntKind.i64 1 : Value) := c5_0
   replace c5_1 : _ = some (Value.int IntKind.i64 1 : Value) := c5_1
   replace c7_1 : _ = some (Value.int IntKind.i64 2 : Value) := c7_1
   replace c9_0 : _ = some (Value.int IntKind.i64 3 : Value) := c9_0
   replace c9_2 : _ = some (Value.int IntKind.i64 7 : Value) := c9_2
   replace c9_14 : _ = some (Value.slice _ 2 _ : Value) := c9_14
   replace c17_0 : _ = some (Value.int IntKind.i64 7 : Value) := c17_0
   replace c17_1 : _ = some (Value.int IntKind.i64 4 : Value) := c17_1
   replace p0_0 : _ = some (Value.int IntKind.i64 50 : Value) := p0_0
   replace p0_1 : _ = some (Value.string (⟨#[10, 0, 0, 1]⟩ : ByteArray) : Value) := p0_1
   replace p1_0 : _ = some (Value.int IntKind.i64 12 : Value) := p1_0
   replace p1_1 : _ = some (Value.string (⟨#[104]⟩ : ByteArray) : Value) := p1_1
   have HS := Aside0.mk (below_drew1 (Below.refl w1.heap.size w1))
   refine draw_ (fun W => Below w1.heap.size w1 W) [] (by kernel_rfl) rfl HS.out ?_
   refine pu1 (i := 0) rfl rfl (by as_aux_lemma => kernel_rfl) ?_ (ha := by as_aux_lemma => (go_simp; rfl))
   refine pu1 (i := 1) rfl rfl (by as_aux_lemma => kernel_rfl) ?_ (ha := by as_aux_lemma => (go_simp; rfl))
   refine pu1 (i := 2) rfl rfl (by as_aux_lemma => kernel_rfl) ?_ (ha := by as_aux_lemma => (go_simp; rfl))
   refine tc1 (i := 3) rfl rfl (by as_aux_lemma => kernel_rfl) HS.out (run_cellB rfl rfl _ Tryd.underlying3 rfl c5_0) ?_ (ha := by (go_simp; rfl))
   refine pu1 (i := 4) rfl rfl (by as_aux_lemma => kernel_rfl) ?_ (ha := by as_aux_lemma => (go_simp; rfl))
   refine pu1 (i := 5) rfl rfl (by as_aux_lemma => kernel_rfl) ?_ (ha := by as_aux_lemma => (go_simp; rfl))
   refine pu1 (i := 6) rfl rfl (by as_aux_lemma => kernel_rfl) ?_ (ha := by as_aux_lemma => (go_simp; rfl))
   refine pu1 (i := 7) rfl rfl (by as_aux_lemma => kernel_rfl) ?_ (ha := by as_aux_lemma => (go_simp; rfl))
   refine pu1 (i := 8) rfl rfl (by as_aux_lemma => kernel_rfl) ?_ (ha := by as_aux_lemma => (go_simp; rfl))
   refine tc1 (i := 9) rfl rfl (by as_aux_lemma => kernel_rfl) HS.out (run_cellB rfl rfl _ Tryd.underlying3 rfl c5_1) ?_ (ha := by (go_simp; rfl))
   refine pu1 (i := 10) rfl rfl (by as_aux_lemma => kernel_rfl) ?_ (ha := by as_aux_lemma => (go_simp; rfl))
   refine pu1 (i := 11) rfl rfl (by as_aux_lemma => kernel_rfl) ?_ (ha := by as_aux_lemma => (go_simp; rfl))
   refine pu1 (i := 12) rfl rfl (by as_aux_lemma => kernel_rfl) ?_ (ha := by as_aux_lemma => (go_simp; rfl))
   refine pu1 (i := 13) rfl rfl (by as_aux_lemma => kernel_rfl) ?_ (ha := by as_aux_lemma => (go_simp; rfl))
   refine pu1 (i := 14) rfl rfl (by as_aux_lemma => kernel_rfl) ?_ (ha := by as_aux_lemma => (go_simp; rfl))
   refine pu1 (i := 15) rfl rfl (by as_aux_lemma => kernel_rfl) ?_ (ha := by as_aux_lemma => (go_simp; rfl))
   refine tc1 (i := 16) rfl rfl (by as_aux_lemma => kernel_rfl) HS.out (run_cellB rfl rfl _ Tryd.underlying3 rfl c7_1) ?_ (ha := by (go_simp; rfl))
   refine pu1 (i := 17) rfl rfl (by as_aux_lemma => kernel_rfl) ?_ (ha := by as_aux_lemma => (go_simp; rfl))
   refine pu1 (i := 18) rfl rfl (by as_aux_lemma => kernel_rfl) ?_ (ha := by as_aux_lemma => (go_simp; rfl))
   refine pu1 (i := 19) rfl rfl (by as_aux_lemma => kernel_rfl) ?_ (ha := by as_aux_lemma => (go_simp; rfl))
   refine pu1 (i := 20) rfl rfl (by as_aux_lemma => kernel_rfl) ?_ (ha := by as_aux_lemma => (go_simp; rfl))
   refine pu1 (i := 21) rfl rfl (by as_aux_lemma => kernel_rfl) ?_ (ha := by as_aux_lemma => (go_simp; rfl))
   refine pu1 (i := 22) rfl rfl (by as_aux_lemma => kernel_rfl) ?_ (ha := by as_aux_lemma => (go_simp; rfl))
   refine tc1 (i := 23) rfl rfl (by as_aux_lemma => kernel_rfl) HS.out (run_cellB rfl rfl _ Tryd.underlying3 rfl c9_0) ?_ (ha := by (go_simp; rfl))
   refine pu1 (i := 24) rfl rfl (by as_aux_lemma => kernel_rfl) ?_ (ha := by as_aux_lemma => (go_simp; rfl))
   refine pu1 (i := 25) rfl rfl (by as_aux_lemma => kernel_rfl) ?_ (ha := by as_aux_lemma => (go_simp; rfl))
   refine pu1 (i := 26) rfl rfl (by as_aux_lemma => kernel_rfl) ?_ (ha := by as_aux_lemma => (go_simp; rfl))
   refine pu1 (i := 27) rfl rfl (by as_aux_lemma => kernel_rfl) ?_ (ha := by as_aux_lemma => (go_simp; rfl))
   refine pu1 (i := 28) rfl rfl (by as_aux_lemma => kernel_rfl) ?_ (ha := by as_aux_lemma => (go_simp; rfl))
   refine pu1 (i := 29) rfl rfl (by as_aux_lemma => kernel_rfl) ?_ (ha := by as_aux_lemma => (go_simp; rfl))
   refine tc1 (i := 30) rfl rfl (by as_aux_lemma => kernel_rfl) HS.out (run_cellB rfl rfl _ Tryd.underlying3 rfl c9_2) ?_ (ha := by (go_simp; rfl))
   refine pu1 (i := 31) rfl rfl (by as_aux_lemma => kernel_rfl) ?_ (ha := by as_aux_lemma => (go_simp; rfl))
   refine pu1 (i := 32) rfl rfl (by as_aux_lemma => kernel_rfl) ?_ (ha := by as_aux_lemma => (go_simp; rfl))
   refine pu1 (i := 33) rfl rfl (by as_aux_lemma => kernel_rfl) ?_ (ha := by as_aux_lemma => (go_simp; rfl))
   refine pu1 (i := 34) rfl rfl (by as_aux_lemma => kernel_rfl) ?_ (ha := by as_aux_lemma => (go_simp; rfl))
   refine pu1 (i := 35) rfl rfl (by as_aux_lemma => kernel_rfl) ?_ (ha := by as_aux_lemma => (go_simp; rfl))
   refine pu1 (i := 36) rfl rfl (by as_aux_lemma => kernel_rfl) ?_ (ha := by as_aux_lemma => (go_simp; rfl))
   refine tc1 (i := 37) rfl rfl (by as_aux_lemma => kernel_rfl) HS.out (run_cellB rfl rfl _ Tryd.underlying37 rfl c9_14) ?_ (ha := by (go_simp; rfl))
   refine pu1 (i := 38) rfl rfl (by as_aux_lemma => kernel_rfl) ?_ (ha := by as_aux_lemma => (go_simp; rfl))
   refine tc1 (i := 39) rfl rfl (by as_aux_lemma => kernel_rfl) HS.out (run_twoB rfl rfl p0_0 p0_1) ?_ (ha := by (go_simp; rfl))
   refine pu1 (i := 40) rfl rfl (by as_aux_lemma => kernel_rfl) ?_ (ha := by as_aux_lemma => (go_simp; rfl))
   refine pu1 (i := 41) rfl rfl (by as_aux_lemma => kernel_rfl) ?_ (ha := by as_aux_lemma => (go_simp; rfl))
   refine pu1 (i := 42) rfl rfl (by as_aux_lemma => kernel_rfl) ?_ (ha := by as_aux_lemma => (go_simp; rfl))
   refine pu1 (i := 43) rfl rfl (by as_aux_lemma => kernel_rfl) ?_ (ha := by as_aux_lemma => (go_simp; rfl))
   refine pu1 (i := 44) rfl rfl (by as_aux_lemma => kernel_rfl) ?_ (ha := by as_aux_lemma => (go_simp; rfl))
   refine pu1 (i := 45) rfl rfl (by as_aux_lemma => kernel_rfl) ?_ (ha := by as_aux_lemma => (go_simp; rfl))
   refine pu1 (i := 46) rfl rfl (by as_aux_lemma => kernel_rfl) ?_ (ha := by as_aux_lemma => (go_simp; rfl))
   refine tc1 (i := 47) rfl rfl (by as_aux_lemma => kernel_rfl) HS.out (run_cellB rfl rfl _ Tryd.underlying37 rfl c9_14) ?_ (ha := by (go_simp; rfl))
   refine pu1 (i := 48) rfl rfl (by as_aux_lemma => kernel_rfl) ?_ (ha := by as_aux_lemma => (go_simp; rfl))
   refine tc1 (i := 49) rfl rfl (by as_aux_lemma => kernel_rfl) HS.out (run_twoB rfl rfl p1_0 p1_1) ?_ (ha := by (go_simp; rfl))
   refine pu1 (i := 50) rfl rfl (by as_aux_lemma => kernel_rfl) ?_ (ha := by as_aux_lemma => (go_simp; rfl))
   refine pu1 (i := 51) rfl rfl (by as_aux_lemma => kernel_rfl) ?_ (ha := by as_aux_lemma => (go_simp; rfl))
   refine pu1 (i := 52) rfl rfl (by as_aux_lemma => kernel_rfl) ?_ (ha := by as_aux_lemma => (go_simp; rfl))
   refine pu1 (i := 53) rfl rfl (by as_aux_lemma => kernel_rfl) ?_ (ha := by as_aux_lemma => (go_simp; rfl))
   refine pu1 (i := 54) rfl rfl (by as_aux_lemma => kernel_rfl) ?_ (ha := by as_aux_lemma => (go_simp; rfl))
   refine tc1 (i := 55) rfl rfl (by as_aux_lemma => kernel_rfl) HS.out (run_ownB rfl rfl I.out (by first | exact .head _ | exact .tail _ (.head _) | exact .tail _ (.tail _ (.head _)) | exact .tail _ (.tail _ (.tail _ (.head _))) | exact .tail _ (.tail _ (.tail _ (.tail _ (.head _)))) | exact .tail _ (.tail _ (.tail _ (.tail _ (.tail _ (.head _))))) | exact .tail _ (.tail _ (.tail _ (.tail _ (.tail _ (.tail _ (.head _)))))) | exact .tail _ (.tail _ (.tail _ (.tail _ (.tail _ (.tail _ (.tail _ (.head _))))))) | exact .tail _ (.tail _ (.tail _ (.tail _ (.tail _ (.tail _ (.tail _ (.tail _ (.head _))))))))) (by exact ld_st2)) ?_ (ha := by (go_simp; rfl))
   refine pu1 (i := 56) rfl rfl (by as_aux_lemma => kernel_rfl) ?_ (ha := by as_aux_lemma => (go_simp; rfl))
   refine pu1 (i := 57) rfl rfl (by as_aux_lemma => kernel_rfl) ?_ (ha := by as_aux_lemma => (go_simp; rfl))
   refine pu1 (i := 58) rfl rfl (by as_aux_lemma => kernel_rfl) ?_ (ha := by as_aux_lemma => (go_simp; rfl))
   refine pu1 (i := 59) rfl rfl (by as_aux_lemma => kernel_rfl) ?_ (ha := by as_aux_lemma => (go_simp; rfl))
   refine tc1 (i := 60) rfl rfl (by as_aux_lemma => kernel_rfl) HS.out (run_ownB rfl rfl I.out (by first | exact .head _ | exact .tail _ (.head _) | exact .tail _ (.tail _ (.head _)) | exact .tail _ (.tail _ (.tail _ (.head _))) | exact .tail _ (.tail _ (.tail _ (.tail _ (.head _)))) | exact .tail _ (.tail _ (.tail _ (.tail _ (.tail _ (.head _))))) | exact .tail _ (.tail _ (.tail _ (.tail _ (.tail _ (.tail _ (.head _)))))) | exact .tail _ (.tail _ (.tail _ (.tail _ (.tail _ (.tail _ (.tail _ (.head _))))))) | exact .tail _ (.tail _ (.tail _ (.tail _ (.tail _ (.tail _ (.tail _ (.tail _ (.head _))))))))) (by exact ld_st8)) ?_ (ha := by (go_simp; rfl))
   refine pu1 (i := 61) rfl rfl (by as_aux_lemma => kernel_rfl) ?_ (ha := by as_aux_lemma => (go_simp; rfl))
   refine pu1 (i := 62) rfl rfl (by as_aux_lemma => kernel_rfl) ?_ (ha := by as_aux_lemma => (go_simp; rfl))
   refine pu1 (i := 63) rfl rfl (by as_aux_lemma => kernel_rfl) ?_ (ha := by as_aux_lemma => (go_simp; rfl))
   refine pu1 (i := 64) rfl rfl (by as_aux_lemma => kernel_rfl) ?_ (ha := by as_aux_lemma => (go_simp; rfl))
   refine tc1 (i := 65) rfl rfl (by as_aux_lemma => kernel_rfl) HS.out (run_ownB rfl rfl I.out (by first | exact .head _ | exact .tail _ (.head _) | exact .tail _ (.tail _ (.head _)) | exact .tail _ (.tail _ (.tail _ (.head _))) | exact .tail _ (.tail _ (.tail _ (.tail _ (.head _)))) | exact .tail _ (.tail _ (.tail _ (.tail _ (.tail _ (.head _))))) | exact .tail _ (.tail _ (.tail _ (.tail _ (.tail _ (.tail _ (.head _)))))) | exact .tail _ (.tail _ (.tail _ (.tail _ (.tail _ (.tail _ (.tail _ (.head _))))))) | exact .tail _ (.tail _ (.tail _ (.tail _ (.tail _ (.tail _ (.tail _ (.tail _ (.head _))))))))) (by exact ld_st9)) ?_ (ha := by (go_simp; rfl))
   refine pu1 (i := 66) rfl rfl (by as_aux_lemma => kernel_rfl) ?_ (ha := by as_aux_lemma => (go_simp; rfl))
   refine pu1 (i := 67) rfl rfl (by as_aux_lemma => kernel_rfl) ?_ (ha := by as_aux_lemma => (go_simp; rfl))
   refine pu1 (i := 68) rfl rfl (by as_aux_lemma => kernel_rfl) ?_ (ha := by as_aux_lemma => (go_simp; rfl))
   refine pu1 (i := 69) rfl rfl (by as_aux_lemma => kernel_rfl) ?_ (ha := by as_aux_lemma => (go_simp; rfl))
   refine tc1 (i := 70) rfl rfl (by as_aux_lemma => kernel_rfl) HS.out (run_ownB rfl rfl I.out (by first | exact .head _ | exact .tail _ (.head _) | exact .tail _ (.tail _ (.head _)) | exact .tail _ (.tail _ (.tail _ (.head _))) | exact .tail _ (.tail _ (.tail _ (.tail _ (.head _)))) | exact .tail _ (.tail _ (.tail _ (.tail _ (.tail _ (.head _))))) | exact .tail _ (.tail _ (.tail _ (.tail _ (.tail _ (.tail _ (.head _)))))) | exact .tail _ (.tail _ (.tail _ (.tail _ (.tail _ (.tail _ (.tail _ (.head _))))))) | exact .tail _ (.tail _ (.tail _ (.tail _ (.tail _ (.tail _ (.tail _ (.tail _ (.head _))))))))) (by exact ld_st10)) ?_ (ha := by (go_simp; rfl))
   refine pu1 (i := 71) rfl rfl (by as_aux_lemma => kernel_rfl) ?_ (ha := by as_aux_lemma => (go_simp; rfl))
   refine pu1 (i := 72) rfl rfl (by as_aux_lemma => kernel_rfl) ?_ (ha := by as_aux_lemma => (go_simp; rfl))
   refine pu1 (i := 73) rfl rfl (by as_aux_lemma => kernel_rfl) ?_ (ha := by as_aux_lemma => (go_simp; rfl))
   refine pu1 (i := 74) rfl rfl (by as_aux_lemma => kernel_rfl) ?_ (ha := by as_aux_lemma => (go_simp; rfl))
   refine pu1 (i := 75) rfl rfl (by as_aux_lemma => kernel_rfl) ?_ (ha := by as_aux_lemma => (go_simp; rfl))
   refine pu1 (i := 76) rfl rfl (by as_aux_lemma => kernel_rfl) ?_ (ha := by as_aux_lemma => (go_simp; rfl))
   refine tc1 (i := 77) rfl rfl (by as_aux_lemma => kernel_rfl) HS.out (run_ownB rfl rfl I.out (by first | exact .head _ | exact .tail _ (.head _) | exact .tail _ (.tail _ (.head _)) | exact .tail _ (.tail _ (.tail _ (.head _))) | exact .tail _ (.tail _ (.tail _ (.tail _ (.head _)))) | exact .tail _ (.tail _ (.tail _ (.tail _ (.tail _ (.head _))))) | exact .tail _ (.tail _ (.tail _ (.tail _ (.tail _ (.tail _ (.head _)))))) | exact .tail _ (.tail _ (.tail _ (.tail _ (.tail _ (.tail _ (.tail _ (.head _))))))) | exact .tail _ (.tail _ (.tail _ (.tail _ (.tail _ (.tail _ (.tail _ (.tail _ (.head _))))))))) (by exact ld_ad)) ?_ (ha := by (go_simp; rfl))
   refine ca1 (i := 78) rfl rfl (by kernel_rfl) (by decide) Tryd.func21 (by kernel_rfl) rfl #[.int .u64 1] rfl (by (try simp only [List.map_toArray, List.map_cons, List.map_nil]); first | done | rfl) ?_
   refine (ten_c _).mono ?_
   rintro e_ w2 ⟨rfl, hb⟩
   have HS2 := Aside0.mk (below_step HS.out hb)
   clear HS hb
   have HS := HS2
   clear HS2
   refine ⟨_, rfl, HS.out, ?_⟩
   refine pu1 (i := 79) rfl rfl (by as_aux_lemma => kernel_rfl) ?_ (ha := by as_aux_lemma => (go_simp; rfl))
   refine pu1 (i := 80) rfl rfl (by as_aux_lemma => kernel_rfl) ?_ (ha := by as_aux_lemma => (go_simp; rfl))
   refine pu1 (i := 81) rfl rfl (by as_aux_lemma => kernel_rfl) ?_ (ha := by as_aux_lemma => (go_simp; rfl))
   refine pu1 (i := 82) rfl rfl (by as_aux_lemma => kernel_rfl) ?_ (ha := by as_aux_lemma => (go_simp; rfl))
   refine pu1 (i := 83) rfl rfl (by as_aux_lemma => kernel_rfl) ?_ (ha := by as_aux_lemma => (go_simp; rfl))
   refine pu1 (i := 84) rfl rfl (by as_aux_lemma => kernel_rfl) ?_ (ha := by as_aux_lemma => (go_simp; rfl))
   refine pu1 (i := 85) rfl rfl (by as_aux_lemma => kernel_rfl) ?_ (ha := by as_aux_lemma => (go_simp; rfl))
   refine pu1 (i := 86) rfl rfl (by as_aux_lemma => kernel_rfl) ?_ (ha := by as_aux_lemma => (go_simp; rfl))
   refine pu1 (i := 87) rfl rfl (by as_aux_lemma => kernel_rfl) ?_ (ha := by as_aux_lemma => (go_simp; rfl))
   refine pu1 (i := 88) rfl rfl (by as_aux_lemma => kernel_rfl) ?_ (ha := by as_aux_lemma => (go_simp; rfl))
   refine tc1 (i := 89) rfl rfl (by as_aux_lemma => kernel_rfl) HS.out (run_cellB rfl rfl _ Tryd.underlying3 rfl c17_0) ?_ (ha := by (go_simp; rfl))
   refine pu1 (i := 90) rfl rfl (by as_aux_lemma => kernel_rfl) ?_ (ha := by as_aux_lemma => (go_simp; rfl))
   refine pu1 (i := 91) rfl rfl (by as_aux_lemma => kernel_rfl) ?_ (ha := by as_aux_lemma => (go_simp; rfl))
   refine pu1 (i := 92) rfl rfl (by as_aux_lemma => kernel_rfl) ?_ (ha := by as_aux_lemma => (go_simp; rfl))
   refine pu1 (i := 93) rfl rfl (by as_aux_lemma => kernel_rfl) ?_ (ha := by as_aux_lemma => (go_simp; rfl))
   refine pu1 (i := 94) rfl rfl (by as_aux_lemma => kernel_rfl) ?_ (ha := by as_aux_lemma => (go_simp; rfl))
   refine pu1 (i := 95) rfl rfl (by as_aux_lemma => kernel_rfl) ?_ (ha := by as_aux_lemma => (go_simp; rfl))
   refine tc1 (i := 96) rfl rfl (by as_aux_lemma => kernel_rfl) HS.out (run_cellB rfl rfl _ Tryd.underlying3 rfl c17_1) ?_ (ha := by (go_simp; rfl))
   refine pu1 (i := 97) rfl rfl (by as_aux_lemma => kernel_rfl) ?_ (ha := by as_aux_lemma => (go_simp; rfl))
   refine pu1 (i := 98) rfl rfl (by as_aux_lemma => kernel_rfl) ?_ (ha := by as_aux_lemma => (go_simp; rfl))
   refine pu1 (i := 99) rfl rfl (by as_aux_lemma => kernel_rfl) ?_ (ha := by as_aux_lemma => (go_simp; rfl))
   refine pu1 (i := 100) rfl rfl (by as_aux_lemma => kernel_rfl) ?_ (ha := by as_aux_lemma => (go_simp; rfl))
   refine tc1 (i := 101) rfl rfl (by as_aux_lemma => kernel_rfl) HS.out (run_ownB rfl rfl I.out (by first | exact .head _ | exact .tail _ (.head _) | exact .tail _ (.tail _ (.head _)) | exact .tail _ (.tail _ (.tail _ (.head _))) | exact .tail _ (.tail _ (.tail _ (.tail _ (.head _)))) | exact .tail _ (.tail _ (.tail _ (.tail _ (.tail _ (.head _))))) | exact .tail _ (.tail _ (.tail _ (.tail _ (.tail _ (.tail _ (.head _)))))) | exact .tail _ (.tail _ (.tail _ (.tail _ (.tail _ (.tail _ (.tail _ (.head _))))))) | exact .tail _ (.tail _ (.tail _ (.tail _ (.tail _ (.tail _ (.tail _ (.tail _ (.head _))))))))) (by exact ld_st2)) ?_ (ha := by (go_simp; rfl))
   refine pu1 (i := 102) rfl rfl (by as_aux_lemma => kernel_rfl) ?_ (ha := by as_aux_lemma => (go_simp; rfl))
   refine pu1 (i := 103) rfl rfl (by as_aux_lemma => kernel_rfl) ?_ (ha := by as_aux_lemma => (go_simp; rfl))
   refine pu1 (i := 104) rfl rfl (by as_aux_lemma => kernel_rfl) ?_ (ha := by as_aux_lemma => (go_simp; rfl))
   refine do1 (by as_aux_lemma => kernel_rfl) ?_
   go_wp2
   go_ret
   exact ⟨rfl, I.out.below.trans (HS.out.mono I.out.below.size)⟩
end Go.Proofs.YtlabnocmmeciaaaDoor.BQ

