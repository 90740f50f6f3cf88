/- Parts of the proof of this claim's statement (joined by a program of this session): NewP, Plz, Jz, Lpz, Py0, Pya, Pyb, Aw0, Awk, Pyt, Wfsz. -/
import Derived.Test.YtlabnocmmeciaaaGreatDoorq7
import Derived.Test.YtlabnocmmeciaaaGreatDoorq1
import Derived.Test.YtlabnocmmeciaaaGreatDoorq8
import Derived.Test.YtlabnocmmeciaaaGreatDoorq3
import Derived.Laws.Bits64b
import Derived.Test.YtlabnocmmeciaaaGreatDoorq2
import Derived.Test.YtlabnocmmeciaaaGreatDoorq4
import Derived.Test.YtlabnocmmeciaaaGreatDoorq5
set_option linter.unusedVariables false
set_option linter.unusedSimpArgs false
set_option maxRecDepth 100000
set_option maxHeartbeats 8000000
namespace Go.Proofs.YtlabnocmmeciaaaGreatDoor.Pa
open RowKit YtlabnocmmeciaaaGreatDoorW.PrintWords YtlabnocmmeciaaaGreatDoorW.PrintLast DN
theorem rd_at (x : List ByteArray) (i : Nat) (h : i < x.length) : rdOf ByteArray.empty x (i : Int) = x[i] := by simp [rdOf, List.getElem?_eq_getElem h]
theorem low_ifs2 {α : Type} (b : Int) (y z : α) : (if b ≥ 97 then (if b ≤ 122 then y else (if b ≥ 48 then (if b ≤ 57 then y else (if b = 45 then y else (if (b = 95) then y else z))) else (if b = 45 then y else (if (b = 95) then y else z)))) else (if b ≥ 48 then (if b ≤ 57 then y else (if b = 45 then y else (if (b = 95) then y else z))) else (if b = 45 then y else (if (b = 95) then y else z)))) = if lowI b = true then y else z := by
  unfold lowI
  repeat' split
  all_goals first | rfl | (simp_all; done) | (simp_all; omega)
theorem islab_l0 (s : ByteArray) (hs : s.size ≤ 140737488351232) : ∀ d i k : Nat, i + d = s.size → d < k → ddiref01_isLabel.l0 k s i = some (((L s).drop i).all isLow) := by
  intro d
  induction d with
  | zero =>
    intro i k hd hk
    obtain ⟨k, rfl⟩ : ∃ m, k = m + 1 := ⟨k - 1, by omega⟩
    simp only [ddiref01_isLabel.l0]
    rw [if_neg (by omega), List.drop_of_length_le (by rw [L_len]; omega)]
    rfl
  | succ d ih =>
    intro i k hd hk
    obtain ⟨k, rfl⟩ : ∃ m, k = m + 1 := ⟨k - 1, by omega⟩
    have hi : i < (L s).length := by rw [L_len]; omega
    have hw : wrap64 ((i : Int) + 1) = ((i + 1 : Nat) : Int) := by rw [wrap_id (by omega) (by omega)]; omega
    simp only [ddiref01_isLabel.l0]
    rw [if_pos (by omega), if_pos (by omega), low_ifs2, bt_L s i hi, lowI_isLow, hw, ih (i + 1) k (by omega) (by omega), List.drop_eq_getElem_cons hi, List.all_cons]
    cases isLow (L s)[i] <;> simp
theorem islab_f (s : ByteArray) (hs : s.size ≤ 140737488351232) (k : Nat) (hk : s.size + 3 ≤ k) : ddiref01_isLabel.f k s = some (labL (L s)) := by
  obtain ⟨k, rfl⟩ : ∃ m, k = m + 1 := ⟨k - 1, by omega⟩
  unfold ddiref01_isLabel.f labL
  have hl := L_len s
  rw [toList_L]
  by_cases h0 : L s = [42]
  · rw [if_pos h0]; simp [h0]
  have hb : (L s == [42]) = false := by simpa using h0
  rw [if_neg h0, hb, Bool.or_false]
  by_cases h1 : (s.size : Int) < 1
  · rw [if_pos h1]
    have : L s = [] := List.length_eq_zero_iff.1 (by omega)
    simp [ddiref01_isLabel.j0, ordL, this]
  rw [if_neg h1]
  simp only [ddiref01_isLabel.j0]
  have hne : (L s).isEmpty = false := by cases hL : L s with | nil => rw [hL] at hl; simp at hl; omega | cons => rfl
  by_cases h2 : (s.size : Int) > 63
  · have : ¬ (L s).length ≤ 63 := by omega
    simp only [h2, decide_true, if_true, ordL, this, decide_false, Bool.and_false, Bool.false_and]
  · have h := islab_l0 s hs s.size 0 k (by omega) (by omega)
    have : (L s).length ≤ 63 := by omega
    simp only [h2, decide_false, Bool.false_eq_true, if_false]
    rw [show (0 : Int) = ((0 : Nat) : Int) from rfl, h]
    simp only [ordL, hne, Bool.not_false, Bool.true_and, this, decide_true, List.drop_zero]
/-- what split makes of the labels that are left, st > 0 or not -/
def okCuts (first : Bool) (l : List (List UInt8)) : Bool := if first then labs l else l.all ordL
theorem okCuts_cons (first : Bool) (x : List UInt8) (l : List (List UInt8)) : okCuts first (x :: l) = ((labL x && (first || !(x == [42]))) && okCuts false l) := by
  have h42 : ordL [42] = false := by decide
  cases first with
  | true => simp [okCuts, labs]
  | false =>
    simp only [okCuts, Bool.false_eq_true, if_false, List.all_cons, Bool.false_or, labL]
    by_cases h : x = [42]
    · subst h; simp [h42]
    · have : (x == [42]) = false := by simpa using h
      simp [this]
theorem split_l0 (s : ByteArray) (hs : s.size ≤ 254) : ∀ d i st k : Nat, ∀ (acc : List ByteArray) (cur : List UInt8), i + d = s.size → st ≤ i → ((L s).drop st).take (i - st) = cur → (∀ c ∈ cur, c ≠ 46) → acc.length ≤ i →
    (cur ++ (L s).drop i = [] ∨ (cur ++ (L s).drop i).getLast? = some 46) → d + 400 < k →
    ddiref01_split.l0 k s acc st i = some (if okCuts (decide (st = 0)) (cuts (cur ++ (L s).drop i)) = true then (acc ++ (cuts (cur ++ (L s).drop i)).map B, true) else ([], false)) := by
  intro d
  induction d with
  | zero =>
    intro i st k acc cur hd hst hcur hno hacc hend hk
    obtain ⟨k, rfl⟩ : ∃ m, k = m + 1 := ⟨k - 1, by omega⟩
    have hR : (L s).drop i = [] := List.drop_of_length_le (by rw [L_len]; omega)
    rw [hR, List.append_nil] at hend ⊢
    have hc0 : cur = [] := by
      rcases hend with h | h
      · exact h
      · obtain ⟨m, rfl⟩ := List.getLast?_eq_some_iff.1 h
        exact absurd rfl (hno 46 (by simp))
    subst hc0
    simp only [ddiref01_split.l0]
    rw [if_neg (by omega)]
    have : okCuts (decide (st = 0)) (cuts []) = true := by cases decide (st = 0) <;> rfl
    rw [if_pos this]; simp [cuts]
  | succ d ih =>
    intro i st k acc cur hd hst hcur hno hacc hend hk
    obtain ⟨k, rfl⟩ : ∃ m, k = m + 1 := ⟨k - 1, by omega⟩
    have hi : i < (L s).length := by rw [L_len]; omega
    have hw : wrap64 ((i : Int) + 1) = ((i + 1 : Nat) : Int) := by rw [wrap_id (by omega) (by omega)]; omega
    have hR : (L s).drop i = (L s)[i] :: (L s).drop (i + 1) := List.drop_eq_getElem_cons hi
    rw [hR] at hend ⊢
    simp only [ddiref01_split.l0]
    rw [if_pos (by omega), if_pos (by omega), bt_L s i hi]
    by_cases hc : (L s)[i] = 46
    · rw [if_pos (by rw [hc]; rfl), if_pos (by omega), if_pos (by omega), if_pos (by omega)]
      simp only [Int.toNat_natCast]
      have hLx : L (s.extract st i) = cur := by rw [L_extract]; exact hcur
      have hxs : (s.extract st i).size ≤ 254 := by
        rw [← L_len, hLx, ← hcur]
        have := List.length_take_le (i - st) ((L s).drop st)
        omega
      have hxB : s.extract st i = B cur := L_inj (by rw [hLx, L_B])
      have hend' : (L s).drop (i + 1) = [] ∨ ((L s).drop (i + 1)).getLast? = some 46 := by
        rcases hend with h | h
        · simp at h
        · cases hr : (L s).drop (i + 1) with
          | nil => exact .inl rfl
          | cons e r => right; rw [hr, List.getLast?_append, List.getLast?_cons_cons] at h; cases hq : (e :: r).getLast? with
            | none => simp at hq
            | some q => rw [hq] at h; simpa using h
      have hacc1 : acc.length < 8796093022208 := by omega
      have hnext := ih (i + 1) (i + 1) k (acc ++ [s.extract st i]) [] (by omega) (Nat.le_refl _) (by simp) (by simp) (by simp; omega) (by simpa using hend') (by omega)
      rw [show decide (i + 1 = 0) = false by simp, List.nil_append] at hnext
      rw [islab_f _ (by omega) k (by omega), hLx, hc, cuts_piece cur hno, okCuts_cons, hw]
      simp only [Option.bind_some]
      rw [toList_L, hLx]
      cases hlab : labL cur with
      | false => simp
      | true =>
        rw [if_pos rfl]
        have hfin : (if okCuts false (cuts ((L s).drop (i + 1))) = true then (acc ++ [s.extract st i] ++ (cuts ((L s).drop (i + 1))).map B, true) else ([], false)) =
            (if okCuts false (cuts ((L s).drop (i + 1))) = true then (acc ++ (cur :: cuts ((L s).drop (i + 1))).map B, true) else (([] : List ByteArray), false)) := by
          rw [hxB]; simp
        by_cases h42 : cur = [42]
        · have hb : (cur == [42]) = true := by simpa using h42
          rw [if_pos h42, hb]
          by_cases hst0 : st = 0
          · subst hst0
            rw [if_neg (by omega), if_pos hacc1, hnext, hfin]
            simp
          · rw [if_pos (by omega)]
            simp [hst0]
        · have hb : (cur == [42]) = false := by simpa using h42
          rw [if_neg h42, if_pos hacc1, hnext, hfin, hb]
          simp
    · rw [if_neg (by intro e; apply hc; apply UInt8.toNat_inj.1; have : (46 : UInt8).toNat = 46 := rfl; omega), hw]
      have hcur' : ((L s).drop st).take (i + 1 - st) = cur ++ [(L s)[i]] := by
        rw [show i + 1 - st = (i - st) + 1 by omega, List.take_succ_eq_append_getElem (by rw [List.length_drop]; omega), hcur]
        congr 2
        rw [List.getElem_drop]; congr 1; omega
      have := ih (i + 1) st k acc (cur ++ [(L s)[i]]) (by omega) (by omega) hcur' (by intro c hc'; rcases List.mem_append.1 hc' with h | h; exact hno c h; rw [List.mem_singleton.1 h]; exact hc) (by omega) (by simpa using hend) (by omega)
      rw [this]; simp
theorem split_f (s : ByteArray) (hs : s.size ≤ 140737488351232) (k : Nat) (hk : 1000 ≤ k) : ddiref01_split.f k s = some ((labelsL (L s)).map B, validL (L s)) := by
  obtain ⟨k, rfl⟩ : ∃ m, k = m + 1 := ⟨k - 1, by omega⟩
  have hl := L_len s
  unfold ddiref01_split.f
  rw [toList_L]
  by_cases h0 : L s = [46]
  · rw [if_pos h0, h0]; rfl
  have hb0 : (L s == [46]) = false := by simpa using h0
  rw [if_neg h0]
  by_cases h1 : (s.size : Int) < 2
  · rw [if_pos h1]
    have hv : validL (L s) = false := by
      cases hL : L s with
      | nil => rfl
      | cons c r =>
        have : r = [] := List.length_eq_zero_iff.1 (by rw [hL] at hl; simp at hl; omega)
        subst this
        have hc : c ≠ 46 := by rintro rfl; exact h0 hL
        simp [validL, hc]
    rw [hv, invalid_labels hv]
    simp [ddiref01_split.j0]
  rw [if_neg h1]
  by_cases h2 : (s.size : Int) > 254
  · rw [if_pos h2]
    have : ¬ (L s).length ≤ 254 := by omega
    have hv : validL (L s) = false := by simp only [validL, hb0, this, decide_false, Bool.false_and, Bool.false_or]
    rw [hv, invalid_labels hv]
    simp [ddiref01_split.j0]
  rw [if_neg h2]
  have hw : wrap64 ((s.size : Int) - 1) = ((s.size - 1 : Nat) : Int) := by rw [wrap_id (by omega) (by omega)]; omega
  rw [hw, if_pos (by omega), if_pos (by omega), bt_L s (s.size - 1) (by omega)]
  have hlast : (L s).getLast? = some (L s)[s.size - 1] := by
    have hidx : (L s).length - 1 = s.size - 1 := by omega
    rw [List.getLast?_eq_getElem?, List.getElem?_eq_getElem (by omega)]; simp only [hidx]
  have hle : (L s).length ≤ 254 := by omega
  simp only [ddiref01_split.j0]
  by_cases hc : (L s)[s.size - 1] = 46
  · have e1 : ((((L s)[s.size - 1]).toNat : Int) != 46) = false := by rw [hc]; rfl
    have hl46 : (L s).getLast? = some 46 := by rw [hlast, hc]
    have hv : validL (L s) = labs (cuts (L s)) := by simp only [validL, hb0, hle, decide_true, Bool.true_and, Bool.false_or, hl46]; simp
    rw [e1, if_neg (by decide)]
    have := split_l0 s (by omega) s.size 0 0 k [] [] (by omega) (Nat.le_refl _) (by simp) (by simp) (by simp) (Or.inr (by rw [List.nil_append, List.drop_zero]; exact hl46)) (by omega)
    rw [show (0 : Int) = ((0 : Nat) : Int) from rfl, this]
    simp only [List.drop_zero, List.nil_append, decide_true, okCuts, if_true]
    rw [hv, labelsL, if_neg h0, hv]
    cases labs (cuts (L s)) <;> simp
  · have e1 : ((((L s)[s.size - 1]).toNat : Int) != 46) = true := by
      rw [bne_iff_ne]; intro e; apply hc; apply UInt8.toNat_inj.1; have : (46 : UInt8).toNat = 46 := rfl; omega
    have e2 : (some (L s)[s.size - 1] == some (46 : UInt8)) = false := beq_eq_false_iff_ne.2 (fun e => hc (Option.some.inj e))
    have hv : validL (L s) = false := by simp only [validL, hb0, hle, decide_true, Bool.true_and, Bool.false_or, hlast, e2, Bool.false_and]
    rw [e1, if_pos rfl, hv, invalid_labels hv]; rfl
theorem name_l0 (l : List ByteArray) (hn : l.length ≤ 1000000) (hs : ∀ x ∈ l, x.size ≤ 1000000) : ∀ d i k : Nat, ∀ s : ByteArray, i + d = l.length → d < k → s.size ≤ 1000001 * i → ddiref01_name.l0 k l s i = some (s ++ B (txt ((l.map L).drop i))) := by
  intro d
  induction d with
  | zero =>
    intro i k s hd hk hsz
    obtain ⟨k, rfl⟩ : ∃ m, k = m + 1 := ⟨k - 1, by omega⟩
    simp only [ddiref01_name.l0]
    rw [if_neg (by omega), List.drop_of_length_le (by simp; omega)]
    congr 1; apply L_inj; rw [L_append]; simp [txt, B]
  | succ d ih =>
    intro i k s hd hk hsz
    obtain ⟨k, rfl⟩ : ∃ m, k = m + 1 := ⟨k - 1, by omega⟩
    have hi : i < l.length := by omega
    have hw : wrap64 ((i : Int) + 1) = ((i + 1 : Nat) : Int) := by rw [wrap_id (by omega) (by omega)]; omega
    have hr : rdOf ByteArray.empty l (i : Int) = l[i] := by simp [rdOf, hi]
    have hx := hs _ (List.getElem_mem hi)
    have h1 : (⟨#[46]⟩ : ByteArray).size = 1 := rfl
    simp only [ddiref01_name.l0]
    rw [if_pos (by omega), if_pos (by omega), hr, if_pos (by omega), if_pos (by rw [ByteArray.size_append]; omega), hw, ih (i + 1) k _ (by omega) (by omega) (by rw [ByteArray.size_append, ByteArray.size_append]; omega)]
    congr 1; apply L_inj
    have hdrop : (l.map L).drop i = L l[i] :: (l.map L).drop (i + 1) := by rw [List.drop_eq_getElem_cons (by simpa using hi)]; simp
    rw [hdrop, txt_cons, L_append, L_append, L_append, L_append, L_B, L_B]
    simp [show L (⟨#[46]⟩ : ByteArray) = [46] from rfl]
theorem name_f (l : List ByteArray) (hn : l.length ≤ 1000000) (hs : ∀ x ∈ l, x.size ≤ 1000000) (k : Nat) (hk : l.length < k) : ddiref01_name.f k l = some (B (nm (l.map L))) := by
  unfold ddiref01_name.f nm
  by_cases h : l = []
  · subst h; rw [if_pos (by simp)]; rfl
  · have : 0 < l.length := List.length_pos_iff.2 h
    rw [if_neg (by omega), if_neg (by simpa using h)]
    have := name_l0 l hn hs l.length 0 k ⟨#[]⟩ (by omega) (by omega) (by simp [ByteArray.size])
    rw [show (0 : Int) = ((0 : Nat) : Int) from rfl, this, List.drop_zero]
    have e : (⟨#[]⟩ : ByteArray) ++ B (txt (l.map L)) = B (txt (l.map L)) := L_inj (by rw [L_append]; rfl)
    rw [e]
theorem rvalid_f (a : ByteArray) (ha : a.size ≤ 140737488351232) (k : Nat) (hk : 1000 ≤ k) : ddiref01_Valid.f k a = some (validL (L a)) := by
  unfold ddiref01_Valid.f; rw [split_f a ha k hk]; rfl
theorem rjoin1 (h : ByteArray) (hs : h.size ≤ 140737488351232) (k : Nat) (hk : h.size + 3000 ≤ k) : ddiref01_Join.f k [h] = some (joinL [h]) := by
  obtain ⟨k, rfl⟩ : ∃ j, k = j + 2 := ⟨k - 2, by omega⟩
  have e0 : joinL [h] = if labL (L h) = true then (if validL (txt [L h]) = true then (B (txt [L h]), 0) else (⟨#[]⟩, 2)) else (⟨#[]⟩, 2) := by
    unfold joinL; rw [if_neg (by simp), if_neg (by simp)]; simp
  rw [e0]
  unfold ddiref01_Join.f
  rw [if_neg (by simp)]
  rw [show ddiref01_Join.l0 (k + 2) [h] 0 = (ddiref01_isLabel.f (k + 1) (rdOf ByteArray.empty [h] ((0 : Nat) : Int))).bind fun t128 => (if t128 = true then (ddiref01_Join.l0 (k + 1) [h] (wrap64 (0 + 1))) else (some ((⟨#[]⟩ : ByteArray), 2))) from by
    simp only [ddiref01_Join.l0]; rw [if_pos (by simp), if_pos (by omega)]; rfl]
  rw [rd_at [h] 0 (by simp), show [h][0]'(by simp) = h from rfl, islab_f _ hs (k + 1) (by show h.size + 3 ≤ k + 1; omega), Option.bind_some]
  show (if labL (L h) = true then _ else _) = _
  by_cases hl : labL (L h) = true
  · have h63 := lab_len' hl
    rw [L_len] at h63
    have hsz : (B (nm [L h])).size ≤ 140737488351232 := by rw [B_size, nm, if_neg (by simp), txt_cons, txt_nil, List.length_append, L_len]; simp; omega
    rw [if_pos hl, if_pos hl]
    rw [show wrap64 (0 + 1) = ((1 : Nat) : Int) from by rw [wrap_id (by omega) (by omega)]; rfl]
    simp only [ddiref01_Join.l0]
    rw [if_neg (by simp), name_f [h] (by simp) (fun x hx => by rw [List.mem_singleton] at hx; subst hx; omega) k (by simp; omega), Option.bind_some, show List.map L [h] = [L h] from rfl, rvalid_f _ hsz k (by omega), Option.bind_some, L_B]
    rw [show nm [L h] = txt [L h] from by rw [nm, if_neg (by simp)]]
    cases validL (txt [L h]) <;> rfl
  · rw [if_neg hl, if_neg hl]
def vis (b : UInt8) : Bool := decide (33 ≤ b.toNat ∧ b.toNat ≤ 126)
def cli (s : ByteArray) : Bool := decide (1 ≤ s.size ∧ s.size ≤ 32) && (L s).all vis
theorem wsucc' {i : Nat} (h : i < 9223372036854775806) : wrap64 ((i : Int) + 1) = ((i + 1 : Nat) : Int) := by rw [wrap_id (by omega) (by omega)]; rfl
theorem drop_at' {α : Type} {l : List α} {i : Nat} (h : i < l.length) : l.drop i = l[i] :: l.drop (i + 1) := by rw [List.drop_eq_getElem_cons h]
theorem stc_l (s : ByteArray) (hs : s.size ≤ 140737488351232) : ∀ (n k i : Nat), s.size - i ≤ n → n < k → i ≤ s.size → station_isClient.l0 k s (i : Int) = some (((L s).drop i).all vis && decide (1 ≤ s.size ∧ s.size ≤ 32)) := by
  have he : (if (s.size : Int) ≥ 1 then (some (decide ((s.size : Int) ≤ 32))) else (some false)) = some (decide (1 ≤ s.size ∧ s.size ≤ 32)) := by
    by_cases h1 : 1 ≤ s.size
    · rw [if_pos (by omega)]; congr 1; exact decide_eq_decide.mpr (by omega)
    · rw [if_neg (by omega), decide_eq_false (by omega)]
  intro n
  induction n with
  | zero =>
    intro k i hn hk hi
    obtain ⟨k, rfl⟩ : ∃ q, k = q + 1 := ⟨k - 1, by omega⟩
    rw [station_isClient.l0, if_neg (by omega), List.drop_eq_nil_of_le (by rw [L_len]; omega), he]; rfl
  | succ n ih =>
    intro k i hn hk hi
    obtain ⟨k, rfl⟩ : ∃ q, k = q + 1 := ⟨k - 1, by omega⟩
    by_cases hlt : i < s.size
    · have hL : i < (L s).length := by rw [L_len]; exact hlt
      rw [station_isClient.l0, if_pos (by omega), if_pos (by omega), bt_L s i hL, drop_at' hL, List.all_cons]
      by_cases h1 : (L s)[i].toNat < 33
      · rw [if_pos (by omega), show vis (L s)[i] = false from decide_eq_false (by omega)]; rfl
      · rw [if_neg (by omega)]
        by_cases h2 : 126 < (L s)[i].toNat
        · rw [if_pos (by omega), show vis (L s)[i] = false from decide_eq_false (by omega)]; rfl
        · rw [if_neg (by omega), show vis (L s)[i] = true from decide_eq_true (by omega), Bool.true_and, wsucc' (by omega)]
          exact ih k (i + 1) (by omega) (by omega) (by omega)
    · rw [station_isClient.l0, if_neg (by omega), List.drop_eq_nil_of_le (by rw [L_len]; omega), he]; rfl
theorem stclient_f (s : ByteArray) (hs : s.size ≤ 140737488351232) (k : Nat) (hk : s.size < k) : station_isClient.f k s = some (cli s) := by
  unfold station_isClient.f cli
  rw [show station_isClient.l0 k s 0 = _ from stc_l s hs s.size k 0 (by omega) hk (by omega), List.drop_zero, Bool.and_comm]
theorem r38_l (s : ByteArray) (hs : s.size ≤ 32) : ∀ (n k i : Nat), s.size - i ≤ n → n < k → i ≤ s.size → ddiref38_Client.l0 k s (i : Int) = some (((L s).drop i).all vis) := by
  intro n
  induction n with
  | zero =>
    intro k i hn hk hi
    obtain ⟨k, rfl⟩ : ∃ q, k = q + 1 := ⟨k - 1, by omega⟩
    rw [ddiref38_Client.l0, if_neg (by omega), List.drop_eq_nil_of_le (by rw [L_len]; omega)]; rfl
  | succ n ih =>
    intro k i hn hk hi
    obtain ⟨k, rfl⟩ : ∃ q, k = q + 1 := ⟨k - 1, by omega⟩
    by_cases hlt : i < s.size
    · have hL : i < (L s).length := by rw [L_len]; exact hlt
      rw [ddiref38_Client.l0, if_pos (by omega), if_pos (by omega), bt_L s i hL, drop_at' hL, List.all_cons]
      by_cases h1 : (L s)[i].toNat < 33
      · rw [if_pos (by omega), show vis (L s)[i] = false from decide_eq_false (by omega)]; rfl
      · rw [if_neg (by omega)]
        by_cases h2 : 126 < (L s)[i].toNat
        · rw [if_pos (by omega), show vis (L s)[i] = false from decide_eq_false (by omega)]; rfl
        · rw [if_neg (by omega), show vis (L s)[i] = true from decide_eq_true (by omega), Bool.true_and, wsucc' (by omega)]
          exact ih k (i + 1) (by omega) (by omega) (by omega)
    · rw [ddiref38_Client.l0, if_neg (by omega), List.drop_eq_nil_of_le (by rw [L_len]; omega)]; rfl
theorem r38client_f (s : ByteArray) (k : Nat) (hk : 100 < k) : ddiref38_Client.f k s = some (cli s) := by
  obtain ⟨k, rfl⟩ : ∃ q, k = q + 1 := ⟨k - 1, by omega⟩
  unfold ddiref38_Client.f cli
  by_cases h0 : s.size = 0
  · rw [if_pos (by omega), ddiref38_Client.j0, if_pos rfl, decide_eq_false (by omega)]; rfl
  · rw [if_neg (by omega), ddiref38_Client.j0]
    by_cases h : s.size ≤ 32
    · rw [decide_eq_false (show ¬ ((s.size : Int) > 32) by omega), if_neg (by decide), decide_eq_true (by omega), Bool.true_and]
      exact r38_l s h s.size k 0 (by omega) (by omega) (by omega)
    · rw [decide_eq_true (show (s.size : Int) > 32 by omega), if_pos rfl, decide_eq_false (by omega)]; rfl
def hostOk (h : ByteArray) : Bool := (h.toList == ([] : List UInt8)) || (decide ((joinL [h]).2 = 0) && !(h.toList == ([42] : List UInt8)))
abbrev NewT := ByteArray × ByteArray × Int × Int × Int × Bool × Int × Int × Int × Int × Int × Int × Int × Int
def newL (c h : ByteArray) : NewT :=
  if cli c = true then (if hostOk h = true then (c, h, 0, 0, 0, false, 0, 0, 0, 0, 0, 0, 0, 0) else ((⟨#[]⟩ : ByteArray), (⟨#[]⟩ : ByteArray), 0, 0, 0, false, 0, 0, 0, 0, 0, 0, 0, 2))
  else ((⟨#[]⟩ : ByteArray), (⟨#[]⟩ : ByteArray), 0, 0, 0, false, 0, 0, 0, 0, 0, 0, 0, 1)
theorem new_f (c h : ByteArray) (hc : c.size ≤ 140737488351232) (hh : h.size ≤ 140737488351232) (k : Nat) (hk : c.size < k) : station_New.f k c h = some (newL c h) := by
  unfold station_New.f newL
  rw [stclient_f c hc k hk, Option.bind_some]
  by_cases h1 : cli c = true
  · rw [if_pos h1, if_pos h1, show dname_Join.f [h] = some (joinL [h]) from by unfold dname_Join.f; rw [if_pos (by simpa using hh)], Option.bind_some]
    unfold hostOk
    by_cases h2 : h.toList = []
    · rw [if_pos h2, h2]; rfl
    · rw [if_neg h2, show (h.toList == ([] : List UInt8)) = false from beq_eq_false_iff_ne.mpr h2, Bool.false_or]
      by_cases h3 : (joinL [h]).2 = 0
      · rw [if_pos h3, decide_eq_true h3, Bool.true_and]
        by_cases h4 : h.toList = ([42] : List UInt8)
        · rw [if_pos h4, h4]; rfl
        · rw [if_neg h4, show (h.toList == ([42] : List UInt8)) = false from beq_eq_false_iff_ne.mpr h4]; rfl
      · rw [if_neg h3, decide_eq_false h3]; rfl
  · rw [if_neg h1, if_neg h1]
theorem rnew_f (c h : ByteArray) (hh : h.size ≤ 140737488351232) (k : Nat) (hk : h.size + 3000 ≤ k) : ddiref42_New.f k c h = some (newL c h) := by
  unfold ddiref42_New.f newL
  rw [r38client_f c k (by omega), Option.bind_some]
  by_cases h1 : cli c = true
  · rw [if_pos h1, if_pos h1]
    unfold hostOk ddiref42_label.f
    by_cases h2 : h.toList = []
    · rw [if_pos h2, h2]; rfl
    · rw [if_neg h2, show (h.toList == ([] : List UInt8)) = false from beq_eq_false_iff_ne.mpr h2, Bool.false_or, rjoin1 h hh k hk, Option.bind_some]
      by_cases h3 : (joinL [h]).2 = 0
      · rw [if_pos h3, decide_eq_true h3, Bool.true_and, Option.bind_some]
        by_cases h4 : h.toList = ([42] : List UInt8)
        · rw [h4]; rfl
        · rw [show (h.toList != ([42] : List UInt8)) = true from bne_iff_ne.mpr h4, show (h.toList == ([42] : List UInt8)) = false from beq_eq_false_iff_ne.mpr h4]; rfl
      · rw [if_neg h3, decide_eq_false h3, Option.bind_some]; rfl
  · rw [if_neg h1, if_neg h1]
end Go.Proofs.YtlabnocmmeciaaaGreatDoor.Pa
namespace Go.Proofs.YtlabnocmmeciaaaGreatDoor.PLN
open Go RowKit YtlabnocmmeciaaaGreatDoorW.PrintWords YtlabnocmmeciaaaGreatDoorW.PrintLast YtlabnocmmeciaaaGreatDoorW.PrintMore DN OPT Pa BQ
def o1 (x : S62) : O := (x.f0, L x.f1)
def ab (l : List S62) : List O := l.map o1
theorem ab_nil : ab [] = [] := rfl
theorem ab_cons (x : S62) (l : List S62) : ab (x :: l) = o1 x :: ab l := rfl
theorem ab_append (l m : List S62) : ab (l ++ m) = ab l ++ ab m := List.map_append
theorem ab_length (l : List S62) : (ab l).length = l.length := List.length_map ..
theorem rd_at {l : List S62} {i : Nat} (h : i < l.length) : rd_T62 l (i : Int) = l[i] := by unfold rd_T62; simp [h]
theorem wsucc {i : Nat} (h : i < 9223372036854775806) : wrap64 ((i : Int) + 1) = ((i + 1 : Nat) : Int) := by rw [wrap_id (by omega) (by omega)]; rfl
theorem drop_at {α : Type} {l : List α} {i : Nat} (h : i < l.length) : l.drop i = l[i] :: l.drop (i + 1) := by rw [List.drop_eq_getElem_cons h]
def fndA (m : List O) (c : Int) : ByteArray × Bool := match fnd m c with
  | some v => (B v, true)
  | none => (⟨#[]⟩, false)
theorem find_l (l : List S62) (c : Int) (hl : l.length ≤ 5864062014800) : ∀ (n k i : Nat), l.length - i ≤ n → n < k → i ≤ l.length → option_Find.l0 k c l (l.length : Int) (i : Int) = some (fndA (ab (l.drop i)) c) := by
  intro n
  induction n with
  | zero =>
    intro k i hn hk hi
    obtain ⟨k, rfl⟩ : ∃ q, k = q + 1 := ⟨k - 1, by omega⟩
    obtain rfl : i = l.length := by omega
    rw [option_Find.l0, if_neg (by omega), List.drop_length]; rfl
  | succ n ih =>
    intro k i hn hk hi
    obtain ⟨k, rfl⟩ : ∃ q, k = q + 1 := ⟨k - 1, by omega⟩
    by_cases hlt : i < l.length
    · rw [option_Find.l0, if_pos (by omega), if_pos (by omega), if_pos (by omega), rd_at hlt, drop_at hlt, ab_cons]
      by_cases hc : l[i].f0 = c
      · rw [if_pos hc]; simp [fndA, fnd, o1, hc]
      · rw [if_neg hc, wsucc (by omega), ih k (i + 1) (by omega) (by omega) (by omega)]
        have : fnd (o1 l[i] :: ab (l.drop (i + 1))) c = fnd (ab (l.drop (i + 1))) c := by rw [fnd, if_neg (show ¬ (o1 l[i]).1 = c from hc)]
        unfold fndA; rw [this]
    · obtain rfl : i = l.length := by omega
      rw [option_Find.l0, if_neg (by omega), List.drop_length]; rfl
theorem find_f (l : List S62) (c : Int) (hl : l.length ≤ 5864062014800) (k : Nat) (hk : l.length < k) : option_Find.f k l c = some (fndA (ab l) c) := by
  have := find_l l c hl l.length k 0 (by omega) hk (by omega)
  simpa [option_Find.f] using this
theorem sz_le {M : Nat} : ∀ {l : List S62}, (∀ x ∈ l, x.f1.size ≤ M) → sz (ab l) ≤ l.length * M
  | [], _ => by simp [ab, sz]
  | x :: l, h => by
    have h1 := h x (by simp)
    have h2 := sz_le (l := l) (fun y hy => h y (by simp [hy]))
    rw [ab_cons, sz]
    have : (o1 x).2.length = x.f1.size := L_len _
    rw [this, List.length_cons, Nat.add_mul]; omega
def chk : List O → List O → Bool
  | _, [] => true
  | pre, o :: r => !(decide (o.1 ∈ pre.map (·.1))) && (decide (1 ≤ o.1 ∧ o.1 ≤ 254) && (decide (o.2.length ≤ 1024) && chk (pre ++ [o]) r))
theorem chk_iff : ∀ (l pre : List O), chk pre l = true ↔ ((∀ o ∈ l, 1 ≤ o.1 ∧ o.1 ≤ 254) ∧ (∀ o ∈ l, o.2.length ≤ 1024) ∧ (l.map (·.1)).Nodup ∧ ∀ o ∈ l, o.1 ∉ pre.map (·.1))
  | [], pre => by simp [chk]
  | o :: l, pre => by
    rw [chk, Bool.and_eq_true, Bool.and_eq_true, Bool.and_eq_true, chk_iff l (pre ++ [o])]
    simp only [Bool.not_eq_true', decide_eq_false_iff_not, decide_eq_true_iff, List.mem_cons, forall_eq_or_imp, List.map_cons, List.nodup_cons, List.map_append, List.map_nil, List.mem_append, List.mem_singleton, not_or]
    constructor
    · rintro ⟨h1, h2, h3, h4, h5, h6, h7⟩
      refine ⟨⟨h2, h4⟩, ⟨h3, h5⟩, ⟨fun hm => ?_, h6⟩, h1, fun x hx => (h7 x hx).1⟩
      obtain ⟨y, hy, e⟩ := List.mem_map.1 hm
      exact (h7 y hy).2.1 (by simpa using e)
    · rintro ⟨⟨h2, h4⟩, ⟨h3, h5⟩, ⟨h8, h6⟩, h1, h7⟩
      exact ⟨h1, h2, h3, h4, h5, h6, fun x hx => ⟨h7 x hx, fun e => h8 (e ▸ List.mem_map_of_mem hx), by simp⟩⟩
theorem vld_iff (l : List O) : vld l ↔ l.length ≤ 32 ∧ sz l ≤ 4096 ∧ chk [] l = true := by
  rw [chk_iff]
  constructor
  · rintro ⟨⟨a, b, c⟩, d, e⟩; exact ⟨a, b, e, c, d, by simp⟩
  · rintro ⟨a, b, e, c, d, _⟩; exact ⟨⟨a, b, c⟩, d, e⟩
theorem w2 {a b : Nat} (h : a + b < 9223372036854775807) : wrap64 ((a : Int) + (b : Int)) = ((a + b : Nat) : Int) := by rw [wrap_id (by omega) (by omega)]; rfl
theorem rd_split (a : List S62) (x : S62) (b : List S62) : rd_T62 (a ++ x :: b) (a.length : Int) = x := by rw [rd_at (by simp)]; simp
def idxS : List S62 → Int → Nat → Int
  | [], _, _ => -1
  | x :: l, c, i => if x.f0 = c then (i : Int) else idxS l c (i + 1)
theorem idx_cases : ∀ (l : List S62) (c : Int) (i : Nat), ((∀ x ∈ l, x.f0 ≠ c) ∧ idxS l c i = -1) ∨ ∃ a x b, l = a ++ x :: b ∧ x.f0 = c ∧ (∀ y ∈ a, y.f0 ≠ c) ∧ idxS l c i = ((i + a.length : Nat) : Int)
  | [], c, i => .inl ⟨by simp, rfl⟩
  | x :: l, c, i => by
    by_cases h : x.f0 = c
    · exact .inr ⟨[], x, l, rfl, h, by simp, by rw [idxS, if_pos h]; rfl⟩
    · rcases idx_cases l c (i + 1) with ⟨h1, h2⟩ | ⟨a, y, b, h1, h2, h3, h4⟩
      · exact .inl ⟨by intro z hz; rcases List.mem_cons.1 hz with rfl | hz; exact h; exact h1 z hz, by rw [idxS, if_neg h, h2]⟩
      · refine .inr ⟨x :: a, y, b, by rw [h1]; rfl, h2, by intro z hz; rcases List.mem_cons.1 hz with rfl | hz; exact h; exact h3 z hz, ?_⟩
        rw [idxS, if_neg h, h4, List.length_cons]; congr 1; omega
theorem index_l (l : List S62) (c : Int) (hl : l.length ≤ 5864062014805) : ∀ (n k i : Nat), l.length - i ≤ n → n < k → i ≤ l.length → ddiref35_index.l0 k l c (i : Int) = some (idxS (l.drop i) c i) := by
  intro n
  induction n with
  | zero =>
    intro k i hn hk hi
    obtain ⟨k, rfl⟩ : ∃ q, k = q + 1 := ⟨k - 1, by omega⟩
    obtain rfl : i = l.length := by omega
    rw [ddiref35_index.l0, if_neg (by omega), List.drop_length]; rfl
  | succ n ih =>
    intro k i hn hk hi
    obtain ⟨k, rfl⟩ : ∃ q, k = q + 1 := ⟨k - 1, by omega⟩
    by_cases hlt : i < l.length
    · rw [ddiref35_index.l0, if_pos (by omega), if_pos (by omega), rd_at hlt, drop_at hlt, idxS]
      by_cases hc : l[i].f0 = c
      · rw [if_pos hc, if_pos hc]
      · rw [if_neg hc, if_neg hc, wsucc (by omega), ih k (i + 1) (by omega) (by omega) (by omega)]
    · obtain rfl : i = l.length := by omega
      rw [ddiref35_index.l0, if_neg (by omega), List.drop_length]; rfl
theorem index_f (l : List S62) (c : Int) (hl : l.length ≤ 5864062014805) (k : Nat) (hk : l.length < k) : ddiref35_index.f k l c = some (idxS l c 0) := by
  have := index_l l c hl l.length k 0 (by omega) hk (by omega)
  simpa [ddiref35_index.f] using this
theorem idx_first {l : List S62} {i : Nat} (hlt : i < l.length) : idxS l l[i].f0 0 = (i : Int) ↔ l[i].f0 ∉ (ab (l.take i)).map (·.1) := by
  have hmem : ∀ m : List S62, l[i].f0 ∈ (ab m).map (·.1) ↔ ∃ y ∈ m, y.f0 = l[i].f0 := by
    intro m; simp [ab, o1]
  rw [hmem]
  rcases idx_cases l l[i].f0 0 with ⟨h1, h2⟩ | ⟨a, x, b, h1, h2, h3, h4⟩
  · exact absurd rfl (h1 l[i] (List.getElem_mem hlt))
  · rw [h4, Nat.zero_add]
    constructor
    · rintro h ⟨y, hy, e⟩
      have : a.length = i := by omega
      have ht : l.take i = a := by subst this; conv => lhs; rw [h1]
                                   simp
      rw [ht] at hy
      exact h3 y hy e
    · intro h
      rcases Nat.lt_trichotomy a.length i with h5 | h5 | h5
      · refine absurd ⟨x, ?_, h2⟩ h
        rw [h1]
        rw [List.take_append, List.mem_append]
        right
        obtain ⟨d, hd⟩ : ∃ d, i - a.length = d + 1 := ⟨i - a.length - 1, by omega⟩
        rw [hd, List.take_succ_cons]; simp
      · omega
      · exfalso
        have : l[i] ∈ a := by
          have e : l[i] = a[i] := by
            have : l[i]? = a[i]? := by rw [h1, List.getElem?_append_left h5]
            rw [List.getElem?_eq_getElem hlt, List.getElem?_eq_getElem h5] at this
            exact Option.some.inj this
          rw [e]; exact List.getElem_mem h5
        exact h3 _ this rfl
theorem rvalid_l (l : List S62) (hl : l.length ≤ 32) (hz : ∀ x ∈ l, x.f1.size ≤ 140737488351232) : ∀ (n k i a : Nat), l.length - i ≤ n → n + 40 < k → i ≤ l.length → a + sz (ab (l.drop i)) < 9223372036854775807 →
    ddiref35_Valid.l0 k l (a : Int) (i : Int) = some (chk (ab (l.take i)) (ab (l.drop i)) && decide (a + sz (ab (l.drop i)) ≤ 4096)) := by
  intro n
  induction n with
  | zero =>
    intro k i a hn hk hi hs
    obtain ⟨k, rfl⟩ : ∃ q, k = q + 1 := ⟨k - 1, by omega⟩
    obtain rfl : i = l.length := by omega
    rw [ddiref35_Valid.l0, if_neg (by omega), List.drop_length]
    simp only [ab_nil, chk, sz, Bool.true_and, Nat.add_zero]; congr 1; rw [Bool.eq_iff_iff, decide_eq_true_iff, decide_eq_true_iff]; omega
  | succ n ih =>
    intro k i a hn hk hi hs
    obtain ⟨k, rfl⟩ : ∃ q, k = q + 1 := ⟨k - 1, by omega⟩
    by_cases hlt : i < l.length
    · rw [drop_at hlt, ab_cons, sz] at hs
      have hz1 : (o1 l[i]).2.length = l[i].f1.size := L_len _
      have hc1 : (o1 l[i]).1 = l[i].f0 := rfl
      rw [hz1] at hs
      rw [ddiref35_Valid.l0, if_pos (by omega), if_pos (by omega), rd_at hlt, drop_at hlt, ab_cons]
      have h3 : chk (ab (l.take i)) (o1 l[i] :: ab (l.drop (i + 1))) = (!(decide ((o1 l[i]).1 ∈ (ab (l.take i)).map (·.1))) && (decide (1 ≤ (o1 l[i]).1 ∧ (o1 l[i]).1 ≤ 254) && (decide ((o1 l[i]).2.length ≤ 1024) && chk (ab (l.take (i + 1))) (ab (l.drop (i + 1)))))) := by
        rw [chk, List.take_succ_eq_append_getElem hlt, ab_append]; rfl
      rw [h3, sz, hz1, hc1]
      by_cases h1 : l[i].f0 < 1
      · rw [if_pos h1, decide_eq_false (show ¬ (1 ≤ l[i].f0 ∧ l[i].f0 ≤ 254) by omega)]; simp
      by_cases h2 : l[i].f0 > 254
      · rw [if_neg h1, if_pos h2, decide_eq_false (show ¬ (1 ≤ l[i].f0 ∧ l[i].f0 ≤ 254) by omega)]; simp
      by_cases h4 : (l[i].f1.size : Int) > 1024
      · rw [if_neg h1, if_neg h2, if_pos h4, decide_eq_false (show ¬ (l[i].f1.size ≤ 1024) by omega)]; simp
      rw [if_neg h1, if_neg h2, if_neg h4, index_f l _ (by omega) k (by omega), Option.bind_some, decide_eq_true (show 1 ≤ l[i].f0 ∧ l[i].f0 ≤ 254 by omega), decide_eq_true (show l[i].f1.size ≤ 1024 by omega)]
      by_cases h5 : l[i].f0 ∈ (ab (l.take i)).map (·.1)
      · rw [if_neg (by rw [idx_first hlt]; exact fun h => h h5), decide_eq_true h5]; simp
      · rw [if_pos ((idx_first hlt).2 h5), decide_eq_false h5, w2 (by have := hz _ (List.getElem_mem hlt); omega), wsucc (by omega), ih k (i + 1) (a + l[i].f1.size) (by omega) (by omega) (by omega) (by omega)]
        simp only [Bool.not_false, Bool.true_and, Nat.add_assoc]
    · obtain rfl : i = l.length := by omega
      rw [ddiref35_Valid.l0, if_neg (by omega), List.drop_length]
      simp only [ab_nil, chk, sz, Bool.true_and, Nat.add_zero]; congr 1; rw [Bool.eq_iff_iff, decide_eq_true_iff, decide_eq_true_iff]; omega
theorem rvalid_f (l : List S62) (h : ∀ x ∈ l, x.f1.size ≤ 140737488351232) (k : Nat) (hk : 100 < k) : ddiref35_Valid.f k l = some (decide (vld (ab l))) := by
  unfold ddiref35_Valid.f
  by_cases h1 : (l.length : Int) > 32
  · rw [if_pos h1, decide_eq_false (by rw [vld_iff, ab_length]; omega)]
  · rw [if_neg h1]
    have h2 := sz_le h
    have := rvalid_l l (by omega) h l.length k 0 0 (by omega) (by omega) (by omega) (by rw [List.drop_zero]; omega)
    rw [List.take_zero, List.drop_zero, Nat.zero_add] at this
    refine Eq.trans this ?_
    congr 1
    rw [Bool.eq_iff_iff, Bool.and_eq_true, decide_eq_true_iff, decide_eq_true_iff, vld_iff, ab_length]
    exact ⟨fun h => ⟨by omega, h.2, h.1⟩, fun h => ⟨h.2.2, h.2.1⟩⟩
theorem fnd_new {l : List S62} {c : Int} (h1 : ∀ y ∈ l, y.f0 ≠ c) : fndA (ab l) c = (⟨#[]⟩, false) := by
  have : fnd (ab l) c = none := by
    induction l with
    | nil => rfl
    | cons y a ih => rw [ab_cons, fnd, if_neg (show ¬ (o1 y).1 = c from h1 y (by simp)), ih (fun z hz => h1 z (by simp [hz]))]
  unfold fndA; rw [this]
theorem fnd_split {a : List S62} {x : S62} {b : List S62} {c : Int} (h1 : ∀ y ∈ a, y.f0 ≠ c) (h2 : x.f0 = c) : fndA (ab (a ++ x :: b)) c = (x.f1, true) := by
  have : fnd (ab (a ++ x :: b)) c = some (L x.f1) := by
    induction a with
    | nil => rw [List.nil_append, ab_cons, fnd, if_pos (show (o1 x).1 = c from h2)]; rfl
    | cons y a ih => rw [List.cons_append, ab_cons, fnd, if_neg (show ¬ (o1 y).1 = c from h1 y (by simp)), ih (fun z hz => h1 z (by simp [hz]))]
  unfold fndA; rw [this]; simp
theorem rfind_f (l : List S62) (c : Int) (hl : l.length ≤ 5864062014800) (k : Nat) (hk : l.length < k) : ddiref35_Find.f k l c = some (fndA (ab l) c) := by
  unfold ddiref35_Find.f
  rw [index_f l c (by omega) k hk, Option.bind_some]
  rcases idx_cases l c 0 with ⟨h1, h2⟩ | ⟨a, x, b, h1, h2, h3, h4⟩
  · rw [h2, if_pos (by decide), fnd_new h1]
  · rw [h4, if_neg (by omega), if_pos (by omega), Nat.zero_add]
    subst h1
    rw [if_pos (by simp; omega), rd_split, fnd_split h3 h2]
theorem up {α : Type} {f : Nat → Option α} (h : ∀ k, LeO (f k) (f (k + 1))) {K k : Nat} {r : α} (hk : K ≤ k) (hr : f K = some r) : f k = some r := by
  obtain ⟨d, rfl⟩ := Nat.exists_eq_add_of_le hk
  clear hk
  induction d with
  | zero => exact hr
  | succ d ih => exact h _ _ ih
theorem or_add (n b : Nat) (hb : b < 256) : (n * 256) ||| b = n * 256 + b := by
  have := Nat.two_pow_add_eq_or_of_lt (i := 8) hb n
  rw [show 2 ^ 8 * n = n * 256 by omega] at this
  exact this.symm
theorem or_i64 (n b : Nat) (hb : b < 256) (hn : n * 256 + b < 9223372036854775808) : bits .or .i64 ((n * 256 : Nat) : Int) ((b : Nat) : Int) = ((n * 256 + b : Nat) : Int) := by
  have h1 : (BitVec.ofInt 64 ((n * 256 : Nat) : Int)).toNat = n * 256 := by
    rw [BitVec.ofInt_natCast, BitVec.toNat_ofNat]; exact Nat.mod_eq_of_lt (by omega)
  have h2 : (BitVec.ofInt 64 (b : Int)).toNat = b := by
    rw [BitVec.ofInt_natCast, BitVec.toNat_ofNat]; exact Nat.mod_eq_of_lt (by omega)
  show IntKind.i64.wrap ((BitVec.ofInt 64 ((n * 256 : Nat) : Int) ||| BitVec.ofInt 64 (b : Int)).toNat : Int) = _
  rw [BitVec.toNat_or, h1, h2, or_add n b hb, i64_w, wrap_id (by omega) (by omega)]
theorem wu {x : Int} (h0 : 0 ≤ x) (h1 : x < 18446744073709551616) : IntKind.u64.wrap x = x := by rw [IntKind.wrap_u64]; omega
def word (n : Int) : List UInt8 := [UInt8.ofNat (n / 16777216 % 256).toNat, UInt8.ofNat (n / 65536 % 256).toNat, UInt8.ofNat (n / 256 % 256).toNat, UInt8.ofNat (n % 256).toNat]
theorem L_nums (l : List Int) : L (strOfNums l) = l.map fun n => UInt8.ofNat n.toNat := rfl
theorem nums_size (l : List Int) : (strOfNums l).size = l.length := by rw [← L_len, L_nums, List.length_map]
theorem rdA {l : List S26} {i : Nat} (h : i < l.length) : rd_T26 l (i : Int) = l[i] := by unfold rd_T26; simp [h]
theorem wsc {i : Nat} (h : i < 9223372036854775806) : wrap64 ((i : Int) + 1) = ((i + 1 : Nat) : Int) := by rw [wrap_id (by omega) (by omega)]; rfl
theorem dropA {α : Type} {l : List α} {i : Nat} (h : i < l.length) : l.drop i = l[i] :: l.drop (i + 1) := by rw [List.drop_eq_getElem_cons h]
theorem bytes8 (n : Int) (k : Nat) (hk : 20 ≤ k) : addr_bytes.f k n = some [n / 72057594037927936 % 256, n / 281474976710656 % 256, n / 1099511627776 % 256, n / 4294967296 % 256, n / 16777216 % 256, n / 65536 % 256, n / 256 % 256, n / 1 % 256] := by
  refine up (fun k => addr_bytes.mono _ k) hk ?_
  kernel_rfl
def dv (n : Int) : Nat → Int
  | 0 => n
  | i + 1 => IntKind.u64.wrap (Int.tdiv (dv n i) 256)
theorem octets4 (n : Int) (k : Nat) (hk : 100 ≤ k) : ddiref02_octets.f k n 4 = some (strOfNums [Int.tmod (dv n 3) 256 % 256, Int.tmod (dv n 2) 256 % 256, Int.tmod (dv n 1) 256 % 256, Int.tmod (dv n 0) 256 % 256]) := by
  refine up (fun k => ddiref02_octets.mono _ _ k) hk ?_
  kernel_rfl
theorem octets8 (n : Int) (k : Nat) (hk : 100 ≤ k) : ddiref02_octets.f k n 8 = some (strOfNums [Int.tmod (dv n 7) 256 % 256, Int.tmod (dv n 6) 256 % 256, Int.tmod (dv n 5) 256 % 256, Int.tmod (dv n 4) 256 % 256, Int.tmod (dv n 3) 256 % 256, Int.tmod (dv n 2) 256 % 256, Int.tmod (dv n 1) 256 % 256, Int.tmod (dv n 0) 256 % 256]) := by
  refine up (fun k => ddiref02_octets.mono _ _ k) hk ?_
  kernel_rfl
theorem dv_nn {n : Int} (h0 : 0 ≤ n) (h1 : n < 18446744073709551616) : ∀ i, 0 ≤ dv n i ∧ dv n i ≤ n ∧ dv n (i + 1) = dv n i / 256
  | 0 => ⟨h0, Int.le_refl _, by show IntKind.u64.wrap (Int.tdiv n 256) = _; rw [Int.tdiv_eq_ediv_of_nonneg h0, wu (by omega) (by omega)]; rfl⟩
  | i + 1 => by
    obtain ⟨a, b, c⟩ := dv_nn h0 h1 i
    have d0 : 0 ≤ dv n (i + 1) := by rw [c]; omega
    have d1 : dv n (i + 1) ≤ n := by rw [c]; omega
    refine ⟨d0, d1, ?_⟩
    show IntKind.u64.wrap (Int.tdiv (dv n (i + 1)) 256) = _
    rw [Int.tdiv_eq_ediv_of_nonneg d0, wu (by omega) (by omega)]
theorem octets_word {n : Int} (h0 : 0 ≤ n) (h1 : n < 18446744073709551616) (k : Nat) (hk : 100 ≤ k) : ddiref02_octets.f k n 4 = some (B (word n)) := by
  rw [octets4 n k hk]
  refine congrArg some (L_inj ?_)
  have a0 := dv_nn h0 h1 0
  have a1 := dv_nn h0 h1 1
  have a2 := dv_nn h0 h1 2
  have a3 := dv_nn h0 h1 3
  have e0 : dv n 0 = n := rfl
  have e1 : dv n 1 = n / 256 := by rw [a0.2.2, e0]
  have e2 : dv n 2 = n / 256 / 256 := by rw [a1.2.2, e1]
  have e3 : dv n 3 = n / 256 / 256 / 256 := by rw [a2.2.2, e2]
  rw [L_nums, L_B]
  simp only [List.map_cons, List.map_nil, word]
  rw [Int.tmod_eq_emod_of_nonneg a3.1, Int.tmod_eq_emod_of_nonneg a2.1, Int.tmod_eq_emod_of_nonneg a1.1, Int.tmod_eq_emod_of_nonneg a0.1, e0, e1, e2, e3]
  rw [show n / 256 / 256 / 256 % 256 % 256 = n / 16777216 % 256 by omega, show n / 256 / 256 % 256 % 256 = n / 65536 % 256 by omega, show n / 256 % 256 % 256 = n / 256 % 256 by omega, show n % 256 % 256 = n % 256 by omega]
def okA (x : S26) : Prop := x.f0 = false ∧ x.f1 = 0 ∧ x.f2 ≤ 4294967295
instance (x : S26) : Decidable (okA x) := inferInstanceAs (Decidable (_ ∧ _ ∧ _))
theorem wire_ok {x : S26} (h : okA x) (k : Nat) (hk : 100 ≤ k) : addr_Wire.f k x.f0 x.f1 x.f2 = some (B (word x.f2), 0) := by
  unfold addr_Wire.f addr_Valid.f
  obtain ⟨h1, h2, h3⟩ := h
  rw [h1, h2, if_neg (by decide), if_pos rfl, Option.bind_some, if_pos (decide_eq_true h3), if_neg (by decide), bytes8 _ k (by omega), Option.bind_some, if_pos (by simp)]
  refine congrArg (fun z => some (z, (0 : Int))) (L_inj ?_)
  rw [L_nums, L_B]
  simp [word]
theorem wire_no {x : S26} (h : ¬ okA x) (hf : x.f0 = false) (k : Nat) (hk : 100 ≤ k) : addr_Wire.f k x.f0 x.f1 x.f2 = some (⟨#[]⟩, 3) := by
  unfold addr_Wire.f addr_Valid.f
  rw [hf, if_neg (by decide)]
  by_cases h1 : x.f1 = 0
  · rw [if_pos h1, Option.bind_some, if_neg (by intro h2; exact h ⟨hf, h1, of_decide_eq_true h2⟩)]
  · rw [if_neg h1, Option.bind_some, if_neg (by decide)]
theorem wire_six {x : S26} (hf : x.f0 = true) (k : Nat) (hk : 100 ≤ k) : ∃ b, addr_Wire.f k x.f0 x.f1 x.f2 = some (b, 0) := by
  unfold addr_Wire.f addr_Valid.f
  rw [hf, if_pos rfl, Option.bind_some, if_pos rfl, if_pos rfl, bytes8 _ k (by omega), Option.bind_some, bytes8 _ k (by omega), Option.bind_some, if_pos (by rw [nums_size, nums_size]; simp only [List.length_cons, List.length_nil]; omega)]
  exact ⟨_, rfl⟩
theorem rwire_ok {x : S26} (h : okA x) (h0 : 0 ≤ x.f2) (k : Nat) (hk : 100 ≤ k) : ddiref02_Wire.f k x.f0 x.f1 x.f2 = some (B (word x.f2), 0) := by
  unfold ddiref02_Wire.f ddiref02_Valid.f
  obtain ⟨h1, h2, h3⟩ := h
  rw [h1, h2, if_neg (by decide), if_pos rfl, Option.bind_some, if_pos (decide_eq_true (by omega)), if_neg (by decide), octets_word h0 (by omega) k hk, Option.bind_some]
theorem rwire_no {x : S26} (h : ¬ okA x) (hf : x.f0 = false) (k : Nat) (hk : 100 ≤ k) : ddiref02_Wire.f k x.f0 x.f1 x.f2 = some (⟨#[]⟩, 3) := by
  unfold ddiref02_Wire.f ddiref02_Valid.f
  rw [hf, if_neg (by decide)]
  by_cases h1 : x.f1 = 0
  · rw [if_pos h1, Option.bind_some, if_neg (by intro h2; exact h ⟨hf, h1, by have := of_decide_eq_true h2; omega⟩)]
  · rw [if_neg h1, Option.bind_some, if_neg (by decide)]
theorem rwire_six {x : S26} (hf : x.f0 = true) (k : Nat) (hk : 100 ≤ k) : ∃ b, ddiref02_Wire.f k x.f0 x.f1 x.f2 = some (b, 0) := by
  unfold ddiref02_Wire.f ddiref02_Valid.f
  rw [hf, if_pos rfl, Option.bind_some, if_pos rfl, if_pos rfl, octets8 _ k (by omega), Option.bind_some, octets8 _ k (by omega), Option.bind_some, if_pos (by rw [nums_size, nums_size]; simp only [List.length_cons, List.length_nil]; omega)]
  exact ⟨_, rfl⟩
def vals (l : List S26) : List UInt8 := l.flatMap fun x => word x.f2
theorem vals_length (l : List S26) : (vals l).length = 4 * l.length := by
  induction l with
  | nil => rfl
  | cons x l ih => simp only [vals, List.flatMap_cons, List.length_append, List.length_cons] at ih ⊢; rw [ih]; simp [word]; omega
def valA (l : List S26) : ByteArray × Bool := if 1 ≤ l.length ∧ l.length ≤ 60 ∧ ∀ x ∈ l, okA x then (B (vals l), true) else (⟨#[]⟩, false)
theorem val_l (l : List S26) (hl : l.length ≤ 60) : ∀ (n k i : Nat) (out : ByteArray), l.length - i ≤ n → n + 101 < k → i ≤ l.length → out.size ≤ 4 * i →
    option_Value.l0 k out l (l.length : Int) (i : Int) = some (if ∀ x ∈ l.drop i, okA x then (out ++ B (vals (l.drop i)), true) else (⟨#[]⟩, false)) := by
  intro n
  have hend : ∀ (k : Nat) (out : ByteArray), 0 < k → option_Value.l0 k out l (l.length : Int) (l.length : Int) = some (if ∀ x ∈ l.drop l.length, okA x then (out ++ B (vals (l.drop l.length)), true) else (⟨#[]⟩, false)) := by
    intro k out hk
    obtain ⟨k, rfl⟩ : ∃ q, k = q + 1 := ⟨k - 1, by omega⟩
    rw [option_Value.l0, if_neg (by omega), List.drop_length, if_pos (by simp)]
    refine congrArg (fun z => some (z, true)) (L_inj ?_)
    rw [L_append, L_B]; simp [vals]
  induction n with
  | zero =>
    intro k i out hn hk hi ho
    obtain rfl : i = l.length := by omega
    exact hend k out (by omega)
  | succ n ih =>
    intro k i out hn hk hi ho
    by_cases hlt : i < l.length
    · obtain ⟨k, rfl⟩ : ∃ q, k = q + 1 := ⟨k - 1, by omega⟩
      rw [option_Value.l0, if_pos (by omega), if_pos (by omega), if_pos (by omega), rdA hlt, dropA hlt]
      obtain ⟨x, hx⟩ : ∃ x, x = l[i] := ⟨_, rfl⟩
      rw [← hx]
      by_cases hf : x.f0 = true
      · obtain ⟨b, hb⟩ := wire_six hf k (by omega)
        rw [hb, Option.bind_some, if_pos rfl, if_pos hf, if_neg (by intro h; have := (h x (by simp)).1; rw [hf] at this; cases this)]
      · have hf2 : x.f0 = false := by simpa using hf
        by_cases hx2 : okA x
        · rw [wire_ok hx2 k (by omega), Option.bind_some, if_pos rfl, if_neg hf, if_pos (by rw [B_size]; simp only [word, List.length_cons, List.length_nil]; omega), wsc (by omega), ih k (i + 1) _ (by omega) (by omega) (by omega) (by rw [ByteArray.size_append, B_size]; simp only [word, List.length_cons, List.length_nil]; omega)]
          by_cases hr : ∀ y ∈ l.drop (i + 1), okA y
          · rw [if_pos hr, if_pos (by intro y hy; rcases List.mem_cons.1 hy with rfl | hy; exact hx2; exact hr y hy)]
            refine congrArg (fun z => some (z, true)) (L_inj ?_)
            rw [L_append, L_append, L_append, L_B, L_B, L_B]; simp [vals]
          · rw [if_neg hr, if_neg (by intro h; exact hr fun y hy => h y (by simp [hy]))]
        · rw [wire_no hx2 hf2 k (by omega), Option.bind_some, if_neg (by decide), if_neg (by intro h; exact hx2 (h x (by simp)))]
    · obtain rfl : i = l.length := by omega
      exact hend k out (by omega)
theorem val_f (l : List S26) (k : Nat) (hk : 200 < k) : option_Value.f k l = some (valA l) := by
  obtain ⟨k, rfl⟩ : ∃ q, k = q + 1 := ⟨k - 1, by omega⟩
  unfold option_Value.f valA
  by_cases h1 : (l.length : Int) < 1
  · rw [if_pos h1, option_Value.j0, if_pos rfl, if_neg (by omega)]
  rw [if_neg h1, option_Value.j0]
  by_cases h2 : (l.length : Int) > 60
  · rw [if_pos (decide_eq_true h2), if_neg (by omega)]
  rw [if_neg (by rw [decide_eq_false h2]; decide)]
  have := val_l l (by omega) l.length k 0 ⟨#[]⟩ (by omega) (by omega) (by omega) (Nat.zero_le _)
  rw [List.drop_zero] at this
  refine Eq.trans this ?_
  by_cases h3 : ∀ x ∈ l, okA x
  · rw [if_pos h3, if_pos ⟨by omega, by omega, h3⟩]
    refine congrArg (fun z => some (z, true)) (L_inj ?_)
    rw [L_append]; rfl
  · rw [if_neg h3, if_neg (by rintro ⟨_, _, h⟩; exact h3 h)]
theorem rval_l (l : List S26) (hl : l.length ≤ 60) (hw : ∀ x ∈ l, 0 ≤ x.f2) : ∀ (n k i : Nat) (out : ByteArray), l.length - i ≤ n → n + 101 < k → i ≤ l.length → out.size ≤ 4 * i →
    ddiref35_Value.l0 k l out (i : Int) = some (if ∀ x ∈ l.drop i, okA x then (out ++ B (vals (l.drop i)), true) else (⟨#[]⟩, false)) := by
  intro n
  have hend : ∀ (k : Nat) (out : ByteArray), 0 < k → ddiref35_Value.l0 k l out (l.length : Int) = some (if ∀ x ∈ l.drop l.length, okA x then (out ++ B (vals (l.drop l.length)), true) else (⟨#[]⟩, false)) := by
    intro k out hk
    obtain ⟨k, rfl⟩ : ∃ q, k = q + 1 := ⟨k - 1, by omega⟩
    rw [ddiref35_Value.l0, if_neg (by omega), List.drop_length, if_pos (by simp)]
    refine congrArg (fun z => some (z, true)) (L_inj ?_)
    rw [L_append, L_B]; simp [vals]
  induction n with
  | zero =>
    intro k i out hn hk hi ho
    obtain rfl : i = l.length := by omega
    exact hend k out (by omega)
  | succ n ih =>
    intro k i out hn hk hi ho
    by_cases hlt : i < l.length
    · obtain ⟨k, rfl⟩ : ∃ q, k = q + 1 := ⟨k - 1, by omega⟩
      have hw0 := hw l[i] (List.getElem_mem hlt)
      rw [ddiref35_Value.l0, if_pos (by omega), if_pos (by omega), rdA hlt, dropA hlt]
      obtain ⟨x, hx⟩ : ∃ x, x = l[i] := ⟨_, rfl⟩
      rw [← hx] at hw0 ⊢
      by_cases hf : x.f0 = true
      · obtain ⟨b, hb⟩ := rwire_six hf k (by omega)
        rw [hb, Option.bind_some, if_pos rfl, if_pos hf, if_neg (by intro h; have := (h x (by simp)).1; rw [hf] at this; cases this)]
      · have hf2 : x.f0 = false := by simpa using hf
        by_cases hx2 : okA x
        · rw [rwire_ok hx2 hw0 k (by omega), Option.bind_some, if_pos rfl, if_neg hf, if_pos (by rw [B_size]; simp only [word, List.length_cons, List.length_nil]; omega), wsc (by omega), ih k (i + 1) _ (by omega) (by omega) (by omega) (by rw [ByteArray.size_append, B_size]; simp only [word, List.length_cons, List.length_nil]; omega)]
          by_cases hr : ∀ y ∈ l.drop (i + 1), okA y
          · rw [if_pos hr, if_pos (by intro y hy; rcases List.mem_cons.1 hy with rfl | hy; exact hx2; exact hr y hy)]
            refine congrArg (fun z => some (z, true)) (L_inj ?_)
            rw [L_append, L_append, L_append, L_B, L_B, L_B]; simp [vals]
          · rw [if_neg hr, if_neg (by intro h; exact hr fun y hy => h y (by simp [hy]))]
        · rw [rwire_no hx2 hf2 k (by omega), Option.bind_some, if_neg (by decide), if_neg (by intro h; exact hx2 (h x (by simp)))]
    · obtain rfl : i = l.length := by omega
      exact hend k out (by omega)
theorem rval_f (l : List S26) (hw : ∀ x ∈ l, 0 ≤ x.f2) (k : Nat) (hk : 200 < k) : ddiref35_Value.f k l = some (valA l) := by
  obtain ⟨k, rfl⟩ : ∃ q, k = q + 1 := ⟨k - 1, by omega⟩
  unfold ddiref35_Value.f valA
  by_cases h1 : (l.length : Int) < 1
  · rw [if_pos h1, ddiref35_Value.j0, if_pos rfl, if_neg (by omega)]
  rw [if_neg h1, ddiref35_Value.j0]
  by_cases h2 : (l.length : Int) > 60
  · rw [if_pos (decide_eq_true h2), if_neg (by omega)]
  rw [if_neg (by rw [decide_eq_false h2]; decide)]
  have := rval_l l (by omega) hw l.length k 0 ⟨#[]⟩ (by omega) (by omega) (by omega) (Nat.zero_le _)
  rw [List.drop_zero] at this
  refine Eq.trans this ?_
  by_cases h3 : ∀ x ∈ l, okA x
  · rw [if_pos h3, if_pos ⟨by omega, by omega, h3⟩]
    refine congrArg (fun z => some (z, true)) (L_inj ?_)
    rw [L_append]; rfl
  · rw [if_neg h3, if_neg (by rintro ⟨_, _, h⟩; exact h3 h)]
theorem wbt (c : UInt8) : wrap64 ((c.toNat : Nat) : Int) = ((c.toNat : Nat) : Int) := by have := c.toNat_lt; exact wrap_id (by omega) (by omega)
theorem wm {n : Nat} (h : n * 256 < 9223372036854775807) : wrap64 ((n : Int) * 256) = ((n * 256 : Nat) : Int) := by rw [wrap_id (by omega) (by omega)]; omega
theorem wma {n b : Nat} (h : n * 256 + b < 9223372036854775807) : wrap64 (wrap64 (256 * (n : Int)) + (b : Int)) = ((n * 256 + b : Nat) : Int) := by
  rw [show wrap64 (256 * (n : Int)) = 256 * (n : Int) from wrap_id (by omega) (by omega), wrap_id (by omega) (by omega)]; omega
def foldN (l : List UInt8) (n : Nat) : Nat := l.foldl (fun n b => n * 256 + b.toNat) n
theorem dropN {α : Type} {l : List α} {i : Nat} (h : i < l.length) : l.drop i = l[i] :: l.drop (i + 1) := by rw [List.drop_eq_getElem_cons h]
theorem num_l (s : ByteArray) (hs : s.size ≤ 4) : ∀ (n k i acc : Nat), s.size - i ≤ n → n < k → i ≤ s.size → (acc + 1) * 256 ^ (s.size - i) ≤ 4294967296 →
    option_Number.l0 k s (acc : Int) (i : Int) = some (((foldN ((L s).drop i) acc : Nat) : Int), true)
    ∧ ddiref35_Number.l0 k s (acc : Int) (i : Int) = some (((foldN ((L s).drop i) acc : Nat) : Int), true) := by
  intro n
  induction n with
  | zero =>
    intro k i acc hn hk hi hb
    obtain ⟨k, rfl⟩ : ∃ q, k = q + 1 := ⟨k - 1, by omega⟩
    rw [option_Number.l0, if_neg (by omega), ddiref35_Number.l0, if_neg (by omega), List.drop_eq_nil_of_le (by rw [L_len]; omega)]; exact ⟨rfl, rfl⟩
  | succ n ih =>
    intro k i acc hn hk hi hb
    obtain ⟨k, rfl⟩ : ∃ q, k = q + 1 := ⟨k - 1, by omega⟩
    by_cases hlt : i < s.size
    · have hL : i < (L s).length := by rw [L_len]; exact hlt
      obtain ⟨c, hc⟩ : ∃ c, c = (L s)[i] := ⟨_, rfl⟩
      have hclt := c.toNat_lt
      obtain ⟨d, hd⟩ : ∃ d, s.size - i = d + 1 := ⟨s.size - i - 1, by omega⟩
      have hp : 256 ^ (s.size - i) = 256 * 256 ^ (s.size - (i + 1)) := by rw [hd, show s.size - (i + 1) = d by omega, Nat.pow_succ, Nat.mul_comm]
      have hpos : 0 < 256 ^ (s.size - (i + 1)) := Nat.pow_pos (by decide)
      have hacc : (acc + 1) * 256 ≤ 4294967296 := by
        rw [hp, ← Nat.mul_assoc] at hb
        exact Nat.le_trans (Nat.le_mul_of_pos_right _ hpos) hb
      have hb2 : (acc * 256 + c.toNat + 1) * 256 ^ (s.size - (i + 1)) ≤ 4294967296 := by
        rw [hp, ← Nat.mul_assoc] at hb
        exact Nat.le_trans (Nat.mul_le_mul_right _ (by omega)) hb
      have := ih k (i + 1) (acc * 256 + c.toNat) (by omega) (by omega) (by omega) hb2
      rw [option_Number.l0, if_pos (by omega), if_pos (by omega), ddiref35_Number.l0, if_pos (by omega), if_pos (by omega), bt_L s i hL, dropN hL, ← hc, wbt, wm (by omega), or_i64 acc c.toNat hclt (by omega), wma (by omega), wsc (by omega), show foldN (c :: (L s).drop (i + 1)) acc = foldN ((L s).drop (i + 1)) (acc * 256 + c.toNat) from rfl]
      exact this
    · rw [option_Number.l0, if_neg (by omega), ddiref35_Number.l0, if_neg (by omega), List.drop_eq_nil_of_le (by rw [L_len]; omega)]; exact ⟨rfl, rfl⟩
theorem isSize_f (n : Int) : option_isSize.f n = some (decide (n = 1 ∨ n = 2 ∨ n = 4)) := by
  unfold option_isSize.f
  by_cases h1 : n = 1
  · rw [if_pos h1, decide_eq_true (.inl h1)]
  rw [if_neg h1]
  by_cases h2 : n = 2
  · rw [if_pos h2, decide_eq_true (.inr (.inl h2))]
  rw [if_neg h2]
  congr 1
  rw [Bool.eq_iff_iff, decide_eq_true_iff]
  simp [h1, h2]
def numP (s : ByteArray) : Int × Bool := if s.size = 1 ∨ s.size = 2 ∨ s.size = 4 then (((foldN (L s) 0 : Nat) : Int), true) else (0, false)
theorem foldN_lt : ∀ (l : List UInt8) (n : Nat), foldN l n < (n + 1) * 256 ^ l.length
  | [], n => by simp [foldN]
  | c :: l, n => by
    have h := foldN_lt l (n * 256 + c.toNat)
    have hc := c.toNat_lt
    show foldN l (n * 256 + c.toNat) < _
    rw [List.length_cons, Nat.pow_succ]
    refine Nat.lt_of_lt_of_le h ?_
    rw [Nat.mul_comm (256 ^ l.length) 256, ← Nat.mul_assoc]
    exact Nat.mul_le_mul_right _ (by omega)
theorem numP_range (s : ByteArray) : 0 ≤ (numP s).1 ∧ (numP s).1 < 4294967296 := by
  unfold numP
  split
  · rename_i h
    have := foldN_lt (L s) 0
    rw [L_len, Nat.zero_add, Nat.one_mul] at this
    have h2 : (256 : Nat) ^ s.size ≤ 4294967296 := by rcases h with h | h | h <;> rw [h] <;> decide
    dsimp only; omega
  · decide
theorem num_f (s : ByteArray) (k : Nat) (hk : 100 < k) : option_Number.f k s = some (numP s) ∧ ddiref35_Number.f k s = some (numP s) := by
  obtain ⟨k, rfl⟩ : ∃ q, k = q + 1 := ⟨k - 1, by omega⟩
  unfold numP
  by_cases h : s.size = 1 ∨ s.size = 2 ∨ s.size = 4
  · rw [if_pos h]
    have hp : (0 + 1) * 256 ^ (s.size - 0) ≤ 4294967296 := by rcases h with h | h | h <;> rw [h] <;> decide
    have h0 : (1 : Nat) ≤ s.size ∧ s.size ≤ 4 := by omega
    have a := num_l s h0.2 s.size (k + 1) 0 0 (by omega) (by omega) (by omega) hp
    have b := num_l s h0.2 s.size k 0 0 (by omega) (by omega) (by omega) hp
    refine ⟨?_, ?_⟩
    · unfold option_Number.f
      rw [isSize_f, Option.bind_some, if_pos (decide_eq_true (by omega))]
      exact a.1
    · unfold ddiref35_Number.f
      rcases h with h | h | h
      · rw [if_pos (by omega), ddiref35_Number.j0, if_neg (by decide)]; exact b.2
      · rw [if_neg (by omega), if_pos (by omega), ddiref35_Number.j0, if_neg (by decide)]; exact b.2
      · rw [if_neg (by omega), if_neg (by omega), ddiref35_Number.j0, if_neg (by rw [h]; decide)]; exact b.2
  · rw [if_neg h]
    refine ⟨?_, ?_⟩
    · unfold option_Number.f
      rw [isSize_f, Option.bind_some, if_neg (by rw [decide_eq_false (by omega)]; decide)]
    · unfold ddiref35_Number.f
      rw [if_neg (by omega), if_neg (by omega), ddiref35_Number.j0, if_pos (by simp; omega)]
theorem and7 (n : Int) (h0 : -9223372036854775808 ≤ n) (h1 : n ≤ 9223372036854775807) : Go.bits .and .i64 n 7 = n % 8 := by
  have h2 : (BitVec.ofInt 64 (7 : Int)).toNat = 7 := by decide
  have h3 : (BitVec.ofInt 64 n).toNat = (n % 18446744073709551616).toNat := by rw [BitVec.toNat_ofInt]; rfl
  show IntKind.i64.wrap ((BitVec.ofInt 64 n &&& BitVec.ofInt 64 (7 : Int)).toNat : Int) = _
  rw [BitVec.toNat_and, h2, h3, show (7 : Nat) = 2 ^ 3 - 1 from rfl, Nat.and_two_pow_sub_one_eq_mod, i64_w, wrap_id (by omega) (by omega)]
  omega
theorem most_f (n : Int) (h0 : -9223372036854775808 ≤ n) (h1 : n ≤ 9223372036854775807) : dhcp_most.f n = some (n * 7 / 8) := by
  unfold dhcp_most.f
  rw [and7 n h0 h1, wrap_id (x := n / 8 * 7) (by omega) (by omega), wrap_id (x := n % 8 * 7) (by omega) (by omega), wrap_id (by omega) (by omega)]
  congr 1; omega
theorem half_f (n : Int) : dhcp_half.f n = some (n / 2) := rfl
def timeP (l : List S62) (c o : Int) : Int × Bool := if (fndA (ab l) c).2 = true then numP (fndA (ab l) c).1 else (o, true)
theorem timeP_range (l : List S62) (c : Int) {o : Int} (h0 : 0 ≤ o) (h1 : o < 4294967296) : 0 ≤ (timeP l c o).1 ∧ (timeP l c o).1 < 4294967296 := by
  unfold timeP; split
  · exact numP_range _
  · exact ⟨h0, h1⟩
theorem span_f (a0 a1 a2 : Int) (a3 : ByteArray) (a4 : Bool) (a5 a6 : Int) (a7 : Bool) (a8 a9 : Int) (a10 : Bool) (a11 a12 : Int) (a13 : Bool) (l : List S62) (c o : Int) (hl : l.length ≤ 5864062014800) (k : Nat) (hk : 100 < k) (hk2 : l.length < k) :
    dhcp_span.f k a0 a1 a2 a3 a4 a5 a6 a7 a8 a9 a10 a11 a12 a13 l c o = some (timeP l c o) := by
  unfold dhcp_span.f timeP
  rw [find_f l c hl k hk2, Option.bind_some]
  by_cases h : (fndA (ab l) c).2 = true
  · rw [if_pos h, if_pos h, (num_f _ k hk).1]; rfl
  · rw [if_neg h, if_neg h]
theorem time_f (a0 a1 a2 : Int) (a3 : ByteArray) (a4 : Bool) (a5 a6 : Int) (a7 : Bool) (a8 a9 : Int) (a10 : Bool) (a11 a12 : Int) (a13 : Bool) (l : List S62) (c o : Int) (hl : l.length ≤ 5864062014800) (k : Nat) (hk : 100 < k) (hk2 : l.length < k) :
    ddiref36_time.f k a0 a1 a2 a3 a4 a5 a6 a7 a8 a9 a10 a11 a12 a13 l c o = some (timeP l c o) := by
  unfold ddiref36_time.f timeP
  rw [rfind_f l c hl k hk2, Option.bind_some]
  by_cases h : (fndA (ab l) c).2 = true
  · rw [if_pos h, if_pos h, (num_f _ k hk).2]; rfl
  · rw [if_neg h, if_neg h]
def leaseT (n : Int) (t1 t2 : Int × Bool) : Int × Int × Int × Bool :=
  if t1.2 = true then (if t2.2 = true then (if t2.1 < t1.1 then (0, 0, 0, false) else if n < t2.1 then (0, 0, 0, false) else (n, t1.1, t2.1, true)) else (0, 0, 0, false)) else (0, 0, 0, false)
def leaseP (l : List S62) : Int × Int × Int × Bool :=
  if (fndA (ab l) 51).2 = true then (if (numP (fndA (ab l) 51).1).2 = true then leaseT (numP (fndA (ab l) 51).1).1 (timeP l 58 ((numP (fndA (ab l) 51).1).1 / 2)) (timeP l 59 ((numP (fndA (ab l) 51).1).1 * 7 / 8)) else (0, 0, 0, false)) else (0, 0, 0, false)
theorem lease_end (n : Int) (t1 t2 : Int × Bool) : (if t1.2 = true then (if t2.2 = true then (if t1.1 > t2.1 then some ((0 : Int), (0 : Int), (0 : Int), false) else (if t2.1 > n then some (0, 0, 0, false) else some (n, t1.1, t2.1, true))) else some (0, 0, 0, false)) else some (0, 0, 0, false)) = some (leaseT n t1 t2) := by
  unfold leaseT
  by_cases h3 : t1.2 = true
  case neg => rw [if_neg h3, if_neg h3]
  rw [if_pos h3, if_pos h3]
  by_cases h4 : t2.2 = true
  case neg => rw [if_neg h4, if_neg h4]
  rw [if_pos h4, if_pos h4]
  by_cases h5 : t2.1 < t1.1
  · rw [if_pos h5, if_pos h5]
  rw [if_neg h5, if_neg h5]
  by_cases h6 : n < t2.1
  · rw [if_pos h6, if_pos h6]
  rw [if_neg h6, if_neg h6]
theorem lease_f (a0 a1 a2 : Int) (a3 : ByteArray) (a4 : Bool) (a5 a6 : Int) (a7 : Bool) (a8 a9 : Int) (a10 : Bool) (a11 a12 : Int) (a13 : Bool) (l : List S62) (hl : l.length ≤ 5864062014800) (k : Nat) (hk : 100 < k) (hk2 : l.length < k) :
    dhcp_Lease.f k a0 a1 a2 a3 a4 a5 a6 a7 a8 a9 a10 a11 a12 a13 l = some (leaseP l) := by
  unfold dhcp_Lease.f leaseP
  rw [find_f l 51 hl k hk2, Option.bind_some]
  by_cases h : (fndA (ab l) 51).2 = true
  case neg => rw [if_neg h, if_neg h]
  rw [if_pos h, if_pos h, (num_f _ k hk).1, Option.bind_some]
  by_cases h2 : (numP (fndA (ab l) 51).1).2 = true
  case neg => rw [if_neg h2, if_neg h2]
  have hr := numP_range (fndA (ab l) 51).1
  rw [if_pos h2, if_pos h2, half_f, Option.bind_some, span_f _ _ _ _ _ _ _ _ _ _ _ _ _ _ l 58 _ hl k hk hk2, Option.bind_some, most_f _ (by omega) (by omega), Option.bind_some, span_f _ _ _ _ _ _ _ _ _ _ _ _ _ _ l 59 _ hl k hk hk2, Option.bind_some]
  exact lease_end _ _ _
theorem rlease_f (a0 a1 a2 : Int) (a3 : ByteArray) (a4 : Bool) (a5 a6 : Int) (a7 : Bool) (a8 a9 : Int) (a10 : Bool) (a11 a12 : Int) (a13 : Bool) (l : List S62) (hl : l.length ≤ 5864062014800) (k : Nat) (hk : 200 < k) (hk2 : l.length + 1 < k) :
    ddiref36_Lease.f k a0 a1 a2 a3 a4 a5 a6 a7 a8 a9 a10 a11 a12 a13 l = some (leaseP l) := by
  obtain ⟨k, rfl⟩ : ∃ q, k = q + 1 := ⟨k - 1, by omega⟩
  unfold ddiref36_Lease.f leaseP
  rw [time_f _ _ _ _ _ _ _ _ _ _ _ _ _ _ l 51 _ hl (k + 1) (by omega) (by omega), Option.bind_some]
  unfold timeP
  by_cases h : (fndA (ab l) 51).2 = true
  case neg => rw [if_neg h, if_neg h, if_pos rfl, ddiref36_Lease.j0, if_pos (by decide)]
  rw [if_pos h, if_pos h]
  by_cases h2 : (numP (fndA (ab l) 51).1).2 = true
  case neg => rw [if_neg h2, if_neg h2, ddiref36_Lease.j0, if_pos rfl]
  have hr := numP_range (fndA (ab l) 51).1
  rw [if_pos h2, if_pos h2, decide_eq_false (by omega), ddiref36_Lease.j0, if_neg Bool.false_ne_true]
  rw [Int.tdiv_eq_ediv_of_nonneg (by omega), wrap_id (x := _ / 2) (by omega) (by omega), wrap_id (x := _ * 7) (by omega) (by omega), Int.tdiv_eq_ediv_of_nonneg (by omega), wrap_id (by omega) (by omega)]
  rw [time_f _ _ _ _ _ _ _ _ _ _ _ _ _ _ l 58 _ hl k (by omega) (by omega), Option.bind_some, time_f _ _ _ _ _ _ _ _ _ _ _ _ _ _ l 59 _ hl k (by omega) (by omega), Option.bind_some]
  exact lease_end _ _ _
theorem rclient_l (s : ByteArray) (hs : s.size ≤ 32) : ∀ (n k i : Nat), s.size - i ≤ n → n < k → i ≤ s.size → ddiref36_isClient.l0 k s (i : Int) = some (((L s).drop i).all vis) := by
  intro n
  induction n with
  | zero =>
    intro k i hn hk hi
    obtain ⟨k, rfl⟩ : ∃ q, k = q + 1 := ⟨k - 1, by omega⟩
    rw [ddiref36_isClient.l0, if_neg (by omega), List.drop_eq_nil_of_le (by rw [L_len]; omega)]; rfl
  | succ n ih =>
    intro k i hn hk hi
    obtain ⟨k, rfl⟩ : ∃ q, k = q + 1 := ⟨k - 1, by omega⟩
    by_cases hlt : i < s.size
    · have hL : i < (L s).length := by rw [L_len]; exact hlt
      rw [ddiref36_isClient.l0, if_pos (by omega), if_pos (by omega), bt_L s i hL, drop_at hL, List.all_cons]
      by_cases h1 : (L s)[i].toNat < 33
      · rw [if_pos (by omega), show vis (L s)[i] = false from decide_eq_false (by omega)]; rfl
      · rw [if_neg (by omega)]
        by_cases h2 : 126 < (L s)[i].toNat
        · rw [if_pos (by omega), show vis (L s)[i] = false from decide_eq_false (by omega)]; rfl
        · rw [if_neg (by omega), show vis (L s)[i] = true from decide_eq_true (by omega), Bool.true_and, wsucc (by omega)]
          exact ih k (i + 1) (by omega) (by omega) (by omega)
    · rw [ddiref36_isClient.l0, if_neg (by omega), List.drop_eq_nil_of_le (by rw [L_len]; omega)]; rfl
theorem rclient_f (s : ByteArray) (k : Nat) (hk : 100 < k) : ddiref36_isClient.f k s = some (cli s) := by
  obtain ⟨k, rfl⟩ : ∃ q, k = q + 1 := ⟨k - 1, by omega⟩
  unfold ddiref36_isClient.f cli
  by_cases h0 : s.size = 0
  · rw [if_pos (by omega), ddiref36_isClient.j0, if_pos rfl, decide_eq_false (by omega)]; rfl
  · rw [if_neg (by omega), ddiref36_isClient.j0]
    by_cases h : s.size ≤ 32
    · rw [decide_eq_false (show ¬ ((s.size : Int) > 32) by omega), if_neg (by decide), decide_eq_true (by omega), Bool.true_and]
      exact rclient_l s h s.size k 0 (by omega) (by omega) (by omega)
    · rw [decide_eq_true (show (s.size : Int) > 32 by omega), if_pos rfl, decide_eq_false (by omega)]; rfl
theorem isV4_f (x : S26) (h0 : 0 ≤ x.f2) : ddiref36_isV4.f x.f0 x.f1 x.f2 = some (decide (okA x)) := by
  unfold ddiref36_isV4.f ddiref02_Valid.f
  obtain ⟨b, hi, lo⟩ := x
  simp only at h0 ⊢
  cases b
  · by_cases h1 : hi = 0
    · subst h1
      by_cases h2 : lo ≤ 4294967295
      · have h3 : lo < 4294967296 := by omega
        simp [okA, h2, h3]
      · have h3 : ¬ lo < 4294967296 := by omega
        simp [okA, h2, h3]
    · simp [okA, h1]
  · simp [okA]
def zeroA (x : S26) : Prop := x.f0 = false ∧ x.f1 = 0 ∧ x.f2 = 0
instance (x : S26) : Decidable (zeroA x) := inferInstanceAs (Decidable (_ ∧ _ ∧ _))
def vhd (a0 a1 a2 : Int) (a3 : ByteArray) (x y z : S26) (a13 : Bool) : Bool :=
  decide ((1 ≤ a0 ∧ a0 ≤ 8) ∧ (0 ≤ a1 ∧ a1 < 4294967296) ∧ (0 ≤ a2 ∧ a2 < 65536) ∧ cli a3 = true ∧ okA x ∧ okA y ∧ okA z ∧ (a13 = true ∨ zeroA z))
def vpk (a0 a1 a2 : Int) (a3 : ByteArray) (x y z : S26) (a13 : Bool) (l : List S62) : Bool := vhd a0 a1 a2 a3 x y z a13 && decide (vld (ab l))
theorem ne_zeroA (x : S26) : (x.f0 || (!(x.f1 == 0) || (!(x.f2 == 0)))) = !decide (zeroA x) := by
  obtain ⟨b, h, l⟩ := x
  cases b
  · by_cases h1 : h = 0
    · by_cases h2 : l = 0
      · subst h1; subst h2; rfl
      · subst h1; simp [zeroA, h2]
    · simp [zeroA, h1]
  · simp [zeroA]
theorem vhd_false {a0 a1 a2 : Int} {a3 : ByteArray} {x y z : S26} {a13 : Bool} {l : List S62} (h : ¬ ((1 ≤ a0 ∧ a0 ≤ 8) ∧ (0 ≤ a1 ∧ a1 < 4294967296) ∧ (0 ≤ a2 ∧ a2 < 65536) ∧ cli a3 = true ∧ okA x ∧ okA y ∧ okA z ∧ (a13 = true ∨ zeroA z))) : vpk a0 a1 a2 a3 x y z a13 l = false := by
  unfold vpk vhd; rw [decide_eq_false h]; rfl
theorem vhd_true {a0 a1 a2 : Int} {a3 : ByteArray} {x y z : S26} {a13 : Bool} {l : List S62} (h : (1 ≤ a0 ∧ a0 ≤ 8) ∧ (0 ≤ a1 ∧ a1 < 4294967296) ∧ (0 ≤ a2 ∧ a2 < 65536) ∧ cli a3 = true ∧ okA x ∧ okA y ∧ okA z ∧ (a13 = true ∨ zeroA z)) : vpk a0 a1 a2 a3 x y z a13 l = decide (vld (ab l)) := by
  unfold vpk vhd; rw [decide_eq_true h, Bool.true_and]
theorem rtail (a0 a1 a2 : Int) (a3 : ByteArray) (x y z : S26) (a13 : Bool) (l : List S62) (hx : 0 ≤ x.f2) (hy : 0 ≤ y.f2) (hz : 0 ≤ z.f2) (hl : ∀ o ∈ l, o.f1.size ≤ 140737488351232) (k : Nat) (hk : 100 < k)
    (h0 : 1 ≤ a0 ∧ a0 ≤ 8) (h1 : 0 ≤ a1 ∧ a1 < 4294967296) (h2 : 0 ≤ a2 ∧ a2 < 65536) (hc : cli a3 = true) :
    ddiref36_Valid.j0 (k + 1) false a0 a1 a2 a3 x.f0 x.f1 x.f2 y.f0 y.f1 y.f2 z.f0 z.f1 z.f2 a13 l = some (vpk a0 a1 a2 a3 x y z a13 l) := by
  rw [ddiref36_Valid.j0, if_neg Bool.false_ne_true, isV4_f x hx, Option.bind_some]
  by_cases hx' : okA x
  case neg => rw [decide_eq_false hx', if_neg Bool.false_ne_true, vhd_false (fun h => hx' h.2.2.2.2.1)]
  rw [decide_eq_true hx', if_pos rfl, isV4_f y hy, Option.bind_some]
  by_cases hy' : okA y
  case neg => rw [decide_eq_false hy', if_neg Bool.false_ne_true, vhd_false (fun h => hy' h.2.2.2.2.2.1)]
  rw [decide_eq_true hy', if_pos rfl, isV4_f z hz, Option.bind_some]
  by_cases hz' : okA z
  case neg => rw [decide_eq_false hz', if_neg Bool.false_ne_true, vhd_false (fun h => hz' h.2.2.2.2.2.2.1)]
  rw [decide_eq_true hz', if_pos rfl, ne_zeroA z, rvalid_f l hl k hk]
  by_cases h13 : a13 = true
  · rw [if_pos h13]
    rw [vhd_true ⟨h0, h1, h2, hc, hx', hy', hz', .inl h13⟩]
    rfl
  · rw [if_neg h13]
    by_cases hz0 : zeroA z
    · rw [decide_eq_true hz0, Bool.not_true, if_neg Bool.false_ne_true]
      rw [vhd_true ⟨h0, h1, h2, hc, hx', hy', hz', .inr hz0⟩]
      rfl
    · rw [decide_eq_false hz0, Bool.not_false, if_pos rfl, vhd_false (fun h => h.2.2.2.2.2.2.2.elim h13 hz0)]
theorem rj_true (k : Nat) (a0 a1 a2 : Int) (a3 : ByteArray) (b4 : Bool) (a5 a6 : Int) (b7 : Bool) (a8 a9 : Int) (b10 : Bool) (a11 a12 : Int) (a13 : Bool) (l : List S62) :
    ddiref36_Valid.j0 (k + 1) true a0 a1 a2 a3 b4 a5 a6 b7 a8 a9 b10 a11 a12 a13 l = some false := by rw [ddiref36_Valid.j0, if_pos rfl]
theorem rvalid36_f (a0 a1 a2 : Int) (a3 : ByteArray) (x y z : S26) (a13 : Bool) (l : List S62) (hx : 0 ≤ x.f2) (hy : 0 ≤ y.f2) (hz : 0 ≤ z.f2) (hl : ∀ o ∈ l, o.f1.size ≤ 140737488351232) (k : Nat) (hk : 200 < k) :
    ddiref36_Valid.f k a0 a1 a2 a3 x.f0 x.f1 x.f2 y.f0 y.f1 y.f2 z.f0 z.f1 z.f2 a13 l = some (vpk a0 a1 a2 a3 x y z a13 l) := by
  obtain ⟨k, rfl⟩ : ∃ q, k = q + 1 := ⟨k - 1, by omega⟩
  unfold ddiref36_Valid.f
  rw [rclient_f a3 (k + 1) (by omega), Option.bind_some]
  by_cases h0 : 1 ≤ a0 ∧ a0 ≤ 8
  case neg =>
    rw [vhd_false (fun h => h0 h.1)]
    by_cases h00 : a0 < 1
    · rw [if_pos h00, rj_true k]
    · rw [if_neg h00, if_pos (by omega), rj_true k]
  rw [if_neg (by omega), if_neg (by omega)]
  by_cases h1 : a1 < 0
  · rw [if_pos h1, rj_true k, vhd_false (fun h => by have := h.2.1; omega)]
  rw [if_neg h1]
  by_cases h2 : a1 ≥ 4294967296
  · rw [if_pos h2, rj_true k, vhd_false (fun h => by have := h.2.1; omega)]
  rw [if_neg h2]
  by_cases h3 : a2 < 0
  · rw [if_pos h3, rj_true k, vhd_false (fun h => by have := h.2.2.1; omega)]
  rw [if_neg h3]
  by_cases h4 : a2 ≥ 65536
  · rw [if_pos (by omega), rj_true k, vhd_false (fun h => by have := h.2.2.1; omega)]
  rw [if_neg (by omega)]
  by_cases hc : cli a3 = true
  · rw [hc]; exact rtail a0 a1 a2 a3 x y z a13 l hx hy hz hl k (by omega) h0 (by omega) (by omega) hc
  · rw [Bool.not_eq_true] at hc
    rw [hc, Bool.not_false, rj_true k, vhd_false (fun h => by rw [hc] at h; cases h.2.2.2.1)]
theorem vpk_parts {a0 a1 a2 : Int} {a3 : ByteArray} {x y z : S26} {a13 : Bool} {l : List S62} (h : vpk a0 a1 a2 a3 x y z a13 l = true) :
    ((1 ≤ a0 ∧ a0 ≤ 8) ∧ (0 ≤ a1 ∧ a1 < 4294967296) ∧ (0 ≤ a2 ∧ a2 < 65536) ∧ cli a3 = true ∧ okA x ∧ okA y ∧ okA z ∧ (a13 = true ∨ zeroA z)) ∧ vld (ab l) := by
  unfold vpk vhd at h
  rw [Bool.and_eq_true] at h
  exact ⟨of_decide_eq_true h.1, of_decide_eq_true h.2⟩
end Go.Proofs.YtlabnocmmeciaaaGreatDoor.PLN
namespace Go.Proofs.YtlabnocmmeciaaaGreatDoor.LAW
open Go RowKit YtlabnocmmeciaaaGreatDoorW.PrintWords YtlabnocmmeciaaaGreatDoorW.PrintLast YtlabnocmmeciaaaGreatDoorW.PrintMore DN OPT PLN Pa BQ STN
def okB (a : S26) : Prop := okA a ∧ 0 ≤ a.f2
structure J (c h : ByteArray) (s : Stn) : Prop where
  ec : s.c = c
  eh : s.h = h
  cli : cli c = true
  host : h.size ≤ 63
  x0 : 0 ≤ s.xid
  x1 : s.xid ≤ 4294967295
  se : 0 ≤ s.se ∧ s.se ≤ 4294967295
  t2 : 0 ≤ s.t2 ∧ s.t2 ≤ 4294967295
  un : 0 ≤ s.un ∧ s.un ≤ 4294967295
  st : 0 ≤ s.st ∧ s.st ≤ 5
  tr : s.st = 1 ∨ s.st = 2 → 1 ≤ s.tr ∧ s.tr ≤ 4
  sv : 0 ≤ s.sv ∧ s.sv < 65536
  a : okB s.a
theorem zr : (0 : Int) ≤ 0 ∧ (0 : Int) ≤ 4294967295 := by decide
theorem zs : (0 : Int) ≤ 0 ∧ (0 : Int) ≤ 5 := by decide
theorem zv : (0 : Int) ≤ 0 ∧ (0 : Int) < 65536 := by decide
theorem z12 {P : Prop} (h : (0 : Int) = 1 ∨ (0 : Int) = 2) : P := by rcases h with h | h <;> exact absurd h (by decide)
theorem t12 {P : Prop} (h : (3 : Int) = 1 ∨ (3 : Int) = 2) : P := by rcases h with h | h <;> exact absurd h (by decide)
theorem zf2 : 0 ≤ zA.f2 := by decide
def pkV (m : S38) : Bool := vpk m.f0 m.f1 m.f2 m.f3 m.f4 m.f5 m.f6 m.f7 m.f8
/-- What a message is made of, as far as its check asks. -/
structure Fit (m : S38) : Prop where
  a : 0 ≤ m.f4.f2
  b : 0 ≤ m.f5.f2
  c : 0 ≤ m.f6.f2
  o : ∀ o ∈ m.f8, o.f1.size ≤ 140737488351232
structure OkM (c : ByteArray) (x : Int) (m : S38) : Prop where
  x : m.f1 = x
  c : m.f3 = c
  v : pkV m = true
  fit : Fit m
theorem pkV_f (m : S38) (h : Fit m) (k : Nat) (hk : 200 < k) : ddiref36_Valid.f k m.f0 m.f1 m.f2 m.f3 m.f4.f0 m.f4.f1 m.f4.f2 m.f5.f0 m.f5.f1 m.f5.f2 m.f6.f0 m.f6.f1 m.f6.f2 m.f7 m.f8 = some (pkV m) :=
  rvalid36_f m.f0 m.f1 m.f2 m.f3 m.f4 m.f5 m.f6 m.f7 m.f8 h.a h.b h.c h.o k hk
theorem okA_zA : okA zA := ⟨rfl, rfl, by decide⟩
theorem okB_zA : okB zA := ⟨okA_zA, by decide⟩
theorem want_f (a : S26) : ∃ b, option_Value.f 1000 [a] = some (wantF a, b) := by
  refine ⟨(valA [a]).2, ?_⟩
  unfold wantF
  rw [val_f [a] 1000 (by omega)]; rfl
theorem rwant_f (a : S26) (h : 0 ≤ a.f2) : ddiref35_Value.f 1000 [a] = some (wantF a, (valA [a]).2) := by
  unfold wantF
  rw [val_f [a] 1000 (by omega), rval_f [a] (fun x hx => by rw [List.mem_singleton] at hx; subst hx; exact h) 1000 (by omega)]; rfl
theorem want_size (a : S26) : (wantF a).size ≤ 4 := by
  unfold wantF
  rw [val_f [a] 1000 (by omega)]
  show (valA [a]).1.size ≤ 4
  unfold valA
  split
  · rw [B_size, vals_length]; simp
  · exact Nat.zero_le _
theorem valid_of (y : S26) : addr_Valid.f y.f0 y.f1 y.f2 = some (validF y) := by
  have : ∃ b, addr_Valid.f y.f0 y.f1 y.f2 = some b := by
    unfold addr_Valid.f
    by_cases h1 : y.f0 = true
    · rw [if_pos h1]; exact ⟨_, rfl⟩
    · rw [if_neg h1]
      by_cases h2 : y.f1 = 0
      · rw [if_pos h2]; exact ⟨_, rfl⟩
      · rw [if_neg h2]; exact ⟨_, rfl⟩
  obtain ⟨b, hb⟩ := this
  unfold validF; rw [hb]; rfl
theorem vld_nil : vld (ab []) := ⟨⟨by decide, by decide, fun o h => by cases h⟩, List.nodup_nil, fun o h => by cases h⟩
theorem vld_one (v : ByteArray) (x : Int) (hx : 1 ≤ x ∧ x ≤ 254) (hv : v.size ≤ 63) : vld (ab [(⟨x, v⟩ : S62)]) := by
  have e : ab [(⟨x, v⟩ : S62)] = [(x, L v)] := rfl
  have hl := L_len v
  rw [e]
  refine ⟨⟨by simp, by simp only [sz]; omega, fun o h => ?_⟩, by simp, fun o h => ?_⟩ <;> (rw [List.mem_singleton] at h; subst h; dsimp only; omega)
theorem vld_two (v u : ByteArray) (hv : v.size ≤ 63) (hu : u.size ≤ 63) : vld (ab [(⟨50, v⟩ : S62), ⟨12, u⟩]) := by
  have e : ab [(⟨50, v⟩ : S62), ⟨12, u⟩] = [(50, L v), (12, L u)] := rfl
  have hl := L_len v
  have hm := L_len u
  rw [e]
  refine ⟨⟨by simp, by simp only [sz]; omega, fun o h => ?_⟩, by simp, fun o h => ?_⟩ <;> (rcases List.mem_cons.1 h with rfl | h; · dsimp only; omega) <;> (rw [List.mem_singleton] at h; subst h; dsimp only; omega)
/-- The options that a station's message may have. -/
inductive Opts : List S62 → Prop
  | no : Opts []
  | want (a : S26) : Opts [⟨50, wantF a⟩]
theorem host_ok {l : List S62} (hl : Opts l) (h : ByteArray) (hh : h.size ≤ 63) (ki : Int) : vld (ab (hostF h ki l)) ∧ ∀ o ∈ hostF h ki l, o.f1.size ≤ 140737488351232 := by
  unfold hostF
  cases hl with
  | no =>
    split
    · exact ⟨vld_one h 12 (by decide) hh, fun o ho => by rw [List.nil_append, List.mem_singleton] at ho; subst ho; dsimp only; omega⟩
    · exact ⟨vld_nil, fun o ho => by cases ho⟩
  | want a =>
    have hw := want_size a
    split
    · exact ⟨vld_two _ h (by omega) hh, fun o ho => by
        rcases List.mem_append.1 ho with ho | ho <;> (rw [List.mem_singleton] at ho; subst ho; dsimp only; omega)⟩
    · exact ⟨vld_one _ 50 (by decide) (by omega), fun o ho => by rw [List.mem_singleton] at ho; subst ho; dsimp only; omega⟩
section
variable {c h : ByteArray} {s : Stn}
theorem msg_ok (hJ : J c h s) (hx : ¬ 4294967295 ≤ s.xid) {ki sv : Int} (hk : 1 ≤ ki ∧ ki ≤ 8) (hs : 0 ≤ sv ∧ sv < 65536) {cur : S26} (hc : okB cur) {l : List S62} (hl : Opts l) : OkM c (s.xid + 1) (msgF s ki sv cur l) := by
  have hx0 := hJ.x0
  obtain ⟨hv, ho⟩ := host_ok hl s.h (by rw [hJ.eh]; exact hJ.host) ki
  refine ⟨rfl, hJ.ec, ?_, ⟨hc.2, zf2, zf2, ho⟩⟩
  show vpk ki (s.xid + 1) sv s.c cur zA zA false (hostF s.h ki l) = true
  rw [vhd_true ⟨hk, ⟨by omega, by omega⟩, hs, by rw [hJ.ec]; exact hJ.cli, hc.1, okA_zA, okA_zA, .inr ⟨rfl, rfl, rfl⟩⟩]
  exact decide_eq_true hv
/-- What a call may leave: at most one message, of the next number. -/
def Good (c h : ByteArray) (s : Stn) (r : Stn × List S38) : Prop := J c h r.1 ∧ ((r.2 = [] ∧ r.1.xid = s.xid) ∨ ∃ m, r.2 = [m] ∧ r.1.xid = s.xid + 1 ∧ OkM c (s.xid + 1) m)
theorem Good.same (hJ : J c h s) : Good c h s (s, []) := ⟨hJ, .inl ⟨rfl, rfl⟩⟩
theorem J.init (hJ : J c h s) : J c h (initF s) := ⟨hJ.ec, hJ.eh, hJ.cli, hJ.host, hJ.x0, hJ.x1, zr, zr, zr, zs, z12, zv, okB_zA⟩
theorem Good.init (hJ : J c h s) : Good c h s (initF s, []) := ⟨hJ.init, .inl ⟨rfl, rfl⟩⟩
theorem step_good (hJ : J c h s) {ki sv : Int} (hk : 1 ≤ ki ∧ ki ≤ 8) (hs : 0 ≤ sv ∧ sv < 65536) {cur : S26} (hc : okB cur) {l : List S62} (hl : Opts l) {state tr now : Int} (hst : 0 ≤ state ∧ state ≤ 5) (htr : state = 1 ∨ state = 2 → 1 ≤ tr ∧ tr ≤ 4) (hn : 0 ≤ now ∧ now ≤ 4294967295) :
    Good c h s (stepF s ki sv cur l state tr now) := by
  unfold stepF
  by_cases hx : 4294967295 ≤ s.xid
  · rw [if_pos hx]; exact Good.same hJ
  · rw [if_neg hx]
    have hx0 := hJ.x0
    exact ⟨⟨hJ.ec, hJ.eh, hJ.cli, hJ.host, by show 0 ≤ s.xid + 1; omega, by show s.xid + 1 ≤ 4294967295; omega, hn, hJ.t2, hJ.un, hst, htr, hJ.sv, hJ.a⟩, .inr ⟨_, rfl, rfl, msg_ok hJ hx hk hs hc hl⟩⟩
theorem tick_good (hJ : J c h s) {now : Int} (hn : 0 ≤ now ∧ now ≤ 4294967295) : Good c h s (tickF s now) := by
  have hst := hJ.st
  have htr := hJ.tr
  unfold tickF
  by_cases h0 : s.st = 0
  · rw [if_pos h0]; exact step_good hJ (by decide) (by decide) okB_zA .no (by decide) (fun _ => by decide) hn
  rw [if_neg h0]
  by_cases h1 : s.st = 1 ∨ s.st = 2
  · rw [if_pos h1]
    have htr := htr h1
    unfold askF
    split
    · exact Good.same hJ
    split
    · exact Good.init hJ
    split
    · exact step_good hJ (by decide) (by decide) okB_zA .no hst (fun _ => by omega) hn
    · exact step_good hJ (by decide) hJ.sv okB_zA (.want _) hst (fun _ => by omega) hn
  rw [if_neg h1]
  have hsv : ∀ b : Bool, 0 ≤ (if b = true then 0 else s.sv) ∧ (if b = true then 0 else s.sv) < 65536 := fun b => by cases b; exact hJ.sv; exact zv
  unfold renewF
  split
  · exact Good.init hJ
  split
  · exact step_good hJ (by decide) (hsv _) hJ.a .no (by decide) (fun hq => by rcases hq with hq | hq <;> exact absurd hq (by decide)) hn
  split
  · exact step_good hJ (by decide) (hsv _) hJ.a .no (by decide) (fun hq => by rcases hq with hq | hq <;> exact absurd hq (by decide)) hn
  split
  · exact step_good hJ (by decide) (hsv _) hJ.a .no (by decide) (fun hq => by rcases hq with hq | hq <;> exact absurd hq (by decide)) hn
  split
  · exact step_good hJ (by decide) (hsv _) hJ.a .no (by decide) (fun hq => by rcases hq with hq | hq <;> exact absurd hq (by decide)) hn
  · exact Good.same hJ
theorem give_good (hJ : J c h s) {ki : Int} (hk : 1 ≤ ki ∧ ki ≤ 8) : Good c h s (giveF s ki) := by
  unfold giveF
  split
  · split
    · exact Good.init hJ
    · rename_i hx
      have hx0 := hJ.x0
      exact ⟨⟨hJ.ec, hJ.eh, hJ.cli, hJ.host, by show 0 ≤ s.xid + 1; omega, by show s.xid + 1 ≤ 4294967295; omega, zr, zr, zr, zs, z12, zv, okB_zA⟩, .inr ⟨_, rfl, rfl, msg_ok hJ hx hk hJ.sv hJ.a .no⟩⟩
  · exact Good.same hJ
theorem leaseT_le {n : Int} {t1 t2 : Int × Bool} (h1 : 0 ≤ t1.1) (hn : n < 4294967296) : (leaseT n t1 t2).2.2.2 = true → 0 ≤ (leaseT n t1 t2).2.1 ∧ (leaseT n t1 t2).2.1 ≤ (leaseT n t1 t2).2.2.1 ∧ (leaseT n t1 t2).2.2.1 ≤ (leaseT n t1 t2).1 ∧ (leaseT n t1 t2).1 ≤ 4294967295 := by
  unfold leaseT
  intro h
  by_cases h3 : t1.2 = true
  case neg => rw [if_neg h3] at h; cases h
  rw [if_pos h3] at h ⊢
  by_cases h4 : t2.2 = true
  case neg => rw [if_neg h4] at h; cases h
  rw [if_pos h4] at h ⊢
  by_cases h5 : t2.1 < t1.1
  · rw [if_pos h5] at h; cases h
  rw [if_neg h5] at h ⊢
  by_cases h6 : n < t2.1
  · rw [if_pos h6] at h; cases h
  rw [if_neg h6]
  dsimp only
  omega
theorem leaseP_le (l : List S62) : (leaseP l).2.2.2 = true → 0 ≤ (leaseP l).2.1 ∧ (leaseP l).2.1 ≤ (leaseP l).2.2.1 ∧ (leaseP l).2.2.1 ≤ (leaseP l).1 ∧ (leaseP l).1 ≤ 4294967295 := by
  unfold leaseP
  intro h
  by_cases h1 : (fndA (ab l) 51).2 = true
  case neg => rw [if_neg h1] at h; cases h
  rw [if_pos h1] at h ⊢
  by_cases h2 : (numP (fndA (ab l) 51).1).2 = true
  case neg => rw [if_neg h2] at h; cases h
  rw [if_pos h2] at h ⊢
  have hr := numP_range (fndA (ab l) 51).1
  exact leaseT_le (timeP_range l 58 (by omega) (by omega)).1 hr.2 h
def recvP (s : Stn) (p : S38) (now : Int) : Stn × List S38 := recvF s p.f0 p.f1 p.f2 p.f3 p.f5 (leaseP p.f8).1 (leaseP p.f8).2.1 (leaseP p.f8).2.2.1 (leaseP p.f8).2.2.2 now
theorem vpk_of {p : S38} (hv : pkV p = true) : (0 ≤ p.f2 ∧ p.f2 < 65536) ∧ okA p.f5 ∧ p.f8.length ≤ 32 := by
  obtain ⟨h1, h2⟩ := vpk_parts hv
  refine ⟨h1.2.2.1, h1.2.2.2.2.2.1, ?_⟩
  have := h2.1.1
  rwa [ab_length] at this
theorem recv_good (hJ : J c h s) {p : S38} (hv : pkV p = true) (hf : Fit p) {now : Int} (hn : 0 ≤ now ∧ now ≤ 4294967295) : Good c h s (recvP s p now) := by
  obtain ⟨hsv, hy, _⟩ := vpk_of hv
  have hyb : okB p.f5 := ⟨hy, hf.b⟩
  have hse := hJ.se
  unfold recvP recvF
  split
  · exact Good.same hJ
  split
  · unfold offF
    split
    · rename_i hx
      have hx := hx.2.2.2
      have hx0 := hJ.x0
      have hJ2 : J c h (⟨s.c, s.h, s.st, s.xid, p.f2, p.f5, s.t1, s.t2, s.un, s.se, s.tr⟩ : Stn) := ⟨hJ.ec, hJ.eh, hJ.cli, hJ.host, hJ.x0, hJ.x1, hJ.se, hJ.t2, hJ.un, hJ.st, hJ.tr, hsv, hyb⟩
      exact ⟨⟨hJ.ec, hJ.eh, hJ.cli, hJ.host, by show 0 ≤ s.xid + 1; omega, by show s.xid + 1 ≤ 4294967295; omega, hn, hJ.t2, hJ.un, (by decide : (0 : Int) ≤ 2 ∧ (2 : Int) ≤ 5), fun _ => (by decide : (1 : Int) ≤ 1 ∧ (1 : Int) ≤ 4), hsv, hyb⟩, .inr ⟨_, rfl, rfl, msg_ok hJ2 (by show ¬ 4294967295 ≤ s.xid; omega) (by decide) hsv okB_zA (.want _)⟩⟩
    · exact Good.same hJ
  split
  · unfold ackF
    split
    · rename_i hk
      have hl := leaseP_le p.f8 hk.1
      exact ⟨⟨hJ.ec, hJ.eh, hJ.cli, hJ.host, hJ.x0, hJ.x1, hJ.se, ⟨by show 0 ≤ min _ _; omega, by show min _ _ ≤ _; omega⟩, ⟨by show 0 ≤ min _ _; omega, by show min _ _ ≤ _; omega⟩, (by decide : (0 : Int) ≤ 3 ∧ (3 : Int) ≤ 5), t12, hsv, hJ.a⟩, .inl ⟨rfl, rfl⟩⟩
    · exact Good.same hJ
  split
  · exact Good.init hJ
  · exact Good.same hJ
end
theorem hostOk_size {h : ByteArray} (hh : hostOk h = true) : h.size ≤ 63 := by
  unfold hostOk at hh
  rw [Bool.or_eq_true] at hh
  rcases hh with hh | hh
  · have e := beq_iff_eq.mp hh
    rw [toList_L] at e
    have := L_len h
    rw [e] at this
    simp at this; omega
  · rw [Bool.and_eq_true] at hh
    have h1 := of_decide_eq_true hh.1
    have hl : labL (L h) = true := Decidable.byContradiction (fun hl => by
      unfold joinL at h1; rw [if_neg (by simp), if_neg (by simp), if_neg (by simpa using hl)] at h1; exact absurd h1 (by decide))
    have := lab_len' hl
    rwa [L_len] at this
theorem J_new {c h : ByteArray} (hc : cli c = true) (hh : hostOk h = true) : J c h ⟨c, h, 0, 0, 0, zA, 0, 0, 0, 0, 0⟩ :=
  ⟨rfl, rfl, hc, hostOk_size hh, Int.le_refl 0, (by decide : (0 : Int) ≤ 4294967295), zr, zr, zr, zs, z12, zv, okB_zA⟩
def spOf (x : S40) (o : Value) : Array Value := spC x.f0 x.f1 x.f2.f0 x.f2.f1 x.f2.f2 x.f2.f3 x.f2.f4.f0 x.f2.f4.f1 x.f2.f4.f2 x.f2.f5.f0 x.f2.f5.f1 x.f2.f5.f2 x.f2.f6.f0 x.f2.f6.f1 x.f2.f6.f2 x.f2.f7 o x.f3
def msgP (x : S40) (xid : Int) (a : S26) : S38 := ⟨x.f2.f0, if x.f2.f1 < 0 then (if 0 < xid + x.f2.f1 + 1 then xid + x.f2.f1 + 1 else 0) else x.f2.f1, x.f2.f2, x.f2.f3, x.f2.f4, ⟨if x.f3 then a.f0 else x.f2.f5.f0, if x.f3 then a.f1 else x.f2.f5.f1, if x.f3 then a.f2 else x.f2.f5.f2⟩, x.f2.f6, x.f2.f7, x.f2.f8⟩
/-- What an argument's step keeps to. -/
def okS (x : S40) : Prop := (0 ≤ x.f0 ∧ x.f0 ≤ 255) ∧ (0 ≤ x.f1 ∧ x.f1 ≤ 4294967295) ∧ (-9223372036854775808 ≤ x.f2.f1 ∧ x.f2.f1 ≤ 9223372036854775807) ∧ 0 ≤ x.f2.f4.f2 ∧ 0 ≤ x.f2.f5.f2 ∧ 0 ≤ x.f2.f6.f2 ∧ ∀ o ∈ x.f2.f8, o.f1.size ≤ 140737488351232
instance (x : S40) : Decidable (okS x) := inferInstanceAs (Decidable (_ ∧ _ ∧ _ ∧ _ ∧ _ ∧ _ ∧ _))
theorem msgP_fit {x : S40} {xid : Int} {a : S26} (hx : okS x) (ha : okB a) : Fit (msgP x xid a) := by
  obtain ⟨_, _, _, h4, h5, h6, h7⟩ := hx
  refine ⟨h4, ?_, h6, h7⟩
  show 0 ≤ (if x.f3 = true then a.f2 else x.f2.f5.f2)
  split
  · exact ha.2
  · exact h5
theorem message_J (x : S40) (A : Option Addr) (n cc : Nat) (xid : Int) (a : S26) (w : World) (hx : 0 ≤ xid ∧ xid ≤ 4294967295) (ho : okS x) : Calls Tryz.prog 9 #[.agg (spOf x (.slice A n cc)), .int .i64 xid, .agg #[.bool a.f0, .int .u64 a.f1, .int .u64 a.f2]] w fun e w' => e = .returned (.agg (pkOf (msgP x xid a) (.slice A n cc))) ∧ Below w.heap.size w w' :=
  message_c x.f0 x.f1 x.f2.f0 x.f2.f1 x.f2.f2 x.f2.f3 x.f2.f4.f0 x.f2.f4.f1 x.f2.f4.f2 x.f2.f5.f0 x.f2.f5.f1 x.f2.f5.f2 x.f2.f6.f0 x.f2.f6.f1 x.f2.f6.f2 x.f2.f7 A n cc x.f3 xid a.f0 a.f1 a.f2 w hx ho.2.2.1
section
variable {c h : ByteArray} {s : Stn}
theorem tick_J (hJ : J c h s) (now : Int) (w : World) : Calls Tryz.prog 7 #[.agg (stA s), .int .i64 now] w (Ret (tickF s now) w) := tick_c s now w hJ.x0 hJ.se hJ.t2 hJ.un hJ.tr (want_f s.a)
theorem leave_J (hJ : J c h s) (now : Int) (w : World) : Calls Tryz.prog 13 #[.agg (stA s), .int .i64 now] w (Ret (giveF s 7) w) := leave_c s now w hJ.x0
theorem refuse_J (hJ : J c h s) (now : Int) (w : World) : Calls Tryz.prog 15 #[.agg (stA s), .int .i64 now] w (Ret (giveF s 4) w) := refuse_c s now w hJ.x0
theorem lease_J {p : S38} (hl : p.f8.length ≤ 32) : dhcp_Lease.f 1000 p.f0 p.f1 p.f2 p.f3 p.f4.f0 p.f4.f1 p.f4.f2 p.f5.f0 p.f5.f1 p.f5.f2 p.f6.f0 p.f6.f1 p.f6.f2 p.f7 p.f8 = some (leaseP p.f8) := lease_f _ _ _ _ _ _ _ _ _ _ _ _ _ _ p.f8 (by omega) 1000 (by omega) (by omega)
theorem recv_J (hJ : J c h s) {p : S38} (hv : pkV p = true) (A : Option Addr) (cc : Nat) (B : Nat → Prop) (now : Int) (w : World) (hB : Foot (fun W => Kd.C k62 W A p.f8.length p.f8) w B) (hc : p.f8.length ≤ cc) : Calls Tryz.prog 11 #[.agg (stA s), .agg (pkOf p (.slice A p.f8.length cc)), .int .i64 now] w (Ret (recvP s p now) w) :=
  recv_c s p.f0 p.f1 p.f2 p.f3 p.f4.f0 p.f4.f1 p.f4.f2 p.f5 p.f6.f0 p.f6.f1 p.f6.f2 p.f7 A cc p.f8 B _ _ _ _ now w hJ.x0 hJ.se (valid_of p.f5) (want_f p.f5) hB hc (lease_J (vpk_of hv).2.2) (leaseP_le p.f8)
theorem valid_J {p : S38} (hf : Fit p) (A : Option Addr) (cc : Nat) (w : World) (hr : Kd.C k62 w A p.f8.length p.f8) (hc : p.f8.length ≤ cc) : Calls Tryz.prog 10 #[.agg (pkOf p (.slice A p.f8.length cc))] w fun e w' => e = .returned (.bool (pkV p)) ∧ Below w.heap.size w w' :=
  ddiref36_Valid.calls 300 _ _ _ _ _ _ _ _ _ _ _ _ _ _ A cc p.f8 _ w hr hc (pkV_f p hf 300 (by omega))
end
/-- A step of the argument's row, read in any later world. -/
theorem row_at {w : World} {A : Option Addr} {l : List S40} (hr : Kd.C k40 w A l.length l) (i : Nat) (hi : i < l.length) : ∃ ad A16 c16, A = some ad ∧ (l[i]).f2.f8.length ≤ c16 ∧ Kd.C k62 w A16 (l[i]).f2.f8.length (l[i]).f2.f8 ∧
    (∀ W, Below w.heap.size w W → W.cell? (ad.add (i * 18)) = some (.int .u8 (l[i]).f0)) ∧ (∀ W, Below w.heap.size w W → W.cell? ⟨(ad.add (i * 18)).block, (ad.add (i * 18)).off + 1, none⟩ = some (.int .u32 (l[i]).f1)) ∧
    (∀ W, Below w.heap.size w W → (loadVar 40 (ad.add (i * 18))).run Tryz.prog W = .ok (.agg (spOf l[i] (.slice A16 (l[i]).f2.f8.length c16))) W) := by
  obtain ⟨ad, cs, e, _, hK, hc0⟩ := Kd.C_get hr z40 i (by omega) (by omega)
  have ei : l.getD (i : Int).toNat z40 = l[i] := by simp [hi]
  rw [ei] at hK
  obtain ⟨A16, c16, rfl, l16, g16⟩ := k40_open hK
  have hall : ∀ W, Below w.heap.size w W → ∀ j u, (spOf l[i] (.slice A16 (l[i]).f2.f8.length c16)).toList[j]? = some u → W.cell? ((ad.add (i * 18)).add j) = some u := fun W hb j u hu => by
    have h0 : w.cell? (ad.add (i * 18 + j)) = some u := hc0 j u hu
    rw [add_add]
    exact (hb.cell (World.block_lt_of_cell? w _ h0)).trans h0
  refine ⟨ad, A16, c16, e, l16, g16, fun W hb => hall W hb 0 _ rfl, fun W hb => ?_, fun W hb => ?_⟩
  · rw [← add_field _ _ 1 (by omega)]; have := hall W hb 1 _ rfl; rw [add_add] at this; exact this
  · exact run_rowld _ Tryz.underlying40 rfl _ _ kk W (hall W hb)
theorem message_P {x : S40} {p : S38} (A : Option Addr) (cc : Nat) {xid : Int} {a : S26} (hp : msgP x xid a = p) (w : World) (hx : 0 ≤ xid ∧ xid ≤ 4294967295) (ho : okS x) : Calls Tryz.prog 9 #[.agg (spOf x (.slice A p.f8.length cc)), .int .i64 xid, .agg #[.bool a.f0, .int .u64 a.f1, .int .u64 a.f2]] w fun e w' => e = .returned (.agg (pkOf p (.slice A p.f8.length cc))) ∧ Below w.heap.size w w' := by
  subst hp; exact message_J x A _ cc xid a w hx ho
theorem validB {p : S38} {b : Bool} (hv : pkV p = b) (hf : Fit p) (A : Option Addr) (cc : Nat) (w : World) (hr : Kd.C k62 w A p.f8.length p.f8) (hc : p.f8.length ≤ cc) : Calls Tryz.prog 10 #[.agg (pkOf p (.slice A p.f8.length cc))] w fun e w' => e = .returned (.bool b) ∧ Below w.heap.size w w' := by
  subst hv; exact valid_J hf A cc w hr hc
/-- A bound station has sent its message once. -/
def T0 (s : Stn) : Prop := s.st = 3 ∨ s.st = 4 ∨ s.st = 5 → s.tr = 0
theorem T0.z {s : Stn} (h : s.st = 0 ∨ s.st = 1 ∨ s.st = 2) : T0 s := fun hq => by omega
section
variable {c h : ByteArray} {s : Stn}
theorem rtick_J (hJ : J c h s) (hT : T0 s) (now : Int) (w : World) : Calls Tryz.prog 8 #[.agg (stA s), .int .i64 now] w (Ret (tickF s now) w) := rtick_c s now _ w hJ.st hJ.tr hT hJ.x0 hJ.se hJ.t2 hJ.un (rwant_f s.a hJ.a.2)
theorem rleave_J (hJ : J c h s) (now : Int) (w : World) : Calls Tryz.prog 14 #[.agg (stA s), .int .i64 now] w (Ret (giveF s 7) w) := rleave_c s now _ w hJ.st hJ.x0 (rwant_f s.a hJ.a.2)
theorem rrefuse_J (hJ : J c h s) (now : Int) (w : World) : Calls Tryz.prog 16 #[.agg (stA s), .int .i64 now] w (Ret (giveF s 4) w) := rrefuse_c s now _ w hJ.st hJ.x0 (rwant_f s.a hJ.a.2)
theorem rlease_J {p : S38} (hl : p.f8.length ≤ 32) : ddiref36_Lease.f 1000 p.f0 p.f1 p.f2 p.f3 p.f4.f0 p.f4.f1 p.f4.f2 p.f5.f0 p.f5.f1 p.f5.f2 p.f6.f0 p.f6.f1 p.f6.f2 p.f7 p.f8 = some (leaseP p.f8) := rlease_f _ _ _ _ _ _ _ _ _ _ _ _ _ _ p.f8 (by omega) 1000 (by omega) (by omega)
theorem rrecv_J (hJ : J c h s) {p : S38} (hv : pkV p = true) (hf : Fit p) (A : Option Addr) (cc : Nat) (now : Int) (w : World) (hr : Kd.C k62 w A p.f8.length p.f8) (hc : p.f8.length ≤ cc) : Calls Tryz.prog 12 #[.agg (stA s), .agg (pkOf p (.slice A p.f8.length cc)), .int .i64 now] w (Ret (recvP s p now) w) :=
  rrecv_c s p A cc _ _ _ _ now _ w hJ.st hJ.x0 hJ.se hr hc (rlease_J (vpk_of hv).2.2) (leaseP_le p.f8) (rwant_f p.f5 hf.b)
theorem step_T {ki sv : Int} {cur : S26} {l : List S62} {state tr now : Int} (hT : T0 s) (h : state = 3 ∨ state = 4 ∨ state = 5 → tr = 0) : T0 (stepF s ki sv cur l state tr now).1 := by
  unfold stepF; split
  · exact hT
  · exact h
theorem tick_T (hJ : J c h s) (hT : T0 s) (now : Int) : T0 (tickF s now).1 := by
  have hst := hJ.st
  unfold tickF
  by_cases h0 : s.st = 0
  · rw [if_pos h0]; exact step_T hT (fun hq => by omega)
  rw [if_neg h0]
  by_cases h1 : s.st = 1 ∨ s.st = 2
  · rw [if_pos h1]
    unfold askF
    split
    · exact hT
    split
    · exact T0.z (.inl rfl)
    split
    · exact step_T hT (fun hq => by omega)
    · exact step_T hT (fun hq => by omega)
  rw [if_neg h1]
  have h2 : s.tr = 0 := hT (by omega)
  unfold renewF
  split
  · exact T0.z (.inl rfl)
  split
  · exact step_T hT (fun _ => h2)
  split
  · exact step_T hT (fun _ => h2)
  split
  · exact step_T hT (fun _ => h2)
  split
  · exact step_T hT (fun _ => h2)
  · exact hT
theorem give_T (hT : T0 s) (ki : Int) : T0 (giveF s ki).1 := by
  unfold giveF
  split
  · split
    · exact T0.z (.inl rfl)
    · exact T0.z (.inl rfl)
  · exact hT
theorem recv_T (hT : T0 s) (p : S38) (now : Int) : T0 (recvP s p now).1 := by
  unfold recvP recvF
  split
  · exact hT
  split
  · unfold offF
    split
    · exact T0.z (.inr (.inr rfl))
    · exact hT
  split
  · unfold ackF
    split
    · exact fun _ => rfl
    · exact hT
  split
  · exact T0.z (.inl rfl)
  · exact hT
end
/-- What the messages of a call keep to, as far as their comparison asks. -/
def Few (l : List S38) : Prop := l.length ≤ 1 ∧ ∀ m ∈ l, m.f8.length ≤ 32
theorem Good.few {c h : ByteArray} {s : Stn} {r : Stn × List S38} (hG : Good c h s r) : Few r.2 := by
  obtain ⟨_, ⟨hl, _⟩ | ⟨m, hl, _, hM⟩⟩ := hG
  · rw [hl]; exact ⟨Nat.zero_le _, fun m hm => by cases hm⟩
  · rw [hl]; exact ⟨Nat.le_refl _, fun x hx => by rw [List.mem_singleton] at hx; subst hx; exact (vpk_of hM.v).2.2⟩
theorem ret_at {id : FuncId} {args : Array Value} {w : World} {f : Stn × List S38} {s : Stn} {l : List S38} (h : Calls Tryz.prog id args w (Ret f w)) (e : f = (s, l)) : Calls Tryz.prog id args w fun e w' => ∃ v, e = .returned (.tuple #[.agg (stA s), v]) ∧ Foot (Pks v l) w' (fun k => w.heap.size ≤ k) ∧ Below w.heap.size w w' := by
  subst e; exact h
theorem ld_stAS {s' : Stn} : Ld Tryz.prog 28 (stA s') 0 (.agg (stA s')) := ld_row _ Tryz.underlying28 rfl kk
theorem sr_stAS {s' : Stn} {cs : Array Value} (hs : cs.size = 13 := by rfl) : Sr Tryz.prog 28 cs 0 (.agg (stA s')) (stA s') := sr_row kk (by rw [hs]; rfl) (by simp [stA, stC, Value.oneCell'])
theorem eqAR (d : Nat) (w : World) (x0 y0 : ByteArray) (x1 y1 : ByteArray) (x2 y2 : Int) (x3 y3 : Int) (x4 y4 : Int) (x5 y5 : Bool) (x6 y6 : Int) (x7 y7 : Int) (x8 y8 : Int) (x9 y9 : Int) (x10 y10 : Int) (x11 y11 : Int) (x12 y12 : Int) :
  (Op.equalIn (d + 3) 32 (.agg (stC x0 x1 x2 x3 x4 x5 x6 x7 x8 x9 x10 x11 x12)) (.agg (stC y0 y1 y2 y3 y4 y5 y6 y7 y8 y9 y10 y11 y12))).run Tryz.prog w = .ok (x0.toList == y0.toList && (x1.toList == y1.toList && (x2 == y2 && (x3 == y3 && (x4 == y4 && ((x5 == y5 && (x6 == y6 && (x7 == y7))) && (x8 == y8 && (x9 == y9 && (x10 == y10 && (x11 == y11 && (x12 == y12))))))))))) w := by
 unfold stC
 refine eqA_of Tryz.underlying32 kk ?_
 refine eqf_cons (by rfl) (by go_simp; rfl) (by go_simp; rfl) (by go_simp) ?_
 refine eqf_cons (by rfl) (by go_simp; rfl) (by go_simp; rfl) (by go_simp) ?_
 refine eqf_cons (by rfl) (by go_simp; rfl) (by go_simp; rfl) (by go_simp) ?_
 refine eqf_cons (by rfl) (by go_simp; rfl) (by go_simp; rfl) (by go_simp) ?_
 refine eqf_cons (by rfl) (by go_simp; rfl) (by go_simp; rfl) (by go_simp) ?_
 refine eqf_cons (by rfl) (by go_simp) (by go_simp) (eqA26 (d + 0) w _ _ _ _ _ _) ?_
 refine eqf_cons (by rfl) (by go_simp; rfl) (by go_simp; rfl) (by go_simp) ?_
 refine eqf_cons (by rfl) (by go_simp; rfl) (by go_simp; rfl) (by go_simp) ?_
 refine eqf_cons (by rfl) (by go_simp; rfl) (by go_simp; rfl) (by go_simp) ?_
 refine eqf_cons (by rfl) (by go_simp; rfl) (by go_simp; rfl) (by go_simp) ?_
 exact eqf_last (by rfl) (by go_simp; rfl) (by go_simp; rfl) (by go_simp)
theorem eqSelf (d : Nat) (w : World) (x0 x1 : ByteArray) (x2 x3 x4 : Int) (x5 : Bool) (x6 x7 x8 x9 x10 x11 x12 : Int) : (Op.equalIn (d + 3) 32 (.agg (stC x0 x1 x2 x3 x4 x5 x6 x7 x8 x9 x10 x11 x12)) (.agg (stC x0 x1 x2 x3 x4 x5 x6 x7 x8 x9 x10 x11 x12))).run Tryz.prog w = .ok true w := by
 rw [eqAR]; simp
section
attribute [local go_sem high] eqSelf
theorem ne0T {o : Oper} {a : Act} {x y : Operand} {x0 x1 : ByteArray} {x2 x3 x4 : Int} {x5 : Bool} {x6 x7 x8 x9 x10 x11 x12 : Int} {w : World} (ho : o.op = .binOp .neq 32 x y 32) (hx : a.eval x = .agg (stC x0 x1 x2 x3 x4 x5 x6 x7 x8 x9 x10 x11 x12)) (hy : a.eval y = .agg (stC x0 x1 x2 x3 x4 x5 x6 x7 x8 x9 x10 x11 x12)) : (execOp a.eval o).run Tryz.prog w = .ok (.value (.bool false)) w := by
  unfold execOp
  simp only [ho, hx, hy]
  go_simp
end
theorem ne0E {o : Oper} {a : Act} {x y : Operand} {m : Int} {w : World} (ho : o.op = .binOp .neq 29 x y 29) (hx : a.eval x = .int .i64 m) (hy : a.eval y = .int .i64 m) : (execOp a.eval o).run Tryz.prog w = .ok (.value (.bool false)) w := by
  unfold execOp
  simp only [ho, hx, hy]
  go_simp
theorem pks0 (W : World) : Pks (.slice none 0 0) [] W := ⟨none, 0, rfl, Nat.le_refl _, Kd.C_nil _ _⟩
def frP (client host : ByteArray) (now : Int) (A : Option Addr) (n cc g9 g11 : Nat) (at_ i : Int) (v15 v16 v72 : Value) (u : Nat → Value) : Array Value := #[.string client, .string host, .int .u32 now, .slice A n cc, u 4, u 5, u 6, u 7, u 8, .pointer (some ⟨g9, 0, none⟩), u 10, .pointer (some ⟨g11, 0, none⟩), u 12, .int .i64 at_, .int .i64 i, v15, v16, u 17, u 18, u 19, u 20, u 21, u 22, u 23, u 24, u 25, u 26, u 27, u 28, u 29, u 30, u 31, u 32, u 33, u 34, u 35, u 36, u 37, u 38, u 39, u 40, u 41, u 42, u 43, u 44, u 45, u 46, u 47, u 48, u 49, u 50, u 51, u 52, u 53, u 54, u 55, u 56, u 57, u 58, u 59, u 60, u 61, u 62, u 63, u 64, u 65, u 66, u 67, u 68, u 69, u 70, u 71, v72, u 73, u 74, u 75, u 76, u 77, u 78, u 79, u 80, u 81, u 82, u 83, u 84, u 85, u 86, u 87, u 88, u 89, u 90, u 91, u 92, u 93, u 94, u 95, u 96, u 97, u 98, u 99, u 100, u 101, u 102, u 103, u 104, u 105, u 106, u 107, u 108, u 109, u 110, u 111, u 112, u 113, u 114, u 115, u 116, u 117, u 118, u 119, u 120, u 121, u 122, u 123, u 124, u 125, u 126, u 127, u 128, u 129, u 130, u 131, u 132, u 133, u 134, u 135, u 136, u 137, u 138, u 139, u 140, u 141, u 142, u 143, u 144, u 145, u 146, u 147, u 148, u 149, u 150, u 151, u 152, u 153, u 154, u 155, u 156, u 157, u 158, u 159, u 160, u 161, u 162, u 163, u 164, u 165, u 166, u 167, u 168, u 169, u 170, u 171, u 172, u 173, u 174]
/-- Between the rounds. -/
def pR0 (client host : ByteArray) (now : Int) (A : Option Addr) (n cc g9 g11 : Nat) (w : World) (i : Nat) (a : Act) (wr : World) : Prop := ∃ (s : Stn) (at_ : Int) (v15 v16 v72 : Value) (u : Nat → Value), a = ⟨frP client host now A n cc g9 g11 at_ i v15 v16 v72 u, []⟩ ∧ J client host s ∧ T0 s ∧ (0 ≤ at_ ∧ at_ ≤ 4294967295) ∧ BQ.Inv (fun _ => False) w [(g11, 32, stA s), (g9, 28, stA s)] (fun _ => True) wr
/-- Behind the calls. -/
def pR2 (client host : ByteArray) (now : Int) (A : Option Addr) (n cc g9 g11 : Nat) (w : World) (i : Nat) (at_ : Int) (a : Act) (wr : World) : Prop := ∃ (s : Stn) (l : List S38) (v15 v16 v72 : Value) (u : Nat → Value), a = ⟨frP client host now A n cc g9 g11 at_ i v15 v16 v72 u, []⟩ ∧ J client host s ∧ T0 s ∧ Few l ∧ BQ.Inv (fun _ => False) w [(g11, 32, stA s), (g9, 28, stA s)] (fun W => Pks v15 l W ∧ Pks v16 l W) wr
section
variable {client host : ByteArray} {now at_ : Int} {n cc g9 g11 i : Nat} {A : Option Addr} {w wr : World} {s : Stn} {l : List S38} {v15 v16 : Value} {a : Act} {c : Code} {P : Program} {Q : Exit → Act → World → Prop}
theorem pR2_mk (e : a = ⟨frP client host now A n cc g9 g11 at_ i v15 v16 (a.tmps.toList.getD 72 undef) (fun k => a.tmps.toList.getD k undef), []⟩) (hJ : J client host s) (hT : T0 s) (hF : Few l) (I : BQ.Inv (fun _ => False) w [(g11, 32, stA s), (g9, 28, stA s)] (fun W => Pks v15 l W ∧ Pks v16 l W) wr) : pR2 client host now A n cc g9 g11 w i at_ a wr := ⟨s, l, _, _, _, _, e, hJ, hT, hF, I⟩
theorem pR0_mk (e : a = ⟨frP client host now A n cc g9 g11 at_ i (a.tmps.toList.getD 15 undef) (a.tmps.toList.getD 16 undef) (a.tmps.toList.getD 72 undef) (fun k => a.tmps.toList.getD k undef), []⟩) (hJ : J client host s) (hT : T0 s) (ha : (0 ≤ at_ ∧ at_ ≤ 4294967295)) (I : BQ.Inv (fun _ => False) w [(g11, 32, stA s), (g9, 28, stA s)] (fun _ => True) wr) : pR0 client host now A n cc g9 g11 w i a wr := ⟨s, at_, _, _, _, _, e, hJ, hT, ha, I⟩
theorem at_frP {v15 v16 v72 : Value} (e : a = ⟨frP client host now A n cc g9 g11 at_ i v15 v16 v72 (fun k => a.tmps.toList.getD k undef), []⟩) (h : ∀ u, c.wp P Q ⟨frP client host now A n cc g9 g11 at_ i v15 v16 v72 u, []⟩ wr) : c.wp P Q a wr := by
  rw [e]; exact h _
end
end Go.Proofs.YtlabnocmmeciaaaGreatDoor.LAW
namespace Go.Proofs.YtlabnocmmeciaaaGreatDoor.LAW
open Go RowKit YtlabnocmmeciaaaGreatDoorW.PrintWords YtlabnocmmeciaaaGreatDoorW.PrintLast YtlabnocmmeciaaaGreatDoorW.PrintMore Pa STN DN OPT PLN BQ
section
variable {client host : ByteArray} {now at_ : Int} {n cc g9 g11 i : Nat} {ad : Addr} {A16 : Option Addr} {c16 : Nat} {w wr : World} {u : Nat → Value} {s : Stn} {K : Act → World → Prop} {Q : Exit → Act → World → Prop} {x : S40}
theorem pl_tick (hJ : J client host s) (hT : T0 s) (hat : (0 ≤ at_ ∧ at_ ≤ 4294967295)) (hi_ : BQ.Inv (fun _ => False) w [(g11, 32, stA s), (g9, 28, stA s)] (fun _ => True) wr) (hxs : okS x) (hm : x.f0 % 5 = 0) (hK : ∀ a' w', pR2 client host now (some ad) n cc g9 g11 w i at_ a' w' → K a' w') : Code.wp Tryz.prog (csnd (cfst (csnd (csnd (cblk (cfst (csnd (clp (cblk (csnd (cfst (csnd (csnd (csnd (csnd (csnd (csnd (cbody Tryz.f3)))))))))))))))))) (Exit.then K Q) ⟨frP client host now (some ad) n cc g9 g11 at_ i (.slice none 0 0) (.slice none 0 0) (.int .u8 (x.f0 % 5)) u, []⟩ wr := by
 dsimp only [cbody, cfst, csnd, cblk, clp, Tryz.f3, Option.getD]
 dsimp only [frP]
 have I := Aside0.mk hi_
 clear hi_
 replace hK := Aside0.mk hK
 replace hJ := Aside0.mk hJ
 replace hT := Aside0.mk hT
 replace hat := Aside0.mk hat
 replace hxs := Aside0.mk hxs
 have hu26 := Tryz.underlying28
 have hu39 := Tryz.underlying38
 have hu24 := Tryz.underlying26
 have r0 : (x.f0 % 5 == 0) = true := by rw [hm]; rfl
 clear hm
 have hG := tick_good hJ.out hat.out
 have hJ' := hG.1
 have hT' := tick_T hJ.out hT.out at_
 have hF' := hG.few
 clear hG
 obtain ⟨s', l', hf_⟩ : ∃ s' l', tickF s at_ = (s', l') := ⟨_, _, rfl⟩
 rw [hf_] at hJ' hT' hF'
 replace hJ' := Aside0.mk hJ'
 replace hT' := Aside0.mk hT'
 replace hF' := Aside0.mk hF'
 replace hf_ := Aside0.mk hf_
 go_wp2_with (first
  | (refine gD 76 rfl ?_; refine ll rfl rfl rfl I mm1 ld_stAS ?_)
  | (refine gD 82 rfl ?_; refine ll rfl rfl rfl I mm0 ld_stAR ?_)
  | (refine gD 78 rfl ?_; refine ck rfl Tryz.func7 kk rfl #[.agg (stA s), .int .i64 at_] rfl zh (ret_at (tick_J hJ.out at_ _) hf_.out) ?_; rintro e_ w1 ⟨v1, rfl, hf, hb⟩; refine ⟨_, rfl, ?_⟩; replace I := addK I hb hf; clear hb hf)
  | (refine gD 84 rfl ?_; refine ck rfl Tryz.func8 kk rfl #[.agg (stA s), .int .i64 at_] rfl zh (ret_at (rtick_J hJ.out hT.out at_ _) hf_.out) ?_; rintro e_ w1 ⟨v2, rfl, hf, hb⟩; refine ⟨_, rfl, ?_⟩; replace I := addK I hb hf; clear hb hf)
  | (refine gS rfl ?_; refine sk rfl rfl rfl rfl rfl I zm (by first | exact sr_stAS | exact sr_stAR) zu ?_; clear I; intro w1 I)
  )
 try refine hK.out _ _ ?_
 refine pR2_mk (A := some ad) (v15 := v1) (v16 := v2) (l := l') ?_ hJ'.out hT'.out hF'.out ((I.out.sub (.cons_cons _ (.cons_cons _ .slnil))).imp (fun W hW => ⟨hW.1.2, hW.2⟩))
 kernel_rfl
theorem pl_leave (hJ : J client host s) (hT : T0 s) (hat : (0 ≤ at_ ∧ at_ ≤ 4294967295)) (hi_ : BQ.Inv (fun _ => False) w [(g11, 32, stA s), (g9, 28, stA s)] (fun _ => True) wr) (hxs : okS x) (hm : x.f0 % 5 = 2) (hK : ∀ a' w', pR2 client host now (some ad) n cc g9 g11 w i at_ a' w' → K a' w') : Code.wp Tryz.prog (csnd (cfst (csnd (csnd (cblk (cfst (csnd (clp (cblk (csnd (cfst (csnd (csnd (csnd (csnd (csnd (csnd (cbody Tryz.f3)))))))))))))))))) (Exit.then K Q) ⟨frP client host now (some ad) n cc g9 g11 at_ i (.slice none 0 0) (.slice none 0 0) (.int .u8 (x.f0 % 5)) u, []⟩ wr := by
 dsimp only [cbody, cfst, csnd, cblk, clp, Tryz.f3, Option.getD]
 dsimp only [frP]
 have I := Aside0.mk hi_
 clear hi_
 replace hK := Aside0.mk hK
 replace hJ := Aside0.mk hJ
 replace hT := Aside0.mk hT
 replace hat := Aside0.mk hat
 replace hxs := Aside0.mk hxs
 have hu26 := Tryz.underlying28
 have hu39 := Tryz.underlying38
 have hu24 := Tryz.underlying26
 have r0 : (x.f0 % 5 == 0) = false := by rw [hm]; rfl
 have r1 : (x.f0 % 5 == 1) = false := by rw [hm]; rfl
 have r2 : (x.f0 % 5 == 2) = true := by rw [hm]; rfl
 clear hm
 have hG := give_good hJ.out (ki := 7) (by decide)
 have hJ' := hG.1
 have hT' := give_T hT.out 7
 have hF' := hG.few
 clear hG
 obtain ⟨s', l', hf_⟩ : ∃ s' l', giveF s 7 = (s', l') := ⟨_, _, rfl⟩
 rw [hf_] at hJ' hT' hF'
 replace hJ' := Aside0.mk hJ'
 replace hT' := Aside0.mk hT'
 replace hF' := Aside0.mk hF'
 replace hf_ := Aside0.mk hf_
 go_wp2_with (first
  | (refine gD 118 rfl ?_; refine ll rfl rfl rfl I mm1 ld_stAS ?_)
  | (refine gD 124 rfl ?_; refine ll rfl rfl rfl I mm0 ld_stAR ?_)
  | (refine gD 120 rfl ?_; refine ck rfl Tryz.func13 kk rfl #[.agg (stA s), .int .i64 at_] rfl zh (ret_at (leave_J hJ.out at_ _) hf_.out) ?_; rintro e_ w1 ⟨v1, rfl, hf, hb⟩; refine ⟨_, rfl, ?_⟩; replace I := addK I hb hf; clear hb hf)
  | (refine gD 126 rfl ?_; refine ck rfl Tryz.func14 kk rfl #[.agg (stA s), .int .i64 at_] rfl zh (ret_at (rleave_J hJ.out at_ _) hf_.out) ?_; rintro e_ w1 ⟨v2, rfl, hf, hb⟩; refine ⟨_, rfl, ?_⟩; replace I := addK I hb hf; clear hb hf)
  | (refine gS rfl ?_; refine sk rfl rfl rfl rfl rfl I zm (by first | exact sr_stAS | exact sr_stAR) zu ?_; clear I; intro w1 I)
  )
 try refine hK.out _ _ ?_
 refine pR2_mk (A := some ad) (v15 := v1) (v16 := v2) (l := l') ?_ hJ'.out hT'.out hF'.out ((I.out.sub (.cons_cons _ (.cons_cons _ .slnil))).imp (fun W hW => ⟨hW.1.2, hW.2⟩))
 kernel_rfl
theorem pl_refuse (hJ : J client host s) (hT : T0 s) (hat : (0 ≤ at_ ∧ at_ ≤ 4294967295)) (hi_ : BQ.Inv (fun _ => False) w [(g11, 32, stA s), (g9, 28, stA s)] (fun _ => True) wr) (hxs : okS x) (hm : x.f0 % 5 = 3) (hK : ∀ a' w', pR2 client host now (some ad) n cc g9 g11 w i at_ a' w' → K a' w') : Code.wp Tryz.prog (csnd (cfst (csnd (csnd (cblk (cfst (csnd (clp (cblk (csnd (cfst (csnd (csnd (csnd (csnd (csnd (csnd (cbody Tryz.f3)))))))))))))))))) (Exit.then K Q) ⟨frP client host now (some ad) n cc g9 g11 at_ i (.slice none 0 0) (.slice none 0 0) (.int .u8 (x.f0 % 5)) u, []⟩ wr := by
 dsimp only [cbody, cfst, csnd, cblk, clp, Tryz.f3, Option.getD]
 dsimp only [frP]
 have I := Aside0.mk hi_
 clear hi_
 replace hK := Aside0.mk hK
 replace hJ := Aside0.mk hJ
 replace hT := Aside0.mk hT
 replace hat := Aside0.mk hat
 replace hxs := Aside0.mk hxs
 have hu26 := Tryz.underlying28
 have hu39 := Tryz.underlying38
 have hu24 := Tryz.underlying26
 have r0 : (x.f0 % 5 == 0) = false := by rw [hm]; rfl
 have r1 : (x.f0 % 5 == 1) = false := by rw [hm]; rfl
 have r2 : (x.f0 % 5 == 2) = false := by rw [hm]; rfl
 have r3 : (x.f0 % 5 == 3) = true := by rw [hm]; rfl
 clear hm
 have hG := give_good hJ.out (ki := 4) (by decide)
 have hJ' := hG.1
 have hT' := give_T hT.out 4
 have hF' := hG.few
 clear hG
 obtain ⟨s', l', hf_⟩ : ∃ s' l', giveF s 4 = (s', l') := ⟨_, _, rfl⟩
 rw [hf_] at hJ' hT' hF'
 replace hJ' := Aside0.mk hJ'
 replace hT' := Aside0.mk hT'
 replace hF' := Aside0.mk hF'
 replace hf_ := Aside0.mk hf_
 go_wp2_with (first
  | (refine gD 132 rfl ?_; refine ll rfl rfl rfl I mm1 ld_stAS ?_)
  | (refine gD 138 rfl ?_; refine ll rfl rfl rfl I mm0 ld_stAR ?_)
  | (refine gD 134 rfl ?_; refine ck rfl Tryz.func15 kk rfl #[.agg (stA s), .int .i64 at_] rfl zh (ret_at (refuse_J hJ.out at_ _) hf_.out) ?_; rintro e_ w1 ⟨v1, rfl, hf, hb⟩; refine ⟨_, rfl, ?_⟩; replace I := addK I hb hf; clear hb hf)
  | (refine gD 140 rfl ?_; refine ck rfl Tryz.func16 kk rfl #[.agg (stA s), .int .i64 at_] rfl zh (ret_at (rrefuse_J hJ.out at_ _) hf_.out) ?_; rintro e_ w1 ⟨v2, rfl, hf, hb⟩; refine ⟨_, rfl, ?_⟩; replace I := addK I hb hf; clear hb hf)
  | (refine gS rfl ?_; refine sk rfl rfl rfl rfl rfl I zm (by first | exact sr_stAS | exact sr_stAR) zu ?_; clear I; intro w1 I)
  )
 try refine hK.out _ _ ?_
 refine pR2_mk (A := some ad) (v15 := v1) (v16 := v2) (l := l') ?_ hJ'.out hT'.out hF'.out ((I.out.sub (.cons_cons _ (.cons_cons _ .slnil))).imp (fun W hW => ⟨hW.1.2, hW.2⟩))
 kernel_rfl
theorem pl_holds (hJ : J client host s) (hT : T0 s) (hat : (0 ≤ at_ ∧ at_ ≤ 4294967295)) (hi_ : BQ.Inv (fun _ => False) w [(g11, 32, stA s), (g9, 28, stA s)] (fun _ => True) wr) (hxs : okS x) (hm : x.f0 % 5 = 4) (hK : ∀ a' w', pR2 client host now (some ad) n cc g9 g11 w i at_ a' w' → K a' w') : Code.wp Tryz.prog (csnd (cfst (csnd (csnd (cblk (cfst (csnd (clp (cblk (csnd (cfst (csnd (csnd (csnd (csnd (csnd (csnd (cbody Tryz.f3)))))))))))))))))) (Exit.then K Q) ⟨frP client host now (some ad) n cc g9 g11 at_ i (.slice none 0 0) (.slice none 0 0) (.int .u8 (x.f0 % 5)) u, []⟩ wr := by
 dsimp only [cbody, cfst, csnd, cblk, clp, Tryz.f3, Option.getD]
 dsimp only [frP]
 have I := Aside0.mk hi_
 clear hi_
 replace hK := Aside0.mk hK
 replace hJ := Aside0.mk hJ
 replace hT := Aside0.mk hT
 replace hat := Aside0.mk hat
 replace hxs := Aside0.mk hxs
 have hu26 := Tryz.underlying28
 have hu39 := Tryz.underlying38
 have hu24 := Tryz.underlying26
 have r0 : (x.f0 % 5 == 0) = false := by rw [hm]; rfl
 have r1 : (x.f0 % 5 == 1) = false := by rw [hm]; rfl
 have r2 : (x.f0 % 5 == 2) = false := by rw [hm]; rfl
 have r3 : (x.f0 % 5 == 3) = false := by rw [hm]; rfl
 have r4 : (x.f0 % 5 == 4) = true := by rw [hm]; rfl
 clear hm
 have hst := hJ.out.st
 obtain ⟨⟨y0, y1, y2⟩, yb, hf_⟩ : ∃ y yb, holdsF s at_ = (y, yb) := ⟨_, _, rfl⟩
 replace hst := Aside0.mk hst
 replace hf_ := Aside0.mk hf_
 have h1 : ∀ w1, Calls Tryz.prog 17 #[.agg (stA s), .int .i64 at_] w1 (fun e w' => e = .returned (.tuple #[.agg #[.bool y0, .int .u64 y1, .int .u64 y2], .bool yb]) ∧ Below w1.heap.size w1 w') := fun w1 => by have h := holds_c s at_ w1; rw [hf_.out] at h; exact h
 have h2 : ∀ w1, Calls Tryz.prog 18 #[.agg (stA s), .int .i64 at_] w1 (fun e w' => e = .returned (.tuple #[.agg #[.bool y0, .int .u64 y1, .int .u64 y2], .bool yb]) ∧ Below w1.heap.size w1 w') := fun w1 => by have h := rholds_c s at_ w1 hst.out; rw [hf_.out] at h; exact h
 replace h1 := Aside0.mk h1
 replace h2 := Aside0.mk h2
 go_wp2_with (first
  | (refine ak rfl (al_A rfl) I ?_; clear I; intro gb w1 I)
  | (refine gD 146 rfl ?_; refine ll rfl rfl rfl I mm1 ld_stAS ?_)
  | (refine gD 152 rfl ?_; refine ll rfl rfl rfl I mm1 ld_stAR ?_)
  | (refine gD 157 rfl ?_; refine ll rfl rfl rfl I mm1 ld_ad ?_)
  | (refine gD 158 rfl ?_; refine ll rfl rfl rfl I mm0 ld_ad ?_)
  | (refine gD 148 rfl ?_; refine ck rfl Tryz.func17 kk rfl #[.agg (stA s), .int .i64 at_] rfl zh (h1.out _) ?_; rintro e_ w1 ⟨rfl, hb⟩; refine ⟨_, rfl, ?_⟩; replace I := callK I hb; clear hb)
  | (refine gD 154 rfl ?_; refine ck rfl Tryz.func18 kk rfl #[.agg (stA s), .int .i64 at_] rfl zh (h2.out _) ?_; rintro e_ w1 ⟨rfl, hb⟩; refine ⟨_, rfl, ?_⟩; replace I := callK I hb; clear hb)
  | (refine gD 159 rfl ?_; refine vk rfl (ne0A rfl rfl rfl) ?_)
  | (refine gD 163 rfl ?_; refine vk rfl (ne0B rfl rfl rfl) ?_)
  | (refine gS rfl ?_; refine sk rfl rfl rfl rfl rfl I zm (by first | exact sr_ad) zu ?_; clear I; intro w1 I)
  )
 try (refine hK.out _ _ ?_)
 refine pR2_mk (A := some ad) (l := []) ?_ hJ.out hT.out ⟨Nat.zero_le _, fun m hm => by cases hm⟩ ((I.out.sub (.cons _ (.cons _ (.cons_cons _ (.cons_cons _ .slnil))))).imp (fun W _ => ⟨pks0 W, pks0 W⟩))
 kernel_rfl
end
section
variable {client host : ByteArray} {now at_ : Int} {n cc g9 g11 i : Nat} {ad : Addr} {A16 : Option Addr} {c16 : Nat} {w wr : World} {u : Nat → Value} {s : Stn} {K : Act → World → Prop} {Q : Exit → Act → World → Prop} {x : S40}
theorem pl_recv (hJ : J client host s) (hT : T0 s) (hat : (0 ≤ at_ ∧ at_ ≤ 4294967295)) (hi_ : BQ.Inv (fun _ => False) w [(g11, 32, stA s), (g9, 28, stA s)] (fun _ => True) wr) (hxs : okS x) (hm : x.f0 % 5 = 1) (hin : i < n) (hq2 : ∀ W, Below w.heap.size w W → (loadVar 40 (ad.add (i * 18))).run Tryz.prog W = .ok (.agg (spOf x (.slice A16 x.f2.f8.length c16))) W) (l16 : x.f2.f8.length ≤ c16) (g16 : Kd.C k62 w A16 x.f2.f8.length x.f2.f8) (hQ : ∀ a' w', pR0 client host now (some ad) n cc g9 g11 w i a' w' → Q (.exit 1) a' w') (hP : ∀ c (a : Act) w' N v, Q (.panic c) (a.put N v) w' → Q (.panic c) a w') (hK : ∀ a' w', pR2 client host now (some ad) n cc g9 g11 w i at_ a' w' → K a' w') : Code.wp Tryz.prog (csnd (cfst (csnd (csnd (cblk (cfst (csnd (clp (cblk (csnd (cfst (csnd (csnd (csnd (csnd (csnd (csnd (cbody Tryz.f3)))))))))))))))))) (Exit.then K Q) ⟨frP client host now (some ad) n cc g9 g11 at_ i (.slice none 0 0) (.slice none 0 0) (.int .u8 (x.f0 % 5)) u, []⟩ wr := by
 dsimp only [cbody, cfst, csnd, cblk, clp, Tryz.f3, Option.getD]
 dsimp only [frP]
 have I := Aside0.mk hi_
 clear hi_
 replace hK := Aside0.mk hK
 replace hJ := Aside0.mk hJ
 replace hT := Aside0.mk hT
 replace hat := Aside0.mk hat
 replace hxs := Aside0.mk hxs
 have hu26 := Tryz.underlying28
 have hu39 := Tryz.underlying38
 have hu24 := Tryz.underlying26
 have r0 : (x.f0 % 5 == 0) = false := by rw [hm]; rfl
 have r1 : (x.f0 % 5 == 1) = true := by rw [hm]; rfl
 clear hm
 have x0 := hJ.out.x0
 have x1 := hJ.out.x1
 have p0 : 0 ≤ (i : Int) := by omega
 have p1 : (i : Int) < (n : Int) := by omega
 have p2 : decide ((i : Int) < (n : Int)) = true := decide_eq_true p1
 obtain ⟨p, hp⟩ : ∃ p, msgP x s.xid s.a = p := ⟨_, rfl⟩
 have p8 : p.f8 = x.f2.f8 := by rw [← hp]; rfl
 have hfit : Fit p := hp ▸ msgP_fit hxs.out hJ.out.a
 rw [← p8] at hq2 l16 g16
 clear p8
 have q2 := Aside0.mk hq2
 replace hp := Aside0.mk hp
 replace hfit := Aside0.mk hfit
 replace l16 := Aside0.mk l16
 replace g16 := Aside0.mk g16
 replace hQ := Aside0.mk hQ
 replace hP := Aside0.mk hP
 go_wp2_with (first
  | (refine gL rfl ?_; refine ll rfl rfl rfl I zm (by exact ld_stAS) ?_)
  )
 refine (fun (rest : (?T14 : Prop)) => ?main14) ?rest14
 case main14 =>
  have IS := Aside0.mk I.out.drew
  refine draw_ (BQ.Inv (fun _ => False) w [(g11, 32, stA s), (g9, 28, stA s)] (fun _ => True)) [] kk rfl IS.out ?_
  have I2 := Aside0.mk I.out.drew
  have I := I2
  clear I2
  refine pu1 (i := 0) rfl rfl kk ?_ (ha := by (go_simp; rfl)) (hQ := fun _ _ _ h => hP.out _ _ _ _ _ h)
  refine pu1 (i := 1) rfl rfl kk ?_ (ha := by (go_simp; rfl)) (hQ := fun _ _ _ h => hP.out _ _ _ _ _ h)
  refine pu1 (i := 2) rfl rfl kk ?_ (ha := by (go_simp; rfl)) (hQ := fun _ _ _ h => hP.out _ _ _ _ _ h)
  refine tl1 (i := 3) rfl rfl kk IS.out (fun W hW => run_ldp rfl rfl (q2.out W hW.below)) ?_ (ha := by (go_simp; rfl)) (hQ := fun _ _ _ h => hP.out _ _ _ _ _ h)
  refine pu1 (i := 4) rfl rfl kk ?_ (ha := by (go_simp; rfl)) (hQ := fun _ _ _ h => hP.out _ _ _ _ _ h)
  refine ta1 (i := 5) rfl rfl kk rfl rfl IS.out zm (by exact ld_st3) ?_ (ha := by (go_simp; rfl)) (hQ := fun _ _ _ h => hP.out _ _ _ _ _ h)
  refine pu1 (i := 6) rfl rfl kk ?_ (ha := by (go_simp; rfl)) (hQ := fun _ _ _ h => hP.out _ _ _ _ _ h)
  refine ta1 (i := 7) rfl rfl kk rfl rfl IS.out zm (by exact ld_stA5) ?_ (ha := by (go_simp; rfl)) (hQ := fun _ _ _ h => hP.out _ _ _ _ _ h)
  refine two1 (i := 8) (j := 9) rfl rfl rfl rfl kk (by decide) (by decide) (fun K2 hK2 => ?_) (fun K2 hK2 => ?_)
  ·
    refine cs1 hK2 rfl Tryz.func9 kk rfl #[.agg (spOf x (.slice A16 p.f8.length c16)), .int .i64 s.xid, .agg #[.bool s.a.f0, .int .u64 s.a.f1, .int .u64 s.a.f2]] rfl zh ?_
    refine (message_P A16 c16 hp.out _ ⟨x0, x1⟩ hxs.out).mono ?_
    rintro e_ w1 ⟨rfl, hb⟩
    have I2 := Aside0.mk (I.out.call hb)
    clear I IS hb
    have I := I2
    clear I2
    have IS := Aside0.mk ((I.out.imp (fun _ _ => trivial)).sub (.cons_cons _ (.cons_cons _ .slnil)))
    refine ⟨_, rfl, IS.out, ?_⟩
    refine al1 (i := 9) (t := 38) (cs := (pkC 0 0 0 (⟨#[]⟩ : ByteArray) false 0 0 false 0 0 false 0 0 false (.slice none 0 0))) rfl rfl kk (by decide) ?hal I.out (fun gp w1 hI => ⟨(hI.imp (fun _ _ => trivial)).sub (.cons _ (.cons_cons _ (.cons_cons _ .slnil))), ?_⟩)
    case hal => first | (go_simp; done) | (go_simp; rfl)
    clear I IS
    have I := Aside0.mk hI
    clear hI
    have IS := Aside0.mk ((I.out.imp (fun _ _ => trivial)).sub (.cons _ (.cons_cons _ (.cons_cons _ .slnil))))
    refine st1 (i := 10) rfl rfl kk (by decide) rfl rfl rfl I.out zm (by first | exact sr_pkOf) zu (fun w1 hI => ⟨(hI.imp (fun _ _ => trivial)).sub (.cons _ (.cons_cons _ (.cons_cons _ .slnil))), ?_⟩)
    clear I IS
    have I := Aside0.mk hI
    clear hI
    refine do1 kk ?_
    replace I := I.out
    revert I
    revert w1
    revert gp
    exact rest
  ·
    refine as1 (t := 38) (cs := (pkC 0 0 0 (⟨#[]⟩ : ByteArray) false 0 0 false 0 0 false 0 0 false (.slice none 0 0))) hK2 rfl ?hal I.out (fun gp w1 hI => ⟨(hI.imp (fun _ _ => trivial)).sub (.cons _ (.cons_cons _ (.cons_cons _ .slnil))), ?_⟩)
    case hal => first | (go_simp; done) | (go_simp; rfl)
    clear I IS
    have I := Aside0.mk hI
    clear hI
    have IS := Aside0.mk ((I.out.imp (fun _ _ => trivial)).sub (.cons _ (.cons_cons _ (.cons_cons _ .slnil))))
    refine ca1 (i := 8) rfl rfl kk (by decide) Tryz.func9 kk rfl #[.agg (spOf x (.slice A16 p.f8.length c16)), .int .i64 s.xid, .agg #[.bool s.a.f0, .int .u64 s.a.f1, .int .u64 s.a.f2]] rfl zh ?_
    refine (message_P A16 c16 hp.out _ ⟨x0, x1⟩ hxs.out).mono ?_
    rintro e_ w1 ⟨rfl, hb⟩
    have I2 := Aside0.mk (I.out.call hb)
    clear I IS hb
    have I := I2
    clear I2
    have IS := Aside0.mk ((I.out.imp (fun _ _ => trivial)).sub (.cons _ (.cons_cons _ (.cons_cons _ .slnil))))
    refine ⟨_, rfl, IS.out, ?_⟩
    refine st1 (i := 10) rfl rfl kk (by decide) rfl rfl rfl I.out zm (by first | exact sr_pkOf) zu (fun w1 hI => ⟨(hI.imp (fun _ _ => trivial)).sub (.cons _ (.cons_cons _ (.cons_cons _ .slnil))), ?_⟩)
    clear I IS
    have I := Aside0.mk hI
    clear hI
    refine do1 kk ?_
    replace I := I.out
    revert I
    revert w1
    revert gp
    exact rest
 case rest14 =>
  intro gp w1 I
  have I := Aside0.mk I
  cases hv : pkV p
  ·
    replace hv := Aside0.mk hv
    go_wp2_with (first
     | (refine gD 98 rfl ?_; refine ll rfl rfl rfl I mm0 ld_pkOf ?_)
     | (refine gD 99 rfl ?_; refine ck rfl Tryz.func10 kk rfl #[.agg (pkOf p (.slice A16 p.f8.length c16))] rfl zh (validB hv.out hfit.out A16 c16 _ (Kd.C_below g16.out I.out.below) l16.out) ?_; rintro e_ w1 ⟨rfl, hb⟩; refine ⟨_, rfl, ?_⟩; replace I := callK I hb; clear hb)
     )
    first | (refine hQ.out _ _ (pR0_mk (s := s) (at_ := at_) (A := some ad) ?_ hJ.out hT.out hat.out (I.out.sub (.cons _ (.cons_cons _ (.cons_cons _ .slnil))))); kernel_rfl) | (refine (pR0_mk (s := s) (at_ := at_) (A := some ad) ?_ hJ.out hT.out hat.out (I.out.sub (.cons _ (.cons_cons _ (.cons_cons _ .slnil))))); kernel_rfl)
  replace hv := Aside0.mk hv
  have hG := recv_good hJ.out hv.out hfit.out hat.out
  have hJ' := hG.1
  have hT' := recv_T hT.out p at_
  have hF' := hG.few
  clear hG
  obtain ⟨s', l', hf_⟩ : ∃ s' l', recvP s p at_ = (s', l') := ⟨_, _, rfl⟩
  rw [hf_] at hJ' hT' hF'
  replace hJ' := Aside0.mk hJ'
  replace hT' := Aside0.mk hT'
  replace hF' := Aside0.mk hF'
  replace hf_ := Aside0.mk hf_
  go_wp2_with (first
   | (refine gD 98 rfl ?_; refine ll rfl rfl rfl I mm0 ld_pkOf ?_)
   | (refine gD 102 rfl ?_; refine ll rfl rfl rfl I mm2 ld_stAS ?_)
   | (refine gD 103 rfl ?_; refine ll rfl rfl rfl I mm0 ld_pkOf ?_)
   | (refine gD 109 rfl ?_; refine ll rfl rfl rfl I mm1 ld_stAR ?_)
   | (refine gD 110 rfl ?_; refine ll rfl rfl rfl I mm0 ld_pkOf ?_)
   | (refine gD 99 rfl ?_; refine ck rfl Tryz.func10 kk rfl #[.agg (pkOf p (.slice A16 p.f8.length c16))] rfl zh (validB hv.out hfit.out A16 c16 _ (Kd.C_below g16.out I.out.below) l16.out) ?_; rintro e_ w1 ⟨rfl, hb⟩; refine ⟨_, rfl, ?_⟩; replace I := callK I hb; clear hb)
   | (refine gD 105 rfl ?_; refine ck rfl Tryz.func11 kk rfl #[.agg (stA s), .agg (pkOf p (.slice A16 p.f8.length c16)), .int .i64 at_] rfl zh (ret_at (recv_J hJ.out hv.out A16 c16 _ at_ _ (elder k62_heap g16.out I.out.below) l16.out) hf_.out) ?_; rintro e_ w1 ⟨v1, rfl, hf, hb⟩; refine ⟨_, rfl, ?_⟩; replace I := addK I hb hf; clear hb hf)
   | (refine gD 112 rfl ?_; refine ck rfl Tryz.func12 kk rfl #[.agg (stA s), .agg (pkOf p (.slice A16 p.f8.length c16)), .int .i64 at_] rfl zh (ret_at (rrecv_J hJ.out hv.out hfit.out A16 c16 at_ _ (Kd.C_below g16.out I.out.below) l16.out) hf_.out) ?_; rintro e_ w1 ⟨v2, rfl, hf, hb⟩; refine ⟨_, rfl, ?_⟩; replace I := addK I hb hf; clear hb hf)
   | (refine gS rfl ?_; refine sk rfl rfl rfl rfl rfl I zm (by first | exact sr_stAS | exact sr_stAR) zu ?_; clear I; intro w1 I)
   )
  try refine hK.out _ _ ?_
  refine pR2_mk (A := some ad) (v15 := v1) (v16 := v2) (l := l') ?_ hJ'.out hT'.out hF'.out ((I.out.sub (.cons _ (.cons_cons _ (.cons_cons _ .slnil)))).imp (fun W hW => ⟨hW.1.2, hW.2⟩))
  kernel_rfl
end
end Go.Proofs.YtlabnocmmeciaaaGreatDoor.LAW
namespace Go.Proofs.YtlabnocmmeciaaaGreatDoor.BQ
open Go RowKit YtlabnocmmeciaaaGreatDoorW.PrintWords YtlabnocmmeciaaaGreatDoorW.PrintLast YtlabnocmmeciaaaGreatDoorW.PrintMore Pa STN
theorem ret_of {id : FuncId} {args : Array Value} {w : World} {f : Stn × List S38} {s : Stn} {l : List S38} (h : Calls Tryz.prog id args w (Ret f w)) (e : f = (s, l)) : Calls Tryz.prog id args w fun e w' => ∃ A c, e = .returned (.tuple #[.agg (stA s), .slice A l.length c]) ∧ Foot (fun W => Kd.C k38 W A l.length l) w' (fun k => w.heap.size ≤ k) ∧ Below w.heap.size w w' := by
  subst e; refine h.mono ?_; rintro e w' ⟨v, rfl, hf, hb⟩; obtain ⟨A, c, rfl, _, _⟩ := hf.now
  refine ⟨A, c, rfl, hf.imp (fun W hW => ?_), hb⟩; obtain ⟨A', c', e, _, hC⟩ := hW; injection e with e1 e2 e3; subst e1; exact hC
theorem aw_new : station_New.f 1000 (⟨#[97]⟩ : ByteArray) (⟨#[104]⟩ : ByteArray) = some ((⟨#[97]⟩ : ByteArray), (⟨#[104]⟩ : ByteArray), 0, 0, 0, false, 0, 0, 0, 0, 0, 0, 0, 0) := by kernel_rfl
theorem aw_bad : station_New.f 1000 (⟨#[97]⟩ : ByteArray) (⟨#[97, 46, 98]⟩ : ByteArray) = some ((⟨#[]⟩ : ByteArray), (⟨#[]⟩ : ByteArray), 0, 0, 0, false, 0, 0, 0, 0, 0, 0, 0, 2) := by kernel_rfl
theorem aw_t0 : tickF (⟨(⟨#[97]⟩ : ByteArray), (⟨#[104]⟩ : ByteArray), 0, 0, 0, ⟨false, 0, 0⟩, 0, 0, 0, 0, 0⟩ : Stn) 0 = ((⟨(⟨#[97]⟩ : ByteArray), (⟨#[104]⟩ : ByteArray), 1, 1, 0, ⟨false, 0, 0⟩, 0, 0, 0, 0, 1⟩ : Stn), [(⟨1, 1, 0, (⟨#[97]⟩ : ByteArray), zA, zA, zA, false, [⟨12, (⟨#[104]⟩ : ByteArray)⟩]⟩ : S38)]) := by kernel_rfl
theorem aw_t4 : tickF (⟨(⟨#[97]⟩ : ByteArray), (⟨#[104]⟩ : ByteArray), 1, 1, 0, ⟨false, 0, 0⟩, 0, 0, 0, 0, 1⟩ : Stn) 4 = ((⟨(⟨#[97]⟩ : ByteArray), (⟨#[104]⟩ : ByteArray), 1, 2, 0, ⟨false, 0, 0⟩, 0, 0, 0, 4, 2⟩ : Stn), [(⟨1, 2, 0, (⟨#[97]⟩ : ByteArray), zA, zA, zA, false, [⟨12, (⟨#[104]⟩ : ByteArray)⟩]⟩ : S38)]) := by kernel_rfl
theorem aw_of : recvF (⟨(⟨#[97]⟩ : ByteArray), (⟨#[104]⟩ : ByteArray), 1, 2, 0, ⟨false, 0, 0⟩, 0, 0, 0, 4, 2⟩ : Stn) 2 2 7 (⟨#[97]⟩ : ByteArray) ⟨false, 0, 167772161⟩ 0 0 0 false 7 = ((⟨(⟨#[97]⟩ : ByteArray), (⟨#[104]⟩ : ByteArray), 2, 3, 7, ⟨false, 0, 167772161⟩, 0, 0, 0, 7, 1⟩ : Stn), [(⟨3, 3, 7, (⟨#[97]⟩ : ByteArray), zA, zA, zA, false, [⟨50, ⟨#[10, 0, 0, 1]⟩⟩, ⟨12, (⟨#[104]⟩ : ByteArray)⟩]⟩ : S38)]) := by kernel_rfl
theorem aw_ls : dhcp_Lease.f 1000 5 3 7 (⟨#[97]⟩ : ByteArray) false 0 0 false 0 167772161 false 0 0 false [⟨51, ⟨#[0, 0, 0, 100]⟩⟩] = some (100, 50, 87, true) := by kernel_rfl
theorem aw_l0 : dhcp_Lease.f 1000 2 2 7 (⟨#[97]⟩ : ByteArray) false 0 0 false 0 167772161 false 0 0 false [] = some (0, 0, 0, false) := by kernel_rfl
theorem aw_ak : recvF (⟨(⟨#[97]⟩ : ByteArray), (⟨#[104]⟩ : ByteArray), 2, 3, 7, ⟨false, 0, 167772161⟩, 0, 0, 0, 7, 1⟩ : Stn) 5 3 7 (⟨#[97]⟩ : ByteArray) ⟨false, 0, 167772161⟩ 100 50 87 true 9 = ((⟨(⟨#[97]⟩ : ByteArray), (⟨#[104]⟩ : ByteArray), 3, 3, 7, ⟨false, 0, 167772161⟩, 57, 94, 107, 7, 0⟩ : Stn), ([] : List S38)) := by kernel_rfl
theorem aw_lv : giveF (⟨(⟨#[97]⟩ : ByteArray), (⟨#[104]⟩ : ByteArray), 3, 3, 7, ⟨false, 0, 167772161⟩, 57, 94, 107, 7, 0⟩ : Stn) 7 = ((⟨(⟨#[97]⟩ : ByteArray), (⟨#[104]⟩ : ByteArray), 0, 4, 0, ⟨false, 0, 0⟩, 0, 0, 0, 0, 0⟩ : Stn), [(⟨7, 4, 7, (⟨#[97]⟩ : ByteArray), ⟨false, 0, 167772161⟩, zA, zA, false, []⟩ : S38)]) := by kernel_rfl
theorem aw_h1 : holdsF (⟨(⟨#[97]⟩ : ByteArray), (⟨#[104]⟩ : ByteArray), 3, 3, 7, ⟨false, 0, 167772161⟩, 57, 94, 107, 7, 0⟩ : Stn) 106 = (⟨false, 0, 167772161⟩, true) := by kernel_rfl
theorem aw_h2 : holdsF (⟨(⟨#[97]⟩ : ByteArray), (⟨#[104]⟩ : ByteArray), 3, 3, 7, ⟨false, 0, 167772161⟩, 57, 94, 107, 7, 0⟩ : Stn) 107 = (zA, false) := by kernel_rfl
theorem cw_t0 (w : World)  : Calls Tryz.prog 7 #[.agg (stC (⟨#[97]⟩ : ByteArray) (⟨#[104]⟩ : ByteArray) 0 0 0 false 0 0 0 0 0 0 0), .int .i64 0] w fun e w' => ∃ A c, e = .returned (.tuple #[.agg (stC (⟨#[97]⟩ : ByteArray) (⟨#[104]⟩ : ByteArray) 1 1 0 false 0 0 0 0 0 0 1), .slice A 1 c]) ∧ Foot (fun W => Kd.C k38 W A 1 [(⟨1, 1, 0, (⟨#[97]⟩ : ByteArray), zA, zA, zA, false, [⟨12, (⟨#[104]⟩ : ByteArray)⟩]⟩ : S38)]) w' (fun k => w.heap.size ≤ k) ∧ Below w.heap.size w w' := ret_of (tick_c (⟨(⟨#[97]⟩ : ByteArray), (⟨#[104]⟩ : ByteArray), 0, 0, 0, ⟨false, 0, 0⟩, 0, 0, 0, 0, 0⟩ : Stn) 0 w (by decide) (by decide) (by decide) (by decide) (fun hq => by rcases hq with hq | hq <;> exact absurd hq (by decide)) ⟨true, by kernel_rfl⟩) aw_t0
theorem cw_t4 (w : World)  : Calls Tryz.prog 7 #[.agg (stC (⟨#[97]⟩ : ByteArray) (⟨#[104]⟩ : ByteArray) 1 1 0 false 0 0 0 0 0 0 1), .int .i64 4] w fun e w' => ∃ A c, e = .returned (.tuple #[.agg (stC (⟨#[97]⟩ : ByteArray) (⟨#[104]⟩ : ByteArray) 1 2 0 false 0 0 0 0 0 4 2), .slice A 1 c]) ∧ Foot (fun W => Kd.C k38 W A 1 [(⟨1, 2, 0, (⟨#[97]⟩ : ByteArray), zA, zA, zA, false, [⟨12, (⟨#[104]⟩ : ByteArray)⟩]⟩ : S38)]) w' (fun k => w.heap.size ≤ k) ∧ Below w.heap.size w w' := ret_of (tick_c (⟨(⟨#[97]⟩ : ByteArray), (⟨#[104]⟩ : ByteArray), 1, 1, 0, ⟨false, 0, 0⟩, 0, 0, 0, 0, 1⟩ : Stn) 4 w (by decide) (by decide) (by decide) (by decide) (fun _ => by decide) ⟨true, by kernel_rfl⟩) aw_t4
theorem cw_of (w : World)  : Calls Tryz.prog 11 #[.agg (stC (⟨#[97]⟩ : ByteArray) (⟨#[104]⟩ : ByteArray) 1 2 0 false 0 0 0 0 0 4 2), .agg (pkC 2 2 7 (⟨#[97]⟩ : ByteArray) false 0 0 false 0 167772161 false 0 0 false (.slice none 0 0)), .int .i64 7] w fun e w' => ∃ A c, e = .returned (.tuple #[.agg (stC (⟨#[97]⟩ : ByteArray) (⟨#[104]⟩ : ByteArray) 2 3 7 false 0 167772161 0 0 0 7 1), .slice A 1 c]) ∧ Foot (fun W => Kd.C k38 W A 1 [(⟨3, 3, 7, (⟨#[97]⟩ : ByteArray), zA, zA, zA, false, [⟨50, ⟨#[10, 0, 0, 1]⟩⟩, ⟨12, (⟨#[104]⟩ : ByteArray)⟩]⟩ : S38)]) w' (fun k => w.heap.size ≤ k) ∧ Below w.heap.size w w' := ret_of (recv_c (⟨(⟨#[97]⟩ : ByteArray), (⟨#[104]⟩ : ByteArray), 1, 2, 0, ⟨false, 0, 0⟩, 0, 0, 0, 4, 2⟩ : Stn) 2 2 7 (⟨#[97]⟩ : ByteArray) false 0 0 ⟨false, 0, 167772161⟩ false 0 0 false none 0 [] (fun _ => False) 0 0 0 false 7 w (by decide) (by decide) (show addr_Valid.f false 0 167772161 = some (validF ⟨false, 0, 167772161⟩) by kernel_rfl) ⟨true, by kernel_rfl⟩ (foot_no _ none 0) (Nat.le_refl _) aw_l0 (fun hq => Bool.noConfusion hq)) aw_of
theorem cw_ak (w : World) (B : Nat → Prop) {A : Option Addr} (hB : Foot (fun W => Kd.C k62 W A 1 [(⟨51, (⟨#[0, 0, 0, 100]⟩ : ByteArray)⟩ : S62)]) w B) : Calls Tryz.prog 11 #[.agg (stC (⟨#[97]⟩ : ByteArray) (⟨#[104]⟩ : ByteArray) 2 3 7 false 0 167772161 0 0 0 7 1), .agg (pkC 5 3 7 (⟨#[97]⟩ : ByteArray) false 0 0 false 0 167772161 false 0 0 false (.slice A 1 1)), .int .i64 9] w fun e w' => ∃ A c, e = .returned (.tuple #[.agg (stC (⟨#[97]⟩ : ByteArray) (⟨#[104]⟩ : ByteArray) 3 3 7 false 0 167772161 57 94 107 7 0), .slice A 0 c]) ∧ Foot (fun W => Kd.C k38 W A 0 []) w' (fun k => w.heap.size ≤ k) ∧ Below w.heap.size w w' := ret_of (recv_c (⟨(⟨#[97]⟩ : ByteArray), (⟨#[104]⟩ : ByteArray), 2, 3, 7, ⟨false, 0, 167772161⟩, 0, 0, 0, 7, 1⟩ : Stn) 5 3 7 (⟨#[97]⟩ : ByteArray) false 0 0 ⟨false, 0, 167772161⟩ false 0 0 false A 1 [(⟨51, (⟨#[0, 0, 0, 100]⟩ : ByteArray)⟩ : S62)] B 100 50 87 true 9 w (by decide) (by decide) (show addr_Valid.f false 0 167772161 = some (validF ⟨false, 0, 167772161⟩) by kernel_rfl) ⟨true, by kernel_rfl⟩ hB (Nat.le_refl _) aw_ls (fun _ => by decide)) aw_ak
theorem cw_lv (w : World)  : Calls Tryz.prog 13 #[.agg (stC (⟨#[97]⟩ : ByteArray) (⟨#[104]⟩ : ByteArray) 3 3 7 false 0 167772161 57 94 107 7 0), .int .i64 20] w fun e w' => ∃ A c, e = .returned (.tuple #[.agg (stC (⟨#[97]⟩ : ByteArray) (⟨#[104]⟩ : ByteArray) 0 4 0 false 0 0 0 0 0 0 0), .slice A 1 c]) ∧ Foot (fun W => Kd.C k38 W A 1 [(⟨7, 4, 7, (⟨#[97]⟩ : ByteArray), ⟨false, 0, 167772161⟩, zA, zA, false, []⟩ : S38)]) w' (fun k => w.heap.size ≤ k) ∧ Below w.heap.size w w' := ret_of (leave_c (⟨(⟨#[97]⟩ : ByteArray), (⟨#[104]⟩ : ByteArray), 3, 3, 7, ⟨false, 0, 167772161⟩, 57, 94, 107, 7, 0⟩ : Stn) 20 w (by decide)) aw_lv
theorem cw_h1 (w : World) : Calls Tryz.prog 17 #[.agg (stC (⟨#[97]⟩ : ByteArray) (⟨#[104]⟩ : ByteArray) 3 3 7 false 0 167772161 57 94 107 7 0), .int .i64 106] w fun e w' => e = .returned (.tuple #[.agg #[.bool false, .int .u64 0, .int .u64 167772161], .bool true]) ∧ Below w.heap.size w w' := by
  have h := holds_c (⟨(⟨#[97]⟩ : ByteArray), (⟨#[104]⟩ : ByteArray), 3, 3, 7, ⟨false, 0, 167772161⟩, 57, 94, 107, 7, 0⟩ : Stn) 106 w; rw [aw_h1] at h; exact h
theorem cw_h2 (w : World) : Calls Tryz.prog 17 #[.agg (stC (⟨#[97]⟩ : ByteArray) (⟨#[104]⟩ : ByteArray) 3 3 7 false 0 167772161 57 94 107 7 0), .int .i64 107] w fun e w' => e = .returned (.tuple #[.agg #[.bool false, .int .u64 0, .int .u64 0], .bool false]) ∧ Below w.heap.size w w' := by
  have h := holds_c (⟨(⟨#[97]⟩ : ByteArray), (⟨#[104]⟩ : ByteArray), 3, 3, 7, ⟨false, 0, 167772161⟩, 57, 94, 107, 7, 0⟩ : Stn) 107 w; rw [aw_h2] at h; exact h
theorem awake_c (w : World) : Calls Tryz.prog 6 #[] w fun e w' => e = .returned (.bool true) ∧ Below w.heap.size w w' := by
 have hu26 := Tryz.underlying28
 have hu39 := Tryz.underlying38
 have hu24 := Tryz.underlying26
 have hu60 := Tryz.underlying62
 have I := Aside0.mk (Inv.start0 (w0 := w))
 go_enter Tryz.func6, Tryz.ntmps6
 go_wp2_with (first
  | (refine ak rfl (al_S rfl) I ?_; clear I; intro gb w1 I)
  | (refine ak rfl (al_A rfl) I ?_; clear I; intro gb w1 I)
  | (refine gL rfl ?_; refine ll rfl rfl rfl I zm9 (by first | exact ld_st | exact ld_ad) ?_)
  | (refine gD 19 rfl ?_; refine ck rfl Tryz.func4 kk rfl #[.string (⟨#[97]⟩ : ByteArray), .string (⟨#[104]⟩ : ByteArray)] rfl zh (station_New.calls 1000 (⟨#[97]⟩ : ByteArray) (⟨#[104]⟩ : ByteArray) _ _ _ _ _ _ _ _ _ _ _ _ _ _ _ aw_new) ?_; rintro e_ w1 ⟨rfl, hb⟩; refine ⟨_, rfl, ?_⟩; replace I := callK I hb; clear hb)
  | (refine gD 23 rfl ?_; refine ck rfl Tryz.func4 kk rfl #[.string (⟨#[97]⟩ : ByteArray), .string (⟨#[97, 46, 98]⟩ : ByteArray)] rfl zh (station_New.calls 1000 (⟨#[97]⟩ : ByteArray) (⟨#[97, 46, 98]⟩ : ByteArray) _ _ _ _ _ _ _ _ _ _ _ _ _ _ _ aw_bad) ?_; rintro e_ w1 ⟨rfl, hb⟩; refine ⟨_, rfl, ?_⟩; replace I := callK I hb; clear hb)
  | (refine gD 28 rfl ?_; refine ck rfl Tryz.func7 kk rfl #[.agg (stC (⟨#[97]⟩ : ByteArray) (⟨#[104]⟩ : ByteArray) 0 0 0 false 0 0 0 0 0 0 0), .int .i64 0] rfl zh (cw_t0 _) ?_; rintro e_ w1 ⟨A, c, rfl, hf, hb⟩; refine ⟨_, rfl, ?_⟩; replace I := addK I hb hf; clear hb hf)
  | (refine gD 33 rfl ?_; refine ck rfl Tryz.func7 kk rfl #[.agg (stC (⟨#[97]⟩ : ByteArray) (⟨#[104]⟩ : ByteArray) 1 1 0 false 0 0 0 0 0 0 1), .int .i64 4] rfl zh (cw_t4 _) ?_; rintro e_ w1 ⟨A, c, rfl, hf, hb⟩; refine ⟨_, rfl, ?_⟩; replace I := addK I hb hf; clear hb hf)
  | (refine gS rfl ?_; refine sk rfl rfl rfl rfl rfl I zm9 (by first | exact sr_st | exact sr_ad) zu9 ?_; clear I; intro w1 I)
  )
 refine (fun (rest : (?T5 : Prop)) => ?main5) ?rest5
 case main5 =>
  have IS := Aside0.mk ((I.out.imp (fun _ _ => trivial)).sub (.cons_cons _ (.cons _ (.cons _ .slnil)))).drew
  refine draw_ (Inv _ w [_] (fun _ => True)) [] kk rfl IS.out ?_
  have I2 := Aside0.mk I.out.drew
  have I := I2
  clear I2
  refine ta1 (i := 0) rfl rfl kk rfl rfl IS.out zm (by exact ld_st) ?_ (ha := by (go_simp; rfl))
  refine two1 (i := 1) (j := 7) rfl rfl rfl rfl kk (by decide) (by decide) (fun K hK => ?_) (fun K hK => ?_)
  ·
    refine cs1 hK rfl Tryz.func24 kk rfl #[.int .u64 1] rfl zh ?_
    refine (ten_c _).mono ?_
    rintro e_ w1 ⟨rfl, hb⟩
    have I2 := Aside0.mk (I.out.call hb)
    clear I IS hb
    have I := I2
    clear I2
    have IS := Aside0.mk ((I.out.imp (fun _ _ => trivial)).sub (.cons_cons _ (.cons _ (.cons _ .slnil))))
    refine ⟨_, rfl, IS.out, ?_⟩
    refine pu1 (i := 2) rfl rfl kk ?_ (ha := by (go_simp; rfl))
    refine two1 (i := 3) (j := 7) rfl rfl rfl rfl kk (by decide) (by decide) (fun K hK => ?_) (fun K hK => ?_)
    ·
      refine cs1 hK rfl Tryz.func11 kk rfl #[.agg (stC (⟨#[97]⟩ : ByteArray) (⟨#[104]⟩ : ByteArray) 1 2 0 false 0 0 0 0 0 4 2), .agg (pkC 2 2 7 (⟨#[97]⟩ : ByteArray) false 0 0 false 0 167772161 false 0 0 false (.slice none 0 0)), .int .i64 7] rfl zh ?_
      refine (cw_of _).mono ?_
      rintro e_ w1 ⟨A, c, rfl, hf, hb⟩
      have I2 := Aside0.mk (I.out.addNew hb hf (fun k hk _ => I.out.new_out k hk))
      clear I IS hb hf
      have I := I2
      clear I2
      have IS := Aside0.mk ((I.out.imp (fun _ _ => trivial)).sub (.cons_cons _ (.cons _ (.cons _ .slnil))))
      refine ⟨_, rfl, IS.out, ?_⟩
      refine pu1 (i := 4) rfl rfl kk ?_ (ha := by (go_simp; rfl))
      refine pu1 (i := 5) rfl rfl kk ?_ (ha := by (go_simp; rfl))
      refine pu1 (i := 6) rfl rfl kk ?_ (ha := by (go_simp; rfl))
      refine al1 (i := 7) (t := 28) (cs := (stC (⟨#[]⟩ : ByteArray) (⟨#[]⟩ : ByteArray) 0 0 0 false 0 0 0 0 0 0 0)) rfl rfl kk (by decide) ?hr I.out (fun gb w1 hI => ⟨(hI.imp (fun _ _ => trivial)).sub (.cons _ (.cons_cons _ (.cons _ (.cons _ .slnil)))), ?_⟩)
      case hr => first | (go_simp; done) | (go_simp; rfl)
      clear I IS
      have I := Aside0.mk hI
      clear hI
      have IS := Aside0.mk ((I.out.imp (fun _ _ => trivial)).sub (.cons _ (.cons_cons _ (.cons _ (.cons _ .slnil)))))
      refine st1 (i := 8) rfl rfl kk (by decide) rfl rfl rfl I.out zm (by first | exact sr_st) zu (fun w1 hI => ⟨(hI.imp (fun _ _ => trivial)).sub (.cons _ (.cons_cons _ (.cons _ (.cons _ .slnil)))), ?_⟩)
      clear I IS
      have I := Aside0.mk hI
      clear hI
      refine pu1 (i := 9) rfl rfl kk ?_ (ha := by (go_simp; rfl))
      refine do1 kk ?_
      replace I := I.out
      revert I
      revert w1
      revert c
      revert A
      revert gb
      exact rest
    ·
      refine as1 (t := 28) (cs := (stC (⟨#[]⟩ : ByteArray) (⟨#[]⟩ : ByteArray) 0 0 0 false 0 0 0 0 0 0 0)) hK rfl ?hr I.out (fun gb w1 hI => ⟨(hI.imp (fun _ _ => trivial)).sub (.cons _ (.cons_cons _ (.cons _ (.cons _ .slnil)))), ?_⟩)
      case hr => first | (go_simp; done) | (go_simp; rfl)
      clear I IS
      have I := Aside0.mk hI
      clear hI
      have IS := Aside0.mk ((I.out.imp (fun _ _ => trivial)).sub (.cons _ (.cons_cons _ (.cons _ (.cons _ .slnil)))))
      refine ca1 (i := 3) rfl rfl kk (by decide) Tryz.func11 kk rfl #[.agg (stC (⟨#[97]⟩ : ByteArray) (⟨#[104]⟩ : ByteArray) 1 2 0 false 0 0 0 0 0 4 2), .agg (pkC 2 2 7 (⟨#[97]⟩ : ByteArray) false 0 0 false 0 167772161 false 0 0 false (.slice none 0 0)), .int .i64 7] rfl zh ?_
      refine (cw_of _).mono ?_
      rintro e_ w1 ⟨A, c, rfl, hf, hb⟩
      have I2 := Aside0.mk (I.out.addNew hb hf (fun k hk _ => I.out.new_out k hk))
      clear I IS hb hf
      have I := I2
      clear I2
      have IS := Aside0.mk ((I.out.imp (fun _ _ => trivial)).sub (.cons _ (.cons_cons _ (.cons _ (.cons _ .slnil)))))
      refine ⟨_, rfl, IS.out, ?_⟩
      refine pu1 (i := 4) rfl rfl kk ?_ (ha := by (go_simp; rfl))
      refine pu1 (i := 5) rfl rfl kk ?_ (ha := by (go_simp; rfl))
      refine pu1 (i := 6) rfl rfl kk ?_ (ha := by (go_simp; rfl))
      refine st1 (i := 8) rfl rfl kk (by decide) rfl rfl rfl I.out zm (by first | exact sr_st) zu (fun w1 hI => ⟨(hI.imp (fun _ _ => trivial)).sub (.cons _ (.cons_cons _ (.cons _ (.cons _ .slnil)))), ?_⟩)
      clear I IS
      have I := Aside0.mk hI
      clear hI
      refine pu1 (i := 9) rfl rfl kk ?_ (ha := by (go_simp; rfl))
      refine do1 kk ?_
      replace I := I.out
      revert I
      revert w1
      revert c
      revert A
      revert gb
      exact rest
  ·
    refine as1 (t := 28) (cs := (stC (⟨#[]⟩ : ByteArray) (⟨#[]⟩ : ByteArray) 0 0 0 false 0 0 0 0 0 0 0)) hK rfl ?hr I.out (fun gb w1 hI => ⟨(hI.imp (fun _ _ => trivial)).sub (.cons _ (.cons_cons _ (.cons _ (.cons _ .slnil)))), ?_⟩)
    case hr => first | (go_simp; done) | (go_simp; rfl)
    clear I IS
    have I := Aside0.mk hI
    clear hI
    have IS := Aside0.mk ((I.out.imp (fun _ _ => trivial)).sub (.cons _ (.cons_cons _ (.cons _ (.cons _ .slnil)))))
    refine ca1 (i := 1) rfl rfl kk (by decide) Tryz.func24 kk rfl #[.int .u64 1] rfl zh ?_
    refine (ten_c _).mono ?_
    rintro e_ w1 ⟨rfl, hb⟩
    have I2 := Aside0.mk (I.out.call hb)
    clear I IS hb
    have I := I2
    clear I2
    have IS := Aside0.mk ((I.out.imp (fun _ _ => trivial)).sub (.cons _ (.cons_cons _ (.cons _ (.cons _ .slnil)))))
    refine ⟨_, rfl, IS.out, ?_⟩
    refine pu1 (i := 2) rfl rfl kk ?_ (ha := by (go_simp; rfl))
    refine ca1 (i := 3) rfl rfl kk (by decide) Tryz.func11 kk rfl #[.agg (stC (⟨#[97]⟩ : ByteArray) (⟨#[104]⟩ : ByteArray) 1 2 0 false 0 0 0 0 0 4 2), .agg (pkC 2 2 7 (⟨#[97]⟩ : ByteArray) false 0 0 false 0 167772161 false 0 0 false (.slice none 0 0)), .int .i64 7] rfl zh ?_
    refine (cw_of _).mono ?_
    rintro e_ w1 ⟨A, c, rfl, hf, hb⟩
    have I2 := Aside0.mk (I.out.addNew hb hf (fun k hk _ => I.out.new_out k hk))
    clear I IS hb hf
    have I := I2
    clear I2
    have IS := Aside0.mk ((I.out.imp (fun _ _ => trivial)).sub (.cons _ (.cons_cons _ (.cons _ (.cons _ .slnil)))))
    refine ⟨_, rfl, IS.out, ?_⟩
    refine pu1 (i := 4) rfl rfl kk ?_ (ha := by (go_simp; rfl))
    refine pu1 (i := 5) rfl rfl kk ?_ (ha := by (go_simp; rfl))
    refine pu1 (i := 6) rfl rfl kk ?_ (ha := by (go_simp; rfl))
    refine st1 (i := 8) rfl rfl kk (by decide) rfl rfl rfl I.out zm (by first | exact sr_st) zu (fun w1 hI => ⟨(hI.imp (fun _ _ => trivial)).sub (.cons _ (.cons_cons _ (.cons _ (.cons _ .slnil)))), ?_⟩)
    clear I IS
    have I := Aside0.mk hI
    clear hI
    refine pu1 (i := 9) rfl rfl kk ?_ (ha := by (go_simp; rfl))
    refine do1 kk ?_
    replace I := I.out
    revert I
    revert w1
    revert c
    revert A
    revert gb
    exact rest
 case rest5 =>
  intro gb A c w1 I
  have I := Aside0.mk I
  try go_wp2
  refine (fun (rest : (?T6 : Prop)) => ?main6) ?rest6
  case main6 =>
   have IS := Aside0.mk ((I.out.imp (fun _ _ => trivial)).sub (.cons_cons _ (.cons _ (.cons _ (.cons _ .slnil))))).drew
   refine draw_ (Inv _ w [_] (fun _ => True)) [] kk rfl IS.out ?_
   have I2 := Aside0.mk I.out.drew
   have I := I2
   clear I2
   refine ta1 (i := 0) rfl rfl kk rfl rfl IS.out zm (by exact ld_st) ?_ (ha := by (go_simp; rfl))
   refine two1 (i := 1) (j := 6) rfl rfl rfl rfl kk (by decide) (by decide) (fun K hK => ?_) (fun K hK => ?_)
   ·
     refine cs1 hK rfl Tryz.func25 kk rfl #[.int .i64 3] rfl zh ?_
     refine (ackm_c _).mono ?_
     rintro e_ w1 ⟨g, rfl, hf, hb⟩
     have I2 := Aside0.mk (I.out.addNew hb hf (fun k hk _ => I.out.new_out k hk))
     clear I IS hb hf
     have I := I2
     clear I2
     have IS := Aside0.mk ((I.out.imp (fun _ _ => trivial)).sub (.cons_cons _ (.cons _ (.cons _ (.cons _ .slnil)))))
     refine ⟨_, rfl, IS.out, ?_⟩
     refine two1 (i := 2) (j := 6) rfl rfl rfl rfl kk (by decide) (by decide) (fun K hK => ?_) (fun K hK => ?_)
     ·
       refine cs1 hK rfl Tryz.func11 kk rfl #[.agg (stC (⟨#[97]⟩ : ByteArray) (⟨#[104]⟩ : ByteArray) 2 3 7 false 0 167772161 0 0 0 7 1), .agg (pkC 5 3 7 (⟨#[97]⟩ : ByteArray) false 0 0 false 0 167772161 false 0 0 false (.slice (some ⟨g, 0, none⟩) 1 1)), .int .i64 9] rfl zh ?_
       refine (cw_ak _ _ (I.out.foot.imp (fun W hW => hW.2))).mono ?_
       rintro e_ w1 ⟨A, c, rfl, hf, hb⟩
       have I2 := Aside0.mk (I.out.addNew hb hf (fun k hk _ => I.out.new_out k hk))
       clear I IS hb hf
       have I := I2
       clear I2
       have IS := Aside0.mk ((I.out.imp (fun _ _ => trivial)).sub (.cons_cons _ (.cons _ (.cons _ (.cons _ .slnil)))))
       refine ⟨_, rfl, IS.out, ?_⟩
       refine pu1 (i := 3) rfl rfl kk ?_ (ha := by (go_simp; rfl))
       refine pu1 (i := 4) rfl rfl kk ?_ (ha := by (go_simp; rfl))
       refine pu1 (i := 5) rfl rfl kk ?_ (ha := by (go_simp; rfl))
       refine al1 (i := 6) (t := 28) (cs := (stC (⟨#[]⟩ : ByteArray) (⟨#[]⟩ : ByteArray) 0 0 0 false 0 0 0 0 0 0 0)) rfl rfl kk (by decide) ?hr I.out (fun gb w1 hI => ⟨(hI.imp (fun _ _ => trivial)).sub (.cons _ (.cons_cons _ (.cons _ (.cons _ (.cons _ .slnil))))), ?_⟩)
       case hr => first | (go_simp; done) | (go_simp; rfl)
       clear I IS
       have I := Aside0.mk hI
       clear hI
       have IS := Aside0.mk ((I.out.imp (fun _ _ => trivial)).sub (.cons _ (.cons_cons _ (.cons _ (.cons _ (.cons _ .slnil))))))
       refine st1 (i := 7) rfl rfl kk (by decide) rfl rfl rfl I.out zm (by first | exact sr_st) zu (fun w1 hI => ⟨(hI.imp (fun _ _ => trivial)).sub (.cons _ (.cons_cons _ (.cons _ (.cons _ (.cons _ .slnil))))), ?_⟩)
       clear I IS
       have I := Aside0.mk hI
       clear hI
       refine pu1 (i := 8) rfl rfl kk ?_ (ha := by (go_simp; rfl))
       refine do1 kk ?_
       replace I := I.out
       revert I
       revert w1
       revert c
       revert A
       revert gb
       revert g
       exact rest
     ·
       refine as1 (t := 28) (cs := (stC (⟨#[]⟩ : ByteArray) (⟨#[]⟩ : ByteArray) 0 0 0 false 0 0 0 0 0 0 0)) hK rfl ?hr I.out (fun gb w1 hI => ⟨(hI.imp (fun _ _ => trivial)).sub (.cons _ (.cons_cons _ (.cons _ (.cons _ (.cons _ .slnil))))), ?_⟩)
       case hr => first | (go_simp; done) | (go_simp; rfl)
       clear I IS
       have I := Aside0.mk hI
       clear hI
       have IS := Aside0.mk ((I.out.imp (fun _ _ => trivial)).sub (.cons _ (.cons_cons _ (.cons _ (.cons _ (.cons _ .slnil))))))
       refine ca1 (i := 2) rfl rfl kk (by decide) Tryz.func11 kk rfl #[.agg (stC (⟨#[97]⟩ : ByteArray) (⟨#[104]⟩ : ByteArray) 2 3 7 false 0 167772161 0 0 0 7 1), .agg (pkC 5 3 7 (⟨#[97]⟩ : ByteArray) false 0 0 false 0 167772161 false 0 0 false (.slice (some ⟨g, 0, none⟩) 1 1)), .int .i64 9] rfl zh ?_
       refine (cw_ak _ _ (I.out.foot.imp (fun W hW => hW.2))).mono ?_
       rintro e_ w1 ⟨A, c, rfl, hf, hb⟩
       have I2 := Aside0.mk (I.out.addNew hb hf (fun k hk _ => I.out.new_out k hk))
       clear I IS hb hf
       have I := I2
       clear I2
       have IS := Aside0.mk ((I.out.imp (fun _ _ => trivial)).sub (.cons _ (.cons_cons _ (.cons _ (.cons _ (.cons _ .slnil))))))
       refine ⟨_, rfl, IS.out, ?_⟩
       refine pu1 (i := 3) rfl rfl kk ?_ (ha := by (go_simp; rfl))
       refine pu1 (i := 4) rfl rfl kk ?_ (ha := by (go_simp; rfl))
       refine pu1 (i := 5) rfl rfl kk ?_ (ha := by (go_simp; rfl))
       refine st1 (i := 7) rfl rfl kk (by decide) rfl rfl rfl I.out zm (by first | exact sr_st) zu (fun w1 hI => ⟨(hI.imp (fun _ _ => trivial)).sub (.cons _ (.cons_cons _ (.cons _ (.cons _ (.cons _ .slnil))))), ?_⟩)
       clear I IS
       have I := Aside0.mk hI
       clear hI
       refine pu1 (i := 8) rfl rfl kk ?_ (ha := by (go_simp; rfl))
       refine do1 kk ?_
       replace I := I.out
       revert I
       revert w1
       revert c
       revert A
       revert gb
       revert g
       exact rest
   ·
     refine as1 (t := 28) (cs := (stC (⟨#[]⟩ : ByteArray) (⟨#[]⟩ : ByteArray) 0 0 0 false 0 0 0 0 0 0 0)) hK rfl ?hr I.out (fun gb w1 hI => ⟨(hI.imp (fun _ _ => trivial)).sub (.cons _ (.cons_cons _ (.cons _ (.cons _ (.cons _ .slnil))))), ?_⟩)
     case hr => first | (go_simp; done) | (go_simp; rfl)
     clear I IS
     have I := Aside0.mk hI
     clear hI
     have IS := Aside0.mk ((I.out.imp (fun _ _ => trivial)).sub (.cons _ (.cons_cons _ (.cons _ (.cons _ (.cons _ .slnil))))))
     refine ca1 (i := 1) rfl rfl kk (by decide) Tryz.func25 kk rfl #[.int .i64 3] rfl zh ?_
     refine (ackm_c _).mono ?_
     rintro e_ w1 ⟨g, rfl, hf, hb⟩
     have I2 := Aside0.mk (I.out.addNew hb hf (fun k hk _ => I.out.new_out k hk))
     clear I IS hb hf
     have I := I2
     clear I2
     have IS := Aside0.mk ((I.out.imp (fun _ _ => trivial)).sub (.cons _ (.cons_cons _ (.cons _ (.cons _ (.cons _ .slnil))))))
     refine ⟨_, rfl, IS.out, ?_⟩
     refine ca1 (i := 2) rfl rfl kk (by decide) Tryz.func11 kk rfl #[.agg (stC (⟨#[97]⟩ : ByteArray) (⟨#[104]⟩ : ByteArray) 2 3 7 false 0 167772161 0 0 0 7 1), .agg (pkC 5 3 7 (⟨#[97]⟩ : ByteArray) false 0 0 false 0 167772161 false 0 0 false (.slice (some ⟨g, 0, none⟩) 1 1)), .int .i64 9] rfl zh ?_
     refine (cw_ak _ _ (I.out.foot.imp (fun W hW => hW.2))).mono ?_
     rintro e_ w1 ⟨A, c, rfl, hf, hb⟩
     have I2 := Aside0.mk (I.out.addNew hb hf (fun k hk _ => I.out.new_out k hk))
     clear I IS hb hf
     have I := I2
     clear I2
     have IS := Aside0.mk ((I.out.imp (fun _ _ => trivial)).sub (.cons _ (.cons_cons _ (.cons _ (.cons _ (.cons _ .slnil))))))
     refine ⟨_, rfl, IS.out, ?_⟩
     refine pu1 (i := 3) rfl rfl kk ?_ (ha := by (go_simp; rfl))
     refine pu1 (i := 4) rfl rfl kk ?_ (ha := by (go_simp; rfl))
     refine pu1 (i := 5) rfl rfl kk ?_ (ha := by (go_simp; rfl))
     refine st1 (i := 7) rfl rfl kk (by decide) rfl rfl rfl I.out zm (by first | exact sr_st) zu (fun w1 hI => ⟨(hI.imp (fun _ _ => trivial)).sub (.cons _ (.cons_cons _ (.cons _ (.cons _ (.cons _ .slnil))))), ?_⟩)
     clear I IS
     have I := Aside0.mk hI
     clear hI
     refine pu1 (i := 8) rfl rfl kk ?_ (ha := by (go_simp; rfl))
     refine do1 kk ?_
     replace I := I.out
     revert I
     revert w1
     revert c
     revert A
     revert gb
     revert g
     exact rest
  case rest6 =>
   intro g gb A c w1 I
   have I := Aside0.mk (I.imp (fun W hW => hW.1.1))
   obtain ⟨⟨⟨_, k5⟩, k7⟩, k9⟩ := I.out.now
   obtain ⟨ad5, _, _, e5, -⟩ := at_T38 k5 0 (by decide) (by decide); subst e5
   obtain ⟨ad7, _, _, e7, -⟩ := at_T38 k7 0 (by decide) (by decide); subst e7
   obtain ⟨ad9, _, _, e9, -⟩ := at_T38 k9 0 (by decide) (by decide); subst e9
   clear k5 k7 k9
   go_wp2_with (first
    | (refine ak rfl (al_S rfl) I ?_; clear I; intro gb w1 I)
    | (refine ak rfl (al_A rfl) I ?_; clear I; intro gb w1 I)
    | (refine gL rfl ?_; refine ll rfl rfl rfl I zm9 (by first | exact ld_st | exact ld_ad | exact ld_st2 | exact ld_st8 | exact ld_st9 | exact ld_st10) ?_)
    | ((with_reducible refine gate_ld rfl ?_); (try (refine gate_guard (by rfl) ?_; dsimp only)); obtain ⟨⟨⟨⟨_, k5⟩, k7⟩, k9⟩, k17⟩ := I.out.now; obtain ⟨ad5, B5, b5, e5, c5_0, c5_1, c5_2, -, -, -, -, -, -, -, -, -, -, -, c5_14, -, o5⟩ := at_T38 k5 0 (by decide) (by decide); cases e5; obtain ⟨ad7, B7, b7, e7, c7_0, c7_1, c7_2, -, -, -, -, -, -, -, -, -, -, -, c7_14, -, o7⟩ := at_T38 k7 0 (by decide) (by decide); cases e7; obtain ⟨ad9, B9, b9, e9, c9_0, c9_1, c9_2, -, -, -, -, -, -, -, -, -, -, -, c9_14, -, o9⟩ := at_T38 k9 0 (by decide) (by decide); cases e9; obtain ⟨ad17, B17, b17, e17, c17_0, c17_1, c17_2, -, -, -, -, -, -, -, -, -, -, -, c17_14, -, o17⟩ := at_T38 k17 0 (by decide) (by decide); cases e17; (first | refine wl_cell rfl rfl rfl _ Tryz.underlying3 rfl c5_0 ?_ | refine wl_cell rfl rfl rfl _ Tryz.underlying3 rfl c5_1 ?_ | refine wl_cell rfl rfl rfl _ Tryz.underlying3 rfl c5_2 ?_ | refine wl_cell rfl rfl rfl _ Tryz.underlying3 rfl c7_0 ?_ | refine wl_cell rfl rfl rfl _ Tryz.underlying3 rfl c7_1 ?_ | refine wl_cell rfl rfl rfl _ Tryz.underlying3 rfl c7_2 ?_ | refine wl_cell rfl rfl rfl _ Tryz.underlying3 rfl c9_0 ?_ | refine wl_cell rfl rfl rfl _ Tryz.underlying3 rfl c9_1 ?_ | refine wl_cell rfl rfl rfl _ Tryz.underlying3 rfl c9_2 ?_ | refine wl_cell rfl rfl rfl _ Tryz.underlying3 rfl c17_0 ?_ | refine wl_cell rfl rfl rfl _ Tryz.underlying3 rfl c17_1 ?_ | refine wl_cell rfl rfl rfl _ Tryz.underlying3 rfl c17_2 ?_ | refine wl_cell rfl rfl rfl _ Tryz.underlying36 rfl c9_14 ?_))
    | (refine gD 51 rfl ?_; refine ck rfl Tryz.func17 kk rfl #[.agg (stC (⟨#[97]⟩ : ByteArray) (⟨#[104]⟩ : ByteArray) 3 3 7 false 0 167772161 57 94 107 7 0), .int .i64 106] rfl zh (cw_h1 _) ?_; rintro e_ w1 ⟨rfl, hb⟩; refine ⟨_, rfl, ?_⟩; replace I := callK I hb; clear hb)
    | (refine gD 56 rfl ?_; refine ck rfl Tryz.func17 kk rfl #[.agg (stC (⟨#[97]⟩ : ByteArray) (⟨#[104]⟩ : ByteArray) 3 3 7 false 0 167772161 57 94 107 7 0), .int .i64 107] rfl zh (cw_h2 _) ?_; rintro e_ w1 ⟨rfl, hb⟩; refine ⟨_, rfl, ?_⟩; replace I := callK I hb; clear hb)
    | (refine gD 61 rfl ?_; refine ck rfl Tryz.func13 kk rfl #[.agg (stC (⟨#[97]⟩ : ByteArray) (⟨#[104]⟩ : ByteArray) 3 3 7 false 0 167772161 57 94 107 7 0), .int .i64 20] rfl zh (cw_lv _) ?_; rintro e_ w1 ⟨A, c, rfl, hf, hb⟩; obtain ⟨ad17, _, _, e17, -⟩ := at_T38 hf.now 0 (by decide) (by decide); subst e17; refine ⟨_, rfl, ?_⟩; replace I := addK I hb hf; clear hb hf)
    | (refine gS rfl ?_; refine sk rfl rfl rfl rfl rfl I zm9 (by first | exact sr_st | exact sr_ad) zu9 ?_; clear I; intro w1 I)
    )
   simp only [List.append, List.append_eq, List.cons_append, List.nil_append]
   obtain ⟨⟨⟨⟨_, k5⟩, k7⟩, k9⟩, k17⟩ := I.out.now
   obtain ⟨ad5, B5, b5, e5, c5_0, c5_1, c5_2, -, -, -, -, -, -, -, -, -, -, -, c5_14, -, o5⟩ := at_T38 k5 0 (by decide) (by decide)
   cases e5
   obtain ⟨ad7, B7, b7, e7, c7_0, c7_1, c7_2, -, -, -, -, -, -, -, -, -, -, -, c7_14, -, o7⟩ := at_T38 k7 0 (by decide) (by decide)
   cases e7
   obtain ⟨ad9, B9, b9, e9, c9_0, c9_1, c9_2, -, -, -, -, -, -, -, -, -, -, -, c9_14, -, o9⟩ := at_T38 k9 0 (by decide) (by decide)
   cases e9
   obtain ⟨ad17, B17, b17, e17, c17_0, c17_1, c17_2, -, -, -, -, -, -, -, -, -, -, -, c17_14, -, o17⟩ := at_T38 k17 0 (by decide) (by decide)
   cases e17
   obtain ⟨adO, eO, p0_0, p0_1⟩ := at_T62 o9 0 (by decide) (by decide)
   obtain ⟨adP, eP, p1_0, p1_1⟩ := at_T62 o9 1 (by decide) (by decide)
   subst eO
   cases eP
   replace c5_0 : _ = some (Value.int IntKind.i64 1 : Value) := c5_0
   replace c5_1 : _ = some (Value.int IntKind.i64 1 : Value) := c5_1
   replace c7_1 : _ = some (Value.int IntKind.i64 2 : Value) := c7_1
   replace c9_0 : _ = some (Value.int IntKind.i64 3 : Value) := c9_0
   replace c9_2 : _ = some (Value.int IntKind.i64 7 : Value) := c9_2
   replace c9_14 : _ = some (Value.slice _ 2 _ : Value) := c9_14
   replace c17_0 : _ = some (Value.int IntKind.i64 7 : Value) := c17_0
   replace c17_1 : _ = some (Value.int IntKind.i64 4 : Value) := c17_1
   replace p0_0 : _ = some (Value.int IntKind.i64 50 : Value) := p0_0
   replace p0_1 : _ = some (Value.string (⟨#[10, 0, 0, 1]⟩ : ByteArray) : Value) := p0_1
   replace p1_0 : _ = some (Value.int IntKind.i64 12 : Value) := p1_0
   replace p1_1 : _ = some (Value.string (⟨#[104]⟩ : ByteArray) : Value) := p1_1
   have HS := Aside0.mk (below_drew1 (Below.refl w1.heap.size w1))
   refine draw_ (fun W => Below w1.heap.size w1 W) [] kk rfl HS.out ?_
   refine pu1 (i := 0) rfl rfl (by as_aux_lemma => kernel_rfl) ?_ (ha := by as_aux_lemma => (go_simp; rfl))
   refine pu1 (i := 1) rfl rfl (by as_aux_lemma => kernel_rfl) ?_ (ha := by as_aux_lemma => (go_simp; rfl))
   refine pu1 (i := 2) rfl rfl (by as_aux_lemma => kernel_rfl) ?_ (ha := by as_aux_lemma => (go_simp; rfl))
   refine tc1 (i := 3) rfl rfl (by as_aux_lemma => kernel_rfl) HS.out (run_cellB rfl rfl _ Tryz.underlying3 rfl c5_0) ?_ (ha := by (go_simp; rfl))
   refine pu1 (i := 4) rfl rfl (by as_aux_lemma => kernel_rfl) ?_ (ha := by as_aux_lemma => (go_simp; rfl))
   refine pu1 (i := 5) rfl rfl (by as_aux_lemma => kernel_rfl) ?_ (ha := by as_aux_lemma => (go_simp; rfl))
   refine pu1 (i := 6) rfl rfl (by as_aux_lemma => kernel_rfl) ?_ (ha := by as_aux_lemma => (go_simp; rfl))
   refine pu1 (i := 7) rfl rfl (by as_aux_lemma => kernel_rfl) ?_ (ha := by as_aux_lemma => (go_simp; rfl))
   refine pu1 (i := 8) rfl rfl (by as_aux_lemma => kernel_rfl) ?_ (ha := by as_aux_lemma => (go_simp; rfl))
   refine tc1 (i := 9) rfl rfl (by as_aux_lemma => kernel_rfl) HS.out (run_cellB rfl rfl _ Tryz.underlying3 rfl c5_1) ?_ (ha := by (go_simp; rfl))
   refine pu1 (i := 10) rfl rfl (by as_aux_lemma => kernel_rfl) ?_ (ha := by as_aux_lemma => (go_simp; rfl))
   refine pu1 (i := 11) rfl rfl (by as_aux_lemma => kernel_rfl) ?_ (ha := by as_aux_lemma => (go_simp; rfl))
   refine pu1 (i := 12) rfl rfl (by as_aux_lemma => kernel_rfl) ?_ (ha := by as_aux_lemma => (go_simp; rfl))
   refine pu1 (i := 13) rfl rfl (by as_aux_lemma => kernel_rfl) ?_ (ha := by as_aux_lemma => (go_simp; rfl))
   refine pu1 (i := 14) rfl rfl (by as_aux_lemma => kernel_rfl) ?_ (ha := by as_aux_lemma => (go_simp; rfl))
   refine pu1 (i := 15) rfl rfl (by as_aux_lemma => kernel_rfl) ?_ (ha := by as_aux_lemma => (go_simp; rfl))
   refine tc1 (i := 16) rfl rfl (by as_aux_lemma => kernel_rfl) HS.out (run_cellB rfl rfl _ Tryz.underlying3 rfl c7_1) ?_ (ha := by (go_simp; rfl))
   refine pu1 (i := 17) rfl rfl (by as_aux_lemma => kernel_rfl) ?_ (ha := by as_aux_lemma => (go_simp; rfl))
   refine pu1 (i := 18) rfl rfl (by as_aux_lemma => kernel_rfl) ?_ (ha := by as_aux_lemma => (go_simp; rfl))
   refine pu1 (i := 19) rfl rfl (by as_aux_lemma => kernel_rfl) ?_ (ha := by as_aux_lemma => (go_simp; rfl))
   refine pu1 (i := 20) rfl rfl (by as_aux_lemma => kernel_rfl) ?_ (ha := by as_aux_lemma => (go_simp; rfl))
   refine pu1 (i := 21) rfl rfl (by as_aux_lemma => kernel_rfl) ?_ (ha := by as_aux_lemma => (go_simp; rfl))
   refine pu1 (i := 22) rfl rfl (by as_aux_lemma => kernel_rfl) ?_ (ha := by as_aux_lemma => (go_simp; rfl))
   refine tc1 (i := 23) rfl rfl (by as_aux_lemma => kernel_rfl) HS.out (run_cellB rfl rfl _ Tryz.underlying3 rfl c9_0) ?_ (ha := by (go_simp; rfl))
   refine pu1 (i := 24) rfl rfl (by as_aux_lemma => kernel_rfl) ?_ (ha := by as_aux_lemma => (go_simp; rfl))
   refine pu1 (i := 25) rfl rfl (by as_aux_lemma => kernel_rfl) ?_ (ha := by as_aux_lemma => (go_simp; rfl))
   refine pu1 (i := 26) rfl rfl (by as_aux_lemma => kernel_rfl) ?_ (ha := by as_aux_lemma => (go_simp; rfl))
   refine pu1 (i := 27) rfl rfl (by as_aux_lemma => kernel_rfl) ?_ (ha := by as_aux_lemma => (go_simp; rfl))
   refine pu1 (i := 28) rfl rfl (by as_aux_lemma => kernel_rfl) ?_ (ha := by as_aux_lemma => (go_simp; rfl))
   refine pu1 (i := 29) rfl rfl (by as_aux_lemma => kernel_rfl) ?_ (ha := by as_aux_lemma => (go_simp; rfl))
   refine tc1 (i := 30) rfl rfl (by as_aux_lemma => kernel_rfl) HS.out (run_cellB rfl rfl _ Tryz.underlying3 rfl c9_2) ?_ (ha := by (go_simp; rfl))
   refine pu1 (i := 31) rfl rfl (by as_aux_lemma => kernel_rfl) ?_ (ha := by as_aux_lemma => (go_simp; rfl))
   refine pu1 (i := 32) rfl rfl (by as_aux_lemma => kernel_rfl) ?_ (ha := by as_aux_lemma => (go_simp; rfl))
   refine pu1 (i := 33) rfl rfl (by as_aux_lemma => kernel_rfl) ?_ (ha := by as_aux_lemma => (go_simp; rfl))
   refine pu1 (i := 34) rfl rfl (by as_aux_lemma => kernel_rfl) ?_ (ha := by as_aux_lemma => (go_simp; rfl))
   refine pu1 (i := 35) rfl rfl (by as_aux_lemma => kernel_rfl) ?_ (ha := by as_aux_lemma => (go_simp; rfl))
   refine pu1 (i := 36) rfl rfl (by as_aux_lemma => kernel_rfl) ?_ (ha := by as_aux_lemma => (go_simp; rfl))
   refine tc1 (i := 37) rfl rfl (by as_aux_lemma => kernel_rfl) HS.out (run_cellB rfl rfl _ Tryz.underlying36 rfl c9_14) ?_ (ha := by (go_simp; rfl))
   refine pu1 (i := 38) rfl rfl (by as_aux_lemma => kernel_rfl) ?_ (ha := by as_aux_lemma => (go_simp; rfl))
   refine tc1 (i := 39) rfl rfl (by as_aux_lemma => kernel_rfl) HS.out (run_twoB rfl rfl p0_0 p0_1) ?_ (ha := by (go_simp; rfl))
   refine pu1 (i := 40) rfl rfl (by as_aux_lemma => kernel_rfl) ?_ (ha := by as_aux_lemma => (go_simp; rfl))
   refine pu1 (i := 41) rfl rfl (by as_aux_lemma => kernel_rfl) ?_ (ha := by as_aux_lemma => (go_simp; rfl))
   refine pu1 (i := 42) rfl rfl (by as_aux_lemma => kernel_rfl) ?_ (ha := by as_aux_lemma => (go_simp; rfl))
   refine pu1 (i := 43) rfl rfl (by as_aux_lemma => kernel_rfl) ?_ (ha := by as_aux_lemma => (go_simp; rfl))
   refine pu1 (i := 44) rfl rfl (by as_aux_lemma => kernel_rfl) ?_ (ha := by as_aux_lemma => (go_simp; rfl))
   refine pu1 (i := 45) rfl rfl (by as_aux_lemma => kernel_rfl) ?_ (ha := by as_aux_lemma => (go_simp; rfl))
   refine pu1 (i := 46) rfl rfl (by as_aux_lemma => kernel_rfl) ?_ (ha := by as_aux_lemma => (go_simp; rfl))
   refine tc1 (i := 47) rfl rfl (by as_aux_lemma => kernel_rfl) HS.out (run_cellB rfl rfl _ Tryz.underlying36 rfl c9_14) ?_ (ha := by (go_simp; rfl))
   refine pu1 (i := 48) rfl rfl (by as_aux_lemma => kernel_rfl) ?_ (ha := by as_aux_lemma => (go_simp; rfl))
   refine tc1 (i := 49) rfl rfl (by as_aux_lemma => kernel_rfl) HS.out (run_twoB rfl rfl p1_0 p1_1) ?_ (ha := by (go_simp; rfl))
   refine pu1 (i := 50) rfl rfl (by as_aux_lemma => kernel_rfl) ?_ (ha := by as_aux_lemma => (go_simp; rfl))
   refine pu1 (i := 51) rfl rfl (by as_aux_lemma => kernel_rfl) ?_ (ha := by as_aux_lemma => (go_simp; rfl))
   refine pu1 (i := 52) rfl rfl (by as_aux_lemma => kernel_rfl) ?_ (ha := by as_aux_lemma => (go_simp; rfl))
   refine pu1 (i := 53) rfl rfl (by as_aux_lemma => kernel_rfl) ?_ (ha := by as_aux_lemma => (go_simp; rfl))
   refine pu1 (i := 54) rfl rfl (by as_aux_lemma => kernel_rfl) ?_ (ha := by as_aux_lemma => (go_simp; rfl))
   refine tc1 (i := 55) rfl rfl (by as_aux_lemma => kernel_rfl) HS.out (run_ownB rfl rfl I.out zm9 (by exact ld_st2)) ?_ (ha := by (go_simp; rfl))
   refine pu1 (i := 56) rfl rfl (by as_aux_lemma => kernel_rfl) ?_ (ha := by as_aux_lemma => (go_simp; rfl))
   refine pu1 (i := 57) rfl rfl (by as_aux_lemma => kernel_rfl) ?_ (ha := by as_aux_lemma => (go_simp; rfl))
   refine pu1 (i := 58) rfl rfl (by as_aux_lemma => kernel_rfl) ?_ (ha := by as_aux_lemma => (go_simp; rfl))
   refine pu1 (i := 59) rfl rfl (by as_aux_lemma => kernel_rfl) ?_ (ha := by as_aux_lemma => (go_simp; rfl))
   refine tc1 (i := 60) rfl rfl (by as_aux_lemma => kernel_rfl) HS.out (run_ownB rfl rfl I.out zm9 (by exact ld_st8)) ?_ (ha := by (go_simp; rfl))
   refine pu1 (i := 61) rfl rfl (by as_aux_lemma => kernel_rfl) ?_ (ha := by as_aux_lemma => (go_simp; rfl))
   refine pu1 (i := 62) rfl rfl (by as_aux_lemma => kernel_rfl) ?_ (ha := by as_aux_lemma => (go_simp; rfl))
   refine pu1 (i := 63) rfl rfl (by as_aux_lemma => kernel_rfl) ?_ (ha := by as_aux_lemma => (go_simp; rfl))
   refine pu1 (i := 64) rfl rfl (by as_aux_lemma => kernel_rfl) ?_ (ha := by as_aux_lemma => (go_simp; rfl))
   refine tc1 (i := 65) rfl rfl (by as_aux_lemma => kernel_rfl) HS.out (run_ownB rfl rfl I.out zm9 (by exact ld_st9)) ?_ (ha := by (go_simp; rfl))
   refine pu1 (i := 66) rfl rfl (by as_aux_lemma => kernel_rfl) ?_ (ha := by as_aux_lemma => (go_simp; rfl))
   refine pu1 (i := 67) rfl rfl (by as_aux_lemma => kernel_rfl) ?_ (ha := by as_aux_lemma => (go_simp; rfl))
   refine pu1 (i := 68) rfl rfl (by as_aux_lemma => kernel_rfl) ?_ (ha := by as_aux_lemma => (go_simp; rfl))
   refine pu1 (i := 69) rfl rfl (by as_aux_lemma => kernel_rfl) ?_ (ha := by as_aux_lemma => (go_simp; rfl))
   refine tc1 (i := 70) rfl rfl (by as_aux_lemma => kernel_rfl) HS.out (run_ownB rfl rfl I.out zm9 (by exact ld_st10)) ?_ (ha := by (go_simp; rfl))
   refine pu1 (i := 71) rfl rfl (by as_aux_lemma => kernel_rfl) ?_ (ha := by as_aux_lemma => (go_simp; rfl))
   refine pu1 (i := 72) rfl rfl (by as_aux_lemma => kernel_rfl) ?_ (ha := by as_aux_lemma => (go_simp; rfl))
   refine pu1 (i := 73) rfl rfl (by as_aux_lemma => kernel_rfl) ?_ (ha := by as_aux_lemma => (go_simp; rfl))
   refine pu1 (i := 74) rfl rfl (by as_aux_lemma => kernel_rfl) ?_ (ha := by as_aux_lemma => (go_simp; rfl))
   refine pu1 (i := 75) rfl rfl (by as_aux_lemma => kernel_rfl) ?_ (ha := by as_aux_lemma => (go_simp; rfl))
   refine pu1 (i := 76) rfl rfl (by as_aux_lemma => kernel_rfl) ?_ (ha := by as_aux_lemma => (go_simp; rfl))
   refine tc1 (i := 77) rfl rfl (by as_aux_lemma => kernel_rfl) HS.out (run_ownB rfl rfl I.out zm9 (by exact ld_ad)) ?_ (ha := by (go_simp; rfl))
   refine ca1 (i := 78) rfl rfl kk (by decide) Tryz.func24 kk rfl #[.int .u64 1] rfl zh ?_
   refine (ten_c _).mono ?_
   rintro e_ w2 ⟨rfl, hb⟩
   have HS2 := Aside0.mk (below_step HS.out hb)
   clear HS hb
   have HS := HS2
   clear HS2
   refine ⟨_, rfl, HS.out, ?_⟩
   refine pu1 (i := 79) rfl rfl (by as_aux_lemma => kernel_rfl) ?_ (ha := by as_aux_lemma => (go_simp; rfl))
   refine pu1 (i := 80) rfl rfl (by as_aux_lemma => kernel_rfl) ?_ (ha := by as_aux_lemma => (go_simp; rfl))
   refine pu1 (i := 81) rfl rfl (by as_aux_lemma => kernel_rfl) ?_ (ha := by as_aux_lemma => (go_simp; rfl))
   refine pu1 (i := 82) rfl rfl (by as_aux_lemma => kernel_rfl) ?_ (ha := by as_aux_lemma => (go_simp; rfl))
   refine pu1 (i := 83) rfl rfl (by as_aux_lemma => kernel_rfl) ?_ (ha := by as_aux_lemma => (go_simp; rfl))
   refine pu1 (i := 84) rfl rfl (by as_aux_lemma => kernel_rfl) ?_ (ha := by as_aux_lemma => (go_simp; rfl))
   refine pu1 (i := 85) rfl rfl (by as_aux_lemma => kernel_rfl) ?_ (ha := by as_aux_lemma => (go_simp; rfl))
   refine pu1 (i := 86) rfl rfl (by as_aux_lemma => kernel_rfl) ?_ (ha := by as_aux_lemma => (go_simp; rfl))
   refine pu1 (i := 87) rfl rfl (by as_aux_lemma => kernel_rfl) ?_ (ha := by as_aux_lemma => (go_simp; rfl))
   refine pu1 (i := 88) rfl rfl (by as_aux_lemma => kernel_rfl) ?_ (ha := by as_aux_lemma => (go_simp; rfl))
   refine tc1 (i := 89) rfl rfl (by as_aux_lemma => kernel_rfl) HS.out (run_cellB rfl rfl _ Tryz.underlying3 rfl c17_0) ?_ (ha := by (go_simp; rfl))
   refine pu1 (i := 90) rfl rfl (by as_aux_lemma => kernel_rfl) ?_ (ha := by as_aux_lemma => (go_simp; rfl))
   refine pu1 (i := 91) rfl rfl (by as_aux_lemma => kernel_rfl) ?_ (ha := by as_aux_lemma => (go_simp; rfl))
   refine pu1 (i := 92) rfl rfl (by as_aux_lemma => kernel_rfl) ?_ (ha := by as_aux_lemma => (go_simp; rfl))
   refine pu1 (i := 93) rfl rfl (by as_aux_lemma => kernel_rfl) ?_ (ha := by as_aux_lemma => (go_simp; rfl))
   refine pu1 (i := 94) rfl rfl (by as_aux_lemma => kernel_rfl) ?_ (ha := by as_aux_lemma => (go_simp; rfl))
   refine pu1 (i := 95) rfl rfl (by as_aux_lemma => kernel_rfl) ?_ (ha := by as_aux_lemma => (go_simp; rfl))
   refine tc1 (i := 96) rfl rfl (by as_aux_lemma => kernel_rfl) HS.out (run_cellB rfl rfl _ Tryz.underlying3 rfl c17_1) ?_ (ha := by (go_simp; rfl))
   refine pu1 (i := 97) rfl rfl (by as_aux_lemma => kernel_rfl) ?_ (ha := by as_aux_lemma => (go_simp; rfl))
   refine pu1 (i := 98) rfl rfl (by as_aux_lemma => kernel_rfl) ?_ (ha := by as_aux_lemma => (go_simp; rfl))
   refine pu1 (i := 99) rfl rfl (by as_aux_lemma => kernel_rfl) ?_ (ha := by as_aux_lemma => (go_simp; rfl))
   refine pu1 (i := 100) rfl rfl (by as_aux_lemma => kernel_rfl) ?_ (ha := by as_aux_lemma => (go_simp; rfl))
   refine tc1 (i := 101) rfl rfl (by as_aux_lemma => kernel_rfl) HS.out (run_ownB rfl rfl I.out zm9 (by exact ld_st2)) ?_ (ha := by (go_simp; rfl))
   refine pu1 (i := 102) rfl rfl (by as_aux_lemma => kernel_rfl) ?_ (ha := by as_aux_lemma => (go_simp; rfl))
   refine pu1 (i := 103) rfl rfl (by as_aux_lemma => kernel_rfl) ?_ (ha := by as_aux_lemma => (go_simp; rfl))
   refine pu1 (i := 104) rfl rfl (by as_aux_lemma => kernel_rfl) ?_ (ha := by as_aux_lemma => (go_simp; rfl))
   refine do1 (by as_aux_lemma => kernel_rfl) ?_
   go_wp2
   go_ret
   exact ⟨rfl, I.out.below.trans (HS.out.mono I.out.below.size)⟩
end Go.Proofs.YtlabnocmmeciaaaGreatDoor.BQ
namespace Go.Proofs.YtlabnocmmeciaaaGreatDoor.LAW
open Go RowKit YtlabnocmmeciaaaGreatDoorW.PrintWords YtlabnocmmeciaaaGreatDoorW.PrintLast YtlabnocmmeciaaaGreatDoorW.PrintMore Pa STN DN OPT PLN BQ
section
variable {client host : ByteArray} {now at_ : Int} {n cc g9 g11 i : Nat} {ad : Addr} {A16 : Option Addr} {c16 : Nat} {w wr : World} {u : Nat → Value} {s : Stn} {K : Act → World → Prop} {Q : Exit → Act → World → Prop} {x : S40}
theorem pl_tail {a_ : Act} (h2 : pR2 client host now (some ad) n cc g9 g11 w i at_ a_ wr) (hat : (0 ≤ at_ ∧ at_ ≤ 4294967295)) (hK : ∀ a' w', pR0 client host now (some ad) n cc g9 g11 w i a' w' → Q .normal a' w') : Code.wp Tryz.prog (csnd (csnd (csnd (cblk (cfst (csnd (clp (cblk (csnd (cfst (csnd (csnd (csnd (csnd (csnd (csnd (cbody Tryz.f3))))))))))))))))) Q a_ wr := by
 obtain ⟨s, l, v15, v16, v72, u, rfl, hJ, hT, hF, hi_⟩ := h2
 dsimp only [cbody, cfst, csnd, cblk, clp, Tryz.f3, Option.getD]
 dsimp only [frP]
 have I := Aside0.mk hi_
 clear hi_
 replace hK := Aside0.mk hK
 replace hJ := Aside0.mk hJ
 replace hT := Aside0.mk hT
 replace hF := Aside0.mk hF
 replace hat := Aside0.mk hat
 have hu26 := Tryz.underlying28
 have hu39 := Tryz.underlying38
 have hu24 := Tryz.underlying26
 go_wp2_with (first
  | (refine gD 165 rfl ?_; refine ll rfl rfl rfl I mm1 ld_stAS ?_)
  | (refine gD 166 rfl ?_; refine ll rfl rfl rfl I mm0 ld_stAR ?_)
  | (refine gD 167 rfl ?_; refine vk rfl (ne0T rfl rfl rfl) ?_)
  | (refine gD 171 rfl ?_; refine ck rfl Tryz.func19 kk rfl #[v15, v16] rfl zh (packets_c l v15 v16 _ (I.out.now).1 (I.out.now).2 hF.out) ?_; rintro e_ w1 ⟨rfl, hb⟩; refine ⟨_, rfl, ?_⟩; replace I := callK I hb; clear hb)
  )
 try refine hK.out _ _ ?_
 refine pR0_mk (s := s) (at_ := at_) (A := some ad) ?_ hJ.out hT.out hat.out (I.out.imp (fun _ _ => trivial))
 kernel_rfl
end
section
variable {client host : ByteArray} {now : Int} {cc g9 g11 i n : Nat} {A : Option Addr} {w wr : World} {K : Act → World → Prop} {Q : Exit → Act → World → Prop} {a : Act}
theorem inb1P {Q0 : Exit → Act → World → Prop} (h : K a wr) : Exit.inBlock 1 (Exit.then K Q0) (.exit 1) a wr := by
  show (if (1 : Nat) = 1 then Exit.then K Q0 .normal a wr else Exit.then K Q0 (.exit 1) a wr)
  rw [if_pos rfl]; exact h
theorem pl_next (h0 : pR0 client host now A n cc g9 g11 w i a wr) (hi : i < n) (hn : n ≤ 80) (hK : ∀ a' w', pR0 client host now A n cc g9 g11 w (i + 1) a' w' → Q .normal a' w') : Code.wp Tryz.prog (csnd (csnd (clp (cblk (csnd (cfst (csnd (csnd (csnd (csnd (csnd (csnd (cbody Tryz.f3))))))))))))) Q a wr := by
 obtain ⟨s, at_, v15, v16, v72, u, rfl, hJ, hT, hat, hI⟩ := h0
 dsimp only [cbody, cfst, csnd, cblk, clp, Tryz.f3, Option.getD]
 dsimp only [frP]
 replace hK := Aside0.mk hK
 replace hJ := Aside0.mk hJ
 replace hT := Aside0.mk hT
 replace hat := Aside0.mk hat
 have I := Aside0.mk hI
 clear hI
 have b1 : (i : Int) ≤ 80 := by omega
 go_wp2
 try refine hK.out _ _ ?_
 refine pR0_mk (s := s) (at_ := at_) (A := A) (i := i + 1) ?_ hJ.out hT.out hat.out I.out
 kernel_rfl
theorem pl_round {l : List S40} (hr : Kd.C k40 w A l.length l) (hx : ∀ x ∈ l, okS x) (hn : l.length ≤ 80) (h0 : pR0 client host now A l.length cc g9 g11 w i a wr) (hi : i ≤ l.length) (hK : ∀ a' w', i < l.length → pR0 client host now A l.length cc g9 g11 w (i + 1) a' w' → K a' w') (hE : ∀ a' w', pR0 client host now A l.length cc g9 g11 w i a' w' → Q (.exit 0) a' w') (hP : ∀ c (a : Act) w' N v, Q (.panic c) (a.put N v) w' → Q (.panic c) a w') : Code.wp Tryz.prog (clp (cblk (csnd (cfst (csnd (csnd (csnd (csnd (csnd (csnd (cbody Tryz.f3))))))))))) (Exit.then K Q) a wr := by
 have hnext : ∀ a' w', i < l.length → pR0 client host now A l.length cc g9 g11 w i a' w' → Code.wp Tryz.prog (csnd (csnd (clp (cblk (csnd (cfst (csnd (csnd (csnd (csnd (csnd (csnd (cbody Tryz.f3))))))))))))) (Exit.then K Q) a' w' := fun a' w' hlt h => pl_next h hlt hn (fun a2 w2 h2 => hK a2 w2 hlt h2)
 obtain ⟨s, at_, v15, v16, v72, u, rfl, hJ, hT, hat, hI⟩ := h0
 replace hJ := Aside0.mk hJ
 replace hT := Aside0.mk hT
 replace hat := Aside0.mk hat
 replace hnext := Aside0.mk hnext
 replace hE := Aside0.mk hE
 replace hP := Aside0.mk hP
 replace hK := Aside0.mk hK
 have I := Aside0.mk hI
 clear hI
 by_cases hlt : i < l.length
 case neg =>
  have g1 : decide ((i : Int) < (l.length : Int)) = false := decide_eq_false (by omega)
  have g2 : decide (i < l.length) = false := decide_eq_false hlt
  clear hlt
  dsimp only [cbody, cfst, csnd, cblk, clp, Tryz.f3, Option.getD]
  dsimp only [frP]
  go_wp2
  refine hE.out _ _ (pR0_mk (s := s) (at_ := at_) (A := A) ?_ hJ.out hT.out hat.out I.out)
  kernel_rfl
 have g1 : decide ((i : Int) < (l.length : Int)) = true := decide_eq_true (by omega)
 have g2 : decide (i < l.length) = true := decide_eq_true hlt
 obtain ⟨ad, A16, c16, eA, l16, g16, q0, q1, q2⟩ := row_at hr i hlt
 subst eA
 have hxs : okS l[i] := hx _ (List.getElem_mem hlt)
 generalize l[i] = x at l16 g16 q0 q1 q2 hxs
 replace q0 := Aside0.mk q0
 replace q1 := Aside0.mk q1
 replace q2 := Aside0.mk q2
 replace g16 := Aside0.mk g16
 replace l16 := Aside0.mk l16
 have p0 : 0 ≤ (i : Int) := by omega
 have p1 : (i : Int) < (l.length : Int) := by omega
 obtain ⟨⟨k0, k1⟩, ⟨b0, b1⟩, _⟩ := id hxs
 obtain ⟨t0, t1⟩ := hat.out
 have hxs := Aside0.mk hxs
 have hu26 := Tryz.underlying28
 have hu39 := Tryz.underlying38
 have hu24 := Tryz.underlying26
 dsimp only [cbody, cfst, csnd, cblk, clp, Tryz.f3, Option.getD]
 dsimp only [frP]
 refine wp_seq_k (fun K1 hK1 => ?_)
 replace hK1 := Aside0.mk hK1
 go_wp2
 refine hK1.out _ _ ?_
 refine wp_seq_k (fun K2 hK2 => ?_)
 replace hK2 := Aside0.mk hK2
 refine wp_block ?_
 refine wp_seq_k (fun K3 hK3 => ?_)
 replace hK3 := Aside0.mk hK3
 go_wp2_with (first
  | ((with_reducible refine gate_ld rfl ?_); (try (refine gate_guard (by rfl) ?_; dsimp only)); refine wl_cell rfl rfl rfl _ Tryz.underlying22 rfl (q1.out _ I.out.below) ?_)
  )
 refine hK3.out _ _ ?_
 refine wp_seq_k (fun K4 hK4 => ?_)
 replace hK4 := Aside0.mk hK4
 go_wp2
 refine hK4.out _ _ ?_
 refine wp_seq_k (fun K5 hK5 => ?_)
 replace hK5 := Aside0.mk hK5
 refine wp_seq_k (fun K6 hK6 => ?_)
 replace hK6 := Aside0.mk hK6
 go_wp2_with (first
  | ((with_reducible refine gate_ld rfl ?_); (try (refine gate_guard (by rfl) ?_; dsimp only)); refine wl_cell rfl rfl rfl _ Tryz.underlying5 rfl (q0.out _ I.out.below) ?_)
  )
 refine hK6.out _ _ ?_
 have hatN : 0 ≤ (min (at_ + x.f1) 4294967295) ∧ (min (at_ + x.f1) 4294967295) ≤ 4294967295 := by omega
 have h5 : ∀ a' w', pR2 client host now (some ad) l.length cc g9 g11 w i (min (at_ + x.f1) 4294967295) a' w' → K5 a' w' := fun a' w' h => hK5.out a' w' (pl_tail h hatN (fun a2 w2 h2 => hK2.out _ _ (hnext.out _ _ hlt h2)))
 have hm5 : x.f0 % 5 = 0 ∨ x.f0 % 5 = 1 ∨ x.f0 % 5 = 2 ∨ x.f0 % 5 = 3 ∨ x.f0 % 5 = 4 := by omega
 refine at_frP (client := client) (host := host) (now := now) (n := l.length) (cc := cc) (g9 := g9) (g11 := g11) (A := some ad) (at_ := (min (at_ + x.f1) 4294967295)) (i := i) (v15 := (.slice none 0 0)) (v16 := (.slice none 0 0)) (v72 := .int .u8 (x.f0 % 5)) ?_ (fun u => ?_)
 kernel_rfl
 rcases hm5 with hm | hm | hm | hm | hm
 · exact pl_tick hJ.out hT.out hatN I.out hxs.out hm h5
 · exact pl_recv hJ.out hT.out hatN I.out hxs.out hm hlt q2.out l16.out g16.out (fun a' w' h => inb1P (hK2.out _ _ (hnext.out _ _ hlt h))) (fun c a w' N v h => hP.out c a w' N v h) h5
 · exact pl_leave hJ.out hT.out hatN I.out hxs.out hm h5
 · exact pl_refuse hJ.out hT.out hatN I.out hxs.out hm h5
 · exact pl_holds hJ.out hT.out hatN I.out hxs.out hm h5
end
theorem playsLaw_c (client host : ByteArray) (now : Int) (A : Option Addr) (cc : Nat) (l : List S40) (w : World) (hr : Kd.C k40 w A l.length l) (hcc : l.length ≤ cc) (h1 : client.size ≤ 140737488351232) (h2 : host.size ≤ 140737488351232) (hn : 0 ≤ now ∧ now ≤ 4294967295) (hx : ∀ x ∈ l, okS x) :
  Calls Tryz.prog 3 #[.string client, .string host, .int .u32 now, .slice A l.length cc] w fun e w' => e = .returned (.bool true) ∧ Below w.heap.size w w' := by
 have hu32 := Tryz.underlying32
 have hu26 := Tryz.underlying28
 have hu39 := Tryz.underlying38
 have hu24 := Tryz.underlying26
 have hr := Aside0.mk hr
 have hx := Aside0.mk hx
 have I := Aside0.mk (Inv.start0 (w0 := w))
 have hnew := new_f client host h1 h2 (client.size + 3001) (by omega)
 have hrnew := rnew_f client host h2 (host.size + 3001) (by omega)
 by_cases hok : cli client = true ∧ hostOk host = true
 case neg =>
  have he : ∃ e : Int, e ≠ 0 ∧ newL client host = ((⟨#[]⟩ : ByteArray), (⟨#[]⟩ : ByteArray), 0, 0, 0, false, 0, 0, 0, 0, 0, 0, 0, e) := by
   unfold newL
   by_cases hc : cli client = true
   · rw [if_pos hc, if_neg (fun hh => hok ⟨hc, hh⟩)]; exact ⟨2, by decide, rfl⟩
   · rw [if_neg hc]; exact ⟨1, by decide, rfl⟩
  obtain ⟨e, he0, he⟩ := he
  rw [he] at hnew hrnew
  have HN := Aside0.mk hnew
  have HR := Aside0.mk hrnew
  have f1 : (e == 0) = false := beq_eq_false_iff_ne.mpr he0
  have f2 : (e != 0) = true := bne_iff_ne.mpr he0
  clear hnew hrnew he hok he0
  go_enter Tryz.func3, Tryz.ntmps3
  go_wp2_with (first
   | (refine ak rfl (al_S rfl) I ?_; clear I; intro gb w1 I)
   | (refine ak rfl (al_R rfl) I ?_; clear I; intro gr w1 I)
   | (refine gD 25 rfl ?_; refine ck rfl Tryz.func4 kk rfl #[.string client, .string host] rfl zh (station_New.calls (client.size + 3001) client host _ _ _ _ _ _ _ _ _ _ _ _ _ e _ HN.out) ?_; rintro e_ w1 ⟨rfl, hb⟩; refine ⟨_, rfl, ?_⟩; replace I := callK I hb; clear hb)
   | (refine gD 31 rfl ?_; refine ck rfl Tryz.func5 kk rfl #[.string client, .string host] rfl zh (ddiref42_New.calls (host.size + 3001) client host _ _ _ _ _ _ _ _ _ _ _ _ _ e _ HR.out) ?_; rintro e_ w1 ⟨rfl, hb⟩; refine ⟨_, rfl, ?_⟩; replace I := callK I hb; clear hb)
   | (refine gD 36 rfl ?_; refine vk rfl (ne0E rfl rfl rfl) ?_)
   | (refine gD 38 rfl ?_; refine ll rfl rfl rfl I mm1 ld_st ?_)
   | (refine gD 39 rfl ?_; refine ll rfl rfl rfl I mm0 ld_stR ?_)
   | (refine gD 40 rfl ?_; refine vk rfl (ne0T rfl rfl rfl) ?_)
   | (refine gD 49 rfl ?_; refine ck rfl Tryz.func6 kk rfl #[] rfl zh (BQ.awake_c _) ?_; rintro e_ w1 ⟨rfl, hb⟩; refine ⟨_, rfl, ?_⟩; replace I := callK I hb; clear hb)
   | (refine gS rfl ?_; refine sk rfl rfl rfl rfl rfl I zm (by first | exact sr_st | exact sr_stR) zu ?_; clear I; intro w1 I)
   )
  go_ret
  exact ⟨rfl, I.out.below⟩
 obtain ⟨hcl, hho⟩ := hok
 have hJ0 := J_new hcl hho
 rw [show newL client host = (client, host, 0, 0, 0, false, 0, 0, 0, 0, 0, 0, 0, 0) from by unfold newL; rw [if_pos hcl, if_pos hho]] at hnew hrnew
 have HN := Aside0.mk hnew
 have HR := Aside0.mk hrnew
 clear hnew hrnew hcl hho
 have hJ0 := Aside0.mk hJ0
 by_cases hlen : 80 < l.length
 · have f1 : decide ((80 : Int) < (l.length : Int)) = true := decide_eq_true (by omega)
   have f2 : decide (80 < l.length) = true := decide_eq_true hlen
   clear hlen
   go_enter Tryz.func3, Tryz.ntmps3
   go_wp2_with (first
    | (refine ak rfl (al_S rfl) I ?_; clear I; intro gb w1 I)
    | (refine ak rfl (al_R rfl) I ?_; clear I; intro gr w1 I)
    | (refine gD 25 rfl ?_; refine ck rfl Tryz.func4 kk rfl #[.string client, .string host] rfl zh (station_New.calls (client.size + 3001) client host _ _ _ _ _ _ _ _ _ _ _ _ _ 0 _ HN.out) ?_; rintro e_ w1 ⟨rfl, hb⟩; refine ⟨_, rfl, ?_⟩; replace I := callK I hb; clear hb)
    | (refine gD 31 rfl ?_; refine ck rfl Tryz.func5 kk rfl #[.string client, .string host] rfl zh (ddiref42_New.calls (host.size + 3001) client host _ _ _ _ _ _ _ _ _ _ _ _ _ 0 _ HR.out) ?_; rintro e_ w1 ⟨rfl, hb⟩; refine ⟨_, rfl, ?_⟩; replace I := callK I hb; clear hb)
    | (refine gD 36 rfl ?_; refine vk rfl (ne0E rfl rfl rfl) ?_)
    | (refine gD 38 rfl ?_; refine ll rfl rfl rfl I mm1 ld_st ?_)
    | (refine gD 39 rfl ?_; refine ll rfl rfl rfl I mm0 ld_stR ?_)
    | (refine gD 40 rfl ?_; refine vk rfl (ne0T rfl rfl rfl) ?_)
    | (refine gD 49 rfl ?_; refine ck rfl Tryz.func6 kk rfl #[] rfl zh (BQ.awake_c _) ?_; rintro e_ w1 ⟨rfl, hb⟩; refine ⟨_, rfl, ?_⟩; replace I := callK I hb; clear hb)
    | (refine gS rfl ?_; refine sk rfl rfl rfl rfl rfl I zm (by first | exact sr_st | exact sr_stR) zu ?_; clear I; intro w1 I)
    )
   go_ret
   exact ⟨rfl, I.out.below⟩
 have f1 : decide ((80 : Int) < (l.length : Int)) = false := decide_eq_false (by omega)
 have f2 : decide (80 < l.length) = false := decide_eq_false hlen
 go_enter Tryz.func3, Tryz.ntmps3
 go_wp2_with (first
  | (refine ak rfl (al_S rfl) I ?_; clear I; intro gb w1 I)
  | (refine ak rfl (al_R rfl) I ?_; clear I; intro gr w1 I)
  | (refine gD 25 rfl ?_; refine ck rfl Tryz.func4 kk rfl #[.string client, .string host] rfl zh (station_New.calls (client.size + 3001) client host _ _ _ _ _ _ _ _ _ _ _ _ _ 0 _ HN.out) ?_; rintro e_ w1 ⟨rfl, hb⟩; refine ⟨_, rfl, ?_⟩; replace I := callK I hb; clear hb)
  | (refine gD 31 rfl ?_; refine ck rfl Tryz.func5 kk rfl #[.string client, .string host] rfl zh (ddiref42_New.calls (host.size + 3001) client host _ _ _ _ _ _ _ _ _ _ _ _ _ 0 _ HR.out) ?_; rintro e_ w1 ⟨rfl, hb⟩; refine ⟨_, rfl, ?_⟩; replace I := callK I hb; clear hb)
  | (refine gD 36 rfl ?_; refine vk rfl (ne0E rfl rfl rfl) ?_)
  | (refine gD 38 rfl ?_; refine ll rfl rfl rfl I mm1 ld_st ?_)
  | (refine gD 39 rfl ?_; refine ll rfl rfl rfl I mm0 ld_stR ?_)
  | (refine gD 40 rfl ?_; refine vk rfl (ne0T rfl rfl rfl) ?_)
  | (refine gS rfl ?_; refine sk rfl rfl rfl rfl rfl I zm (by first | exact sr_st | exact sr_stR) zu ?_; clear I; intro w1 I)
  )
 clear f1 f2
 refine wp_loop_ghost (fun m a wr => ∃ i, m = l.length - i ∧ i ≤ l.length ∧ pR0 client host now A l.length cc gb gr w i a wr) l.length ⟨0, rfl, Nat.zero_le _, pR0_mk (s := ⟨client, host, 0, 0, 0, zA, 0, 0, 0, 0, 0⟩) (at_ := now) (A := A) ?_ hJ0.out (T0.z (.inl rfl)) ⟨hn.1, hn.2⟩ I.out⟩ ?_
 · kernel_rfl
 · rintro m a wr ⟨i, hm, hi, h0⟩
   refine pl_round hr.out hx.out (by omega) h0 hi (fun a' w' hlt h => ⟨l.length - (i + 1), by omega, i + 1, rfl, by omega, h⟩) (fun a' w' h => ?_) (fun c a w N v h => ?_)
   obtain ⟨s, at_, v15, v16, v72, u, rfl, hJ, hT, hat, hI⟩ := h
   clear I h0
   have I := Aside0.mk hI
   clear hI
   dsimp only [frP]
   try simp only [Exit.inBlock, Exit.then, if_true]
   go_wp2_with (first
    | (refine gD 174 rfl ?_; refine ck rfl Tryz.func6 kk rfl #[] rfl zh (BQ.awake_c _) ?_; rintro e_ w1 ⟨rfl, hb⟩; refine ⟨_, rfl, ?_⟩; replace I := callK I hb; clear hb)
    )
   go_ret
   exact ⟨rfl, I.out.below⟩
   cases N <;> exact h
end Go.Proofs.YtlabnocmmeciaaaGreatDoor.LAW
namespace Go.Proofs.YtlabnocmmeciaaaGreatDoor.Pa
open Go RowKit YtlabnocmmeciaaaGreatDoorW.PrintWords YtlabnocmmeciaaaGreatDoorW.PrintLast YtlabnocmmeciaaaGreatDoorW.PrintMore LAW
def Wf26 (x : S26) : Prop := (True) ∧ ((Lit.int .u64 x.f1).wf = true) ∧ ((Lit.int .u64 x.f2).wf = true)
def Wf62 (x : S62) : Prop := ((Lit.int .i64 x.f0).wf = true) ∧ (x.f1.size ≤ 140737488351232)
def Wf38 (x : S38) : Prop := ((Lit.int .i64 x.f0).wf = true) ∧ ((Lit.int .i64 x.f1).wf = true) ∧ ((Lit.int .i64 x.f2).wf = true) ∧ (x.f3.size ≤ 140737488351232) ∧ (Wf26 x.f4) ∧ (Wf26 x.f5) ∧ (Wf26 x.f6) ∧ (True) ∧ (x.f8.length * 24 ≤ 140737488351232 ∧ ∀ y ∈ x.f8, Wf62 y)
def Wf40 (x : S40) : Prop := ((Lit.int .u8 x.f0).wf = true) ∧ ((Lit.int .u32 x.f1).wf = true) ∧ (Wf38 x.f2) ∧ (True)
theorem wf_u64 {n : Int} (h : (Lit.int .u64 n).wf = true) : 0 ≤ n ∧ n ≤ 18446744073709551615 := by
  have e1 : IntKind.u64.min = 0 := rfl
  have e2 : IntKind.u64.max = 18446744073709551615 := rfl
  simp [Lit.wf, e1, e2] at h
  exact h
theorem wf_i64 {n : Int} (h : (Lit.int .i64 n).wf = true) : -9223372036854775808 ≤ n ∧ n ≤ 9223372036854775807 := by
  have e1 : IntKind.i64.min = -9223372036854775808 := rfl
  have e2 : IntKind.i64.max = 9223372036854775807 := rfl
  simp [Lit.wf, e1, e2] at h
  exact h
theorem wf_u8 {n : Int} (h : (Lit.int .u8 n).wf = true) : 0 ≤ n ∧ n ≤ 255 := by
  have e1 : IntKind.u8.min = 0 := rfl
  have e2 : IntKind.u8.max = 255 := rfl
  simp [Lit.wf, e1, e2] at h
  exact h
theorem wf_u32 {n : Int} (h : (Lit.int .u32 n).wf = true) : 0 ≤ n ∧ n ≤ 4294967295 := by
  have e1 : IntKind.u32.min = 0 := rfl
  have e2 : IntKind.u32.max = 4294967295 := rfl
  simp [Lit.wf, e1, e2] at h
  exact h
theorem okS_of {x : S40} (h : Wf40 x) : okS x := by
  obtain ⟨h0, h1, ⟨_, hx, _, _, h4, h5, h6, _, _, h8⟩, _⟩ := h
  exact ⟨wf_u8 h0, wf_u32 h1, wf_i64 hx, (wf_u64 h4.2.2).1, (wf_u64 h5.2.2).1, (wf_u64 h6.2.2).1, fun o ho => (h8 o ho).2⟩
end Go.Proofs.YtlabnocmmeciaaaGreatDoor.Pa
