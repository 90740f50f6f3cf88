/- The printed functions of package dname and of its reference that every statement uses: what each answers, in the words of the plain theory of names. -/
import Derived.Test.YtfcgconojomfpaaDoorThy
import Derived.Test.YtfcgconojomfpaaDoorSplit
import Derived.Test.YtfcgconojomfpaaDoorPax10
import Derived.Test.YtfcgconojomfpaaDoorPax2
import Derived.Test.YtfcgconojomfpaaDoorPax3
namespace Go.Proofs.YtfcgconojomfpaaDoor.Pa
open Go.RowKit Go.Proofs.YtfcgconojomfpaaDoorW.PrintWords Go.Proofs.YtfcgconojomfpaaDoorW.PrintLast Go.Proofs.YtfcgconojomfpaaDoor.DN
set_option linter.unusedVariables false
set_option linter.unusedSimpArgs false

def lowI (b : Int) : Bool := (decide (97 ≤ b) && decide (b ≤ 122)) || (decide (48 ≤ b) && decide (b ≤ 57)) || decide (b = 45) || decide (b = 95)
theorem lowI_isLow (c : UInt8) : lowI (c.toNat : Int) = isLow c := by
  have e1 : ∀ x y : UInt8, decide (x ≤ y) = decide ((x.toNat : Int) ≤ y.toNat) := fun x y => by simp [UInt8.le_iff_toNat_le]
  have e2 : ∀ x y : UInt8, (x == y) = decide ((x.toNat : Int) = y.toNat) := fun x y => by
    rw [Bool.eq_iff_iff, beq_iff_eq, decide_eq_true_iff, ← UInt8.toNat_inj]; omega
  unfold lowI isLow
  rw [e1, e1, e1, e1, e2, e2]
  rfl

theorem low_ifs {α : Type} (b : Int) (y z : α) : (if b < 97 then (if b < 48 then (if b = 45 then y else (if b = 95 then y else z)) else (if b > 57 then (if b = 45 then y else (if b = 95 then y else z)) else y)) else (if b > 122 then (if b < 48 then (if b = 45 then y else (if b = 95 then y else z)) else (if b > 57 then (if b = 45 then y else (if b = 95 then y else z)) else y)) else y)) = if lowI b = true then y else z := by
  unfold lowI
  repeat' split
  all_goals first | rfl | (simp_all; done) | (simp_all; omega)

theorem ord_l0 (s : ByteArray) (hs : s.size ≤ 140737488351232) : ∀ d i k : Nat, i + d = s.size → d < k → dname_ordinary.l0 k s s.size i = some (((L s).drop i).all isLow) := by
  intro d
  induction d with
  | zero =>
    intro i k hd hk
    obtain ⟨k, rfl⟩ : ∃ m, k = m + 1 := ⟨k - 1, by omega⟩
    simp only [dname_ordinary.l0]
    rw [if_neg (by omega), List.drop_of_length_le (by rw [L_len]; omega)]
    rfl
  | succ d ih =>
    intro i k hd hk
    obtain ⟨k, rfl⟩ : ∃ m, k = m + 1 := ⟨k - 1, by omega⟩
    have hi : i < (L s).length := by rw [L_len]; omega
    have hw : wrap64 ((i : Int) + 1) = ((i + 1 : Nat) : Int) := by rw [wrap_id (by omega) (by omega)]; omega
    simp only [dname_ordinary.l0]
    rw [if_pos (by omega), if_pos (by omega), if_pos (by omega), low_ifs, bt_L s i hi, lowI_isLow, hw, ih (i + 1) k (by omega) (by omega), List.drop_eq_getElem_cons hi, List.all_cons]
    cases isLow (L s)[i] <;> simp

theorem ord_f (s : ByteArray) (hs : s.size ≤ 140737488351232) (k : Nat) (hk : s.size + 3 ≤ k) : dname_ordinary.f k s = some (ordL (L s)) := by
  obtain ⟨k, rfl⟩ : ∃ m, k = m + 1 := ⟨k - 1, by omega⟩
  unfold dname_ordinary.f
  rw [toList_L]
  by_cases h0 : L s = []
  · rw [if_pos h0]; simp [dname_ordinary.j0, ordL, h0]
  · rw [if_neg h0]
    have hl := L_len s
    simp only [dname_ordinary.j0]
    by_cases h1 : (s.size : Int) > 63
    · simp only [h1, decide_true, if_true]
      have : ¬ (L s).length ≤ 63 := by omega
      simp only [ordL, this, decide_false, Bool.and_false, Bool.false_and]
    · have h := ord_l0 s hs s.size 0 k (by omega) (by omega)
      have : (L s).length ≤ 63 := by omega
      simp only [h1, decide_false, Bool.false_eq_true, if_false]
      rw [show (0 : Int) = ((0 : Nat) : Int) from rfl, h]
      cases hL : L s with
      | nil => exact absurd hL h0
      | cons c r => rw [hL] at this; simp only [ordL, List.isEmpty_cons, Bool.not_false, Bool.true_and, this, decide_true, List.drop_zero]

/-! ### suffixes -/
theorem hasSuffix_eq (s p : ByteArray) (hs : s.size ≤ 9223372036854775807) (hp : p.size ≤ 9223372036854775807) : strings_HasSuffix.f s p = some ((L p).isSuffixOf (L s)) := by
  unfold strings_HasSuffix.f stringslite_HasSuffix.f
  have e := Lib.hasSuffix_of_drop (L s) (L p)
  unfold Lib.hasSuffix at e
  rw [← e]
  have h1 := L_len s; have h2 := L_len p
  by_cases h : (s.size : Int) ≥ p.size
  · have hw : wrap64 ((s.size : Int) - p.size) = ((s.size - p.size : Nat) : Int) := by rw [wrap_id (by omega) (by omega)]; omega
    have hle : (L p).length ≤ (L s).length := by omega
    rw [if_pos h, hw, if_pos (by omega), if_pos (by omega)]
    simp only [Option.bind_some, toList_L, L_extract, Int.toNat_natCast, hle, decide_true, Bool.true_and]
    rw [List.take_of_length_le (by simp [h1]), h1, h2]
  · have hle : ¬ (L p).length ≤ (L s).length := by omega
    rw [if_neg h]
    simp only [hle, decide_false, Bool.false_and, Option.bind_some]
theorem suffix_dot (l : List UInt8) : List.isSuffixOf [46] l = (l.getLast? == some 46) := by
  rw [Bool.eq_iff_iff, List.isSuffixOf_iff_suffix, beq_iff_eq]
  constructor
  · rintro ⟨t, rfl⟩; simp
  · intro h
    obtain ⟨t, rfl⟩ := List.getLast?_eq_some_iff.1 h
    exact ⟨t, rfl⟩

/-! ### the pieces of a split at a period, and the labels -/
theorem index_cons_eq (r : List UInt8) : Lib.index (46 :: r) [46] = 0 := by rw [Lib.index]; simp [List.isPrefixOf]
theorem index_cons_ne (c : UInt8) (r : List UInt8) (h : c ≠ 46) : Lib.index (c :: r) [46] = if Lib.index r [46] == -1 then -1 else Lib.index r [46] + 1 := by
  have hp : ([46] : List UInt8).isPrefixOf (c :: r) = false := by simp [List.isPrefixOf, Ne.symm h]
  rw [Lib.index, hp]; simp
theorem pieces_cuts : ∀ l : List UInt8, Lib.splitK [46] 0 (Lib.count l [46]) l = cuts (l ++ [46])
  | [] => by rw [Lib.count_miss (by simp [Lib.index])]; rfl
  | c :: r => by
    have ih := pieces_cuts r
    by_cases h : c = 46
    · subst h
      rw [Lib.count_cons_eq, Nat.add_comm, Lib.splitK, index_cons_eq, if_neg (by decide)]
      simp only [List.cons_append, cuts, if_true, ← ih]
      simp
    · rw [Lib.count_cons_ne c 46 r h]
      have hi := index_cons_ne c r h
      rw [List.cons_append, cuts, if_neg h, ← ih]
      by_cases hm : Lib.index r [46] = -1
      · rw [Lib.count_miss hm]; rfl
      · have hge := Lib.index_ge r [46]
        obtain ⟨i, hj⟩ : ∃ i : Nat, Lib.index r [46] = i := ⟨(Lib.index r [46]).toNat, by omega⟩
        have hb : (Lib.index r [46] == -1) = false := by simpa using hm
        rw [hb] at hi
        obtain ⟨k, hk⟩ : ∃ k, Lib.count r [46] = k + 1 := by
          have := Lib.count_hit (s := r) (sub := [46]) (by simp) hj
          exact ⟨_, by rw [this, Nat.add_comm]⟩
        rw [hk, Lib.splitK, Lib.splitK, hi, hj]
        have e1 : ((((i : Int) + 1 : Int)) == -1) = false := by simp; omega
        have e2 : (((i : Int)) == -1) = false := by simp
        have e3 : ((i : Int) + 1).toNat = i + 1 := by omega
        simp only [Bool.false_eq_true, if_false, e1, e2, e3, Int.toNat_natCast, Nat.add_zero, List.length_singleton, List.take_succ_cons]
        rw [show i + 1 + 1 = (i + 1) + 1 from rfl, List.drop_succ_cons]
theorem split_cuts (s : ByteArray) (hs : s.size < 4294967281) : ∃ xs : List ByteArray, strings_Split.f s ⟨#[46]⟩ = some xs ∧ xs.map L = cuts (L s ++ [46]) := by
  refine ⟨_, by unfold strings_Split.f; rw [if_pos ⟨rfl, hs⟩], ?_⟩
  rw [show (List.map L (Lib.splitB ⟨#[46]⟩ 0 (Lib.countB s ⟨#[46]⟩) s)) = List.map (fun b : ByteArray => b.data.toList) _ from rfl, Lib.splitB_data]
  exact pieces_cuts (L s)

theorem val_l0 (k0 : Nat) (xs : List ByteArray) (hx : ∀ x ∈ xs, x.size ≤ 140737488351232) (hn : xs.length ≤ 140737488351232)
    (hk0 : ∀ x ∈ xs, ∀ k, k0 ≤ k → dname_ordinary.f k x = some (ordL (L x))) :
    ∀ d i k : Nat, i + d = xs.length → d + k0 < k → dname_Valid.l0 k xs xs.length i = some (if i = 0 then labs (xs.map L) else ((xs.map L).drop i).all ordL) := by
  intro d
  induction d with
  | zero =>
    intro i k hd hk
    obtain ⟨k, rfl⟩ : ∃ m, k = m + 1 := ⟨k - 1, by omega⟩
    simp only [dname_Valid.l0]
    rw [if_neg (by omega)]
    split
    · have : xs = [] := List.length_eq_zero_iff.1 (by omega)
      subst this; rfl
    · rw [List.drop_of_length_le (by simp; omega)]; rfl
  | succ d ih =>
    intro i k hd hk
    obtain ⟨k, rfl⟩ : ∃ m, k = m + 1 := ⟨k - 1, by omega⟩
    have hi : i < xs.length := by omega
    have hw : wrap64 ((i : Int) + 1) = ((i + 1 : Nat) : Int) := by rw [wrap_id (by omega) (by omega)]; omega
    have hr : rdOf ByteArray.empty xs (i : Int) = xs[i] := by simp [rdOf, hi]
    have hih := ih (i + 1) k (by omega) (by omega)
    rw [if_neg (by omega)] at hih
    simp only [dname_Valid.l0]
    rw [if_pos (by omega), if_pos (by omega), if_pos (by omega), hr, hk0 _ (List.getElem_mem hi) k (by omega), hw, hih]
    simp only [Option.bind_some]
    have hdrop : (xs.map L).drop i = L xs[i] :: (xs.map L).drop (i + 1) := by
      rw [List.drop_eq_getElem_cons (by simpa using hi)]; simp
    rw [toList_L]
    cases ho : ordL (L xs[i]) with
    | true =>
      rw [if_pos rfl]
      split
      · rename_i h0; subst h0
        have e : xs.map L = L xs[0] :: (xs.map L).drop 1 := by simpa using hdrop
        rw [e, labs, labL, ho]; simp
      · rw [hdrop, List.all_cons, ho]; simp
    | false =>
      rw [if_neg (by simp)]
      by_cases h0 : i = 0
      · subst h0
        have e : xs.map L = L xs[0] :: (xs.map L).drop 1 := by simpa using hdrop
        rw [if_neg (by omega), if_pos rfl, e, labs, labL, ho]
        by_cases hs : L xs[0] = [42]
        · rw [if_pos hs]; simp [hs]
        · rw [if_neg hs]; simp [hs]
      · rw [if_pos (by omega), if_neg h0, hdrop, List.all_cons, ho]; simp

theorem cuts_len : ∀ (s : List UInt8), (cuts s).length ≤ s.length ∧ ∀ x ∈ cuts s, x.length ≤ s.length
  | [] => by simp [cuts]
  | c :: r => by
    obtain ⟨h1, h2⟩ := cuts_len r
    unfold cuts
    split
    · refine ⟨by simp; omega, fun x hx => ?_⟩
      rcases List.mem_cons.1 hx with rfl | hx
      · simp
      · have := h2 x hx; simp; omega
    · split
      · simp
      · rename_i x xs e
        rw [e] at h1 h2
        refine ⟨by simpa using Nat.le_succ_of_le h1, fun y hy => ?_⟩
        rcases List.mem_cons.1 hy with rfl | hy
        · have := h2 x (by simp); simp; omega
        · have := h2 y (by simp [hy]); simp; omega

theorem split_init (a : ByteArray) (h0 : 1 ≤ a.size) (h1 : a.size ≤ 254) (hl : (L a).getLast? = some 46) :
    wrap64 ((a.size : Int) - 1) = ((a.size - 1 : Nat) : Int) ∧ ∃ xs : List ByteArray, strings_Split.f (a.extract 0 (wrap64 ((a.size : Int) - 1)).toNat) ⟨#[46]⟩ = some xs ∧ xs.map L = cuts (L a) := by
  have hw : wrap64 ((a.size : Int) - 1) = ((a.size - 1 : Nat) : Int) := by rw [wrap_id (by omega) (by omega)]; omega
  refine ⟨hw, ?_⟩
  obtain ⟨m, hm⟩ := List.getLast?_eq_some_iff.1 hl
  have hlen := L_len a
  have he : L (a.extract 0 (wrap64 ((a.size : Int) - 1)).toNat) = m := by
    have : m.length = a.size - 1 := by rw [← hlen, hm]; simp
    rw [hw, L_extract, hm]; simp [← this]
  obtain ⟨xs, h2, h3⟩ := split_cuts (a.extract 0 (wrap64 ((a.size : Int) - 1)).toNat) (by rw [← L_len, he]; have := hm ▸ hlen; simp at this; omega)
  exact ⟨xs, h2, by rw [h3, he, hm]⟩

theorem valid_f (a : ByteArray) (ha : a.size ≤ 140737488351232) (k : Nat) (hk : 1000 ≤ k) : dname_Valid.f k a = some (validL (L a)) := by
  have hlen := L_len a
  obtain ⟨k, rfl⟩ : ∃ m, k = m + 1 := ⟨k - 1, by omega⟩
  unfold dname_Valid.f
  rw [toList_L]
  by_cases h0 : L a = [46]
  · rw [if_pos h0]; simp [validL, h0]
  rw [if_neg h0]
  have hb0 : (L a == [46]) = false := by simpa using h0
  by_cases h1 : (a.size : Int) ≥ 255
  · rw [if_pos h1]
    have : ¬ (L a).length ≤ 254 := by omega
    simp only [dname_Valid.j0, if_true, validL, hb0, this, decide_false, Bool.false_and, Bool.false_or]
  rw [if_neg h1, hasSuffix_eq _ _ (by omega) (by decide), show L (⟨#[46]⟩ : ByteArray) = [46] from rfl, suffix_dot]
  have h2 : (L a).length ≤ 254 := by omega
  simp only [Option.bind_some, dname_Valid.j0]
  cases h3 : ((L a).getLast? == some 46) with
  | false => simp only [Bool.not_false, if_true, validL, hb0, h2, h3, decide_true, Bool.true_and, Bool.false_and, Bool.false_or]
  | true =>
    have hl : (L a).getLast? = some 46 := beq_iff_eq.1 h3
    have hne : 1 ≤ a.size := by
      cases hL : L a with
      | nil => rw [hL] at hl; cases hl
      | cons c r => rw [hL] at hlen; simp at hlen; omega
    obtain ⟨hw, xs, hx, hxs⟩ := split_init a hne (by omega) hl
    have hc := cuts_len (L a)
    rw [← hxs] at hc
    have hxl : xs.length ≤ 254 := by have := hc.1; simp at this; omega
    have hxe : ∀ x ∈ xs, x.size ≤ 254 := fun x hx => by have := hc.2 (L x) (List.mem_map_of_mem hx); rw [L_len] at this; omega
    have := val_l0 300 xs (fun x hx => by have := hxe x hx; omega) (by omega) (fun x hx k hk => ord_f x (by have := hxe x hx; omega) k (by have := hxe x hx; omega)) xs.length 0 k (by omega) (by omega)
    simp only [Bool.not_true, Bool.false_eq_true, if_false]
    rw [hx, hw, if_pos (by omega), if_pos (by omega)]
    simp only [Option.bind_some]
    rw [show (0 : Int) = ((0 : Nat) : Int) from rfl, this, if_pos rfl, hxs]
    simp only [validL, hb0, h2, h3, decide_true, Bool.true_and, Bool.false_or]

theorem labels_f (a : ByteArray) (ha : a.size ≤ 140737488351232) (k : Nat) (hk : 1000 ≤ k) : dname_Labels.f k a = some ((labelsL (L a)).map B) := by
  have hlen := L_len a
  unfold dname_Labels.f
  rw [toList_L, valid_f a ha k hk]
  unfold labelsL
  by_cases h0 : L a = [46]
  · rw [if_pos h0, if_pos h0]; rfl
  rw [if_neg h0, if_neg h0]
  simp only [Option.bind_some]
  cases hv : validL (L a) with
  | false => simp
  | true =>
    have hb0 : (L a == [46]) = false := by simpa using h0
    simp only [validL, hb0, Bool.false_or, Bool.and_eq_true, decide_eq_true_iff, beq_iff_eq] at hv
    have hne : 1 ≤ a.size := by
      cases hL : L a with
      | nil => rw [hL] at hv; cases hv.1.2
      | cons c r => rw [hL] at hlen; simp at hlen; omega
    obtain ⟨hw, xs, hx, hxs⟩ := split_init a hne (by omega) hv.1.2
    simp only [if_true]
    rw [hx, hw, if_pos (by omega), if_pos (by omega), ← hxs, List.map_map, show (B ∘ L) = id from funext B_L, List.map_id]
    rfl
end Go.Proofs.YtfcgconojomfpaaDoor.Pa
