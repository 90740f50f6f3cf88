/- What the other functions of options answer (the reference's index, Valid, Find, Put, end, joined, Decode; option.Put, add, over, Decode; the law's same): over the plain theory of options. The law's same answers true of equal lists; and the law's awake answers true. -/
import Derived.Test.YtkojlapefmcjnaaDoorVal
import Derived.Test.YtkojlapefmcjnaaDoorTrim
import Derived.Test.YtkojlapefmcjnaaDoorPax10
import Derived.Test.YtkojlapefmcjnaaDoorPax5
import Derived.Test.YtkojlapefmcjnaaDoorPax6
import Derived.Test.YtkojlapefmcjnaaDoorPax8
import Derived.Test.YtkojlapefmcjnaaDoorPax9
import Derived.Test.YtkojlapefmcjnaaDoorEnc
import Derived.Test.YtkojlapefmcjnaaDoorPax11
import Derived.Test.YtkojlapefmcjnaaDoorPax17
namespace Go.Proofs.YtkojlapefmcjnaaDoor.Pa
open Go Go.RowKit
/-- what a row tells of an option -/
def Wf34 (x : S34) : Prop := ((Lit.int .i64 x.f0).wf = true) ∧ (x.f1.size ≤ 140737488351232)
end Go.Proofs.YtkojlapefmcjnaaDoor.Pa
namespace Go.Proofs.YtkojlapefmcjnaaDoor.OPT
open Go Go.RowKit Go.Proofs.YtkojlapefmcjnaaDoorW.PrintWords Go.Proofs.YtkojlapefmcjnaaDoor.DN Go.Proofs.YtkojlapefmcjnaaDoor.Pa
set_option linter.unusedVariables false
set_option linter.unusedSimpArgs false

def un (m : List O) : List S34 := m.map fun o => ⟨o.1, B o.2⟩
theorem ab_un (m : List O) : ab (un m) = m := by
  induction m with
  | nil => rfl
  | cons o m ih =>
    have : ab (un (o :: m)) = o1 ⟨o.1, B o.2⟩ :: ab (un m) := rfl
    rw [this, ih]; rfl
theorem un_ab (l : List S34) : un (ab l) = l := ab_inj (ab_un _)
theorem un_length (m : List O) : (un m).length = m.length := List.length_map ..
theorem w2 {a b : Nat} (h : a + b < 9223372036854775807) : wrap64 ((a : Int) + (b : Int)) = ((a + b : Nat) : Int) := by rw [wrap_id (by omega) (by omega)]; rfl
theorem wbyte (c : UInt8) : wrap64 ((c.toNat : Nat) : Int) = ((c.toNat : Nat) : Int) := by have := c.toNat_lt; exact wrap_id (by omega) (by omega)
theorem rd_split (a : List S34) (x : S34) (b : List S34) : rd_T34 (a ++ x :: b) (a.length : Int) = x := by rw [rd_at (by simp)]; simp
theorem set_split (a : List S34) (x y : S34) (b : List S34) : (a ++ x :: b).set a.length y = a ++ y :: b := by simp
theorem drop_split (a b : List S34) : (a ++ b).drop a.length = b := by simp

/-- where the first element with a code stands -/
def idxS : List S34 → Int → Nat → Int
  | [], _, _ => -1
  | x :: l, c, i => if x.f0 = c then (i : Int) else idxS l c (i + 1)
theorem idx_cases : ∀ (l : List S34) (c : Int) (i : Nat), ((∀ x ∈ l, x.f0 ≠ c) ∧ idxS l c i = -1) ∨ ∃ a x b, l = a ++ x :: b ∧ x.f0 = c ∧ (∀ y ∈ a, y.f0 ≠ c) ∧ idxS l c i = ((i + a.length : Nat) : Int)
  | [], c, i => .inl ⟨by simp, rfl⟩
  | x :: l, c, i => by
    by_cases h : x.f0 = c
    · exact .inr ⟨[], x, l, rfl, h, by simp, by rw [idxS, if_pos h]; rfl⟩
    · rcases idx_cases l c (i + 1) with ⟨h1, h2⟩ | ⟨a, y, b, h1, h2, h3, h4⟩
      · exact .inl ⟨by intro z hz; rcases List.mem_cons.1 hz with rfl | hz; exact h; exact h1 z hz, by rw [idxS, if_neg h, h2]⟩
      · refine .inr ⟨x :: a, y, b, by rw [h1]; rfl, h2, by intro z hz; rcases List.mem_cons.1 hz with rfl | hz; exact h; exact h3 z hz, ?_⟩
        rw [idxS, if_neg h, h4, List.length_cons]; congr 1; omega
theorem index_l (l : List S34) (c : Int) (hl : l.length ≤ 5864062014805) : ∀ (n k i : Nat), l.length - i ≤ n → n < k → i ≤ l.length → ddiref35_index.l0 k l c (i : Int) = some (idxS (l.drop i) c i) := by
  intro n
  induction n with
  | zero =>
    intro k i hn hk hi
    obtain ⟨k, rfl⟩ : ∃ q, k = q + 1 := ⟨k - 1, by omega⟩
    obtain rfl : i = l.length := by omega
    rw [ddiref35_index.l0, if_neg (by omega), List.drop_length]; rfl
  | succ n ih =>
    intro k i hn hk hi
    obtain ⟨k, rfl⟩ : ∃ q, k = q + 1 := ⟨k - 1, by omega⟩
    by_cases hlt : i < l.length
    · rw [ddiref35_index.l0, if_pos (by omega), if_pos (by omega), rd_at hlt, drop_at hlt, idxS]
      by_cases hc : l[i].f0 = c
      · rw [if_pos hc, if_pos hc]
      · rw [if_neg hc, if_neg hc, wsucc (by omega), ih k (i + 1) (by omega) (by omega) (by omega)]
    · obtain rfl : i = l.length := by omega
      rw [ddiref35_index.l0, if_neg (by omega), List.drop_length]; rfl
theorem index_f (l : List S34) (c : Int) (hl : l.length ≤ 5864062014805) (k : Nat) (hk : l.length < k) : ddiref35_index.f k l c = some (idxS l c 0) := by
  have := index_l l c hl l.length k 0 (by omega) hk (by omega)
  simpa [ddiref35_index.f] using this

theorem idx_first {l : List S34} {i : Nat} (hlt : i < l.length) : idxS l l[i].f0 0 = (i : Int) ↔ l[i].f0 ∉ (ab (l.take i)).map (·.1) := by
  have hmem : ∀ m : List S34, l[i].f0 ∈ (ab m).map (·.1) ↔ ∃ y ∈ m, y.f0 = l[i].f0 := by
    intro m; simp [ab, o1]
  rw [hmem]
  rcases idx_cases l l[i].f0 0 with ⟨h1, h2⟩ | ⟨a, x, b, h1, h2, h3, h4⟩
  · exact absurd rfl (h1 l[i] (List.getElem_mem hlt))
  · rw [h4, Nat.zero_add]
    constructor
    · rintro h ⟨y, hy, e⟩
      have : a.length = i := by omega
      have ht : l.take i = a := by subst this; conv => lhs; rw [h1]
                                   simp
      rw [ht] at hy
      exact h3 y hy e
    · intro h
      rcases Nat.lt_trichotomy a.length i with h5 | h5 | h5
      · refine absurd ⟨x, ?_, h2⟩ h
        rw [h1]
        rw [List.take_append, List.mem_append]
        right
        obtain ⟨d, hd⟩ : ∃ d, i - a.length = d + 1 := ⟨i - a.length - 1, by omega⟩
        rw [hd, List.take_succ_cons]; simp
      · omega
      · exfalso
        have : l[i] ∈ a := by
          have e : l[i] = a[i] := by
            have : l[i]? = a[i]? := by rw [h1, List.getElem?_append_left h5]
            rw [List.getElem?_eq_getElem hlt, List.getElem?_eq_getElem h5] at this
            exact Option.some.inj this
          rw [e]; exact List.getElem_mem h5
        exact h3 _ this rfl
theorem rvalid_l (l : List S34) (hl : l.length ≤ 32) (hz : ∀ x ∈ l, x.f1.size ≤ 140737488351232) : ∀ (n k i a : Nat), l.length - i ≤ n → n + 40 < k → i ≤ l.length → a + sz (ab (l.drop i)) < 9223372036854775807 →
    ddiref35_Valid.l0 k l (a : Int) (i : Int) = some (chk (ab (l.take i)) (ab (l.drop i)) && decide (a + sz (ab (l.drop i)) ≤ 4096)) := by
  intro n
  induction n with
  | zero =>
    intro k i a hn hk hi hs
    obtain ⟨k, rfl⟩ : ∃ q, k = q + 1 := ⟨k - 1, by omega⟩
    obtain rfl : i = l.length := by omega
    rw [ddiref35_Valid.l0, if_neg (by omega), List.drop_length]
    simp only [ab_nil, chk, sz, Bool.true_and, Nat.add_zero]; congr 1; rw [Bool.eq_iff_iff, decide_eq_true_iff, decide_eq_true_iff]; omega
  | succ n ih =>
    intro k i a hn hk hi hs
    obtain ⟨k, rfl⟩ : ∃ q, k = q + 1 := ⟨k - 1, by omega⟩
    by_cases hlt : i < l.length
    · rw [drop_at hlt, ab_cons, sz] at hs
      have hz1 : (o1 l[i]).2.length = l[i].f1.size := L_len _
      have hc1 : (o1 l[i]).1 = l[i].f0 := rfl
      rw [hz1] at hs
      rw [ddiref35_Valid.l0, if_pos (by omega), if_pos (by omega), rd_at hlt, drop_at hlt, ab_cons]
      have h3 : chk (ab (l.take i)) (o1 l[i] :: ab (l.drop (i + 1))) = (!(decide ((o1 l[i]).1 ∈ (ab (l.take i)).map (·.1))) && (decide (1 ≤ (o1 l[i]).1 ∧ (o1 l[i]).1 ≤ 254) && (decide ((o1 l[i]).2.length ≤ 1024) && chk (ab (l.take (i + 1))) (ab (l.drop (i + 1)))))) := by
        rw [chk, List.take_succ_eq_append_getElem hlt, ab_append]; rfl
      rw [h3, sz, hz1, hc1]
      by_cases h1 : l[i].f0 < 1
      · rw [if_pos h1, decide_eq_false (show ¬ (1 ≤ l[i].f0 ∧ l[i].f0 ≤ 254) by omega)]; simp
      by_cases h2 : l[i].f0 > 254
      · rw [if_neg h1, if_pos h2, decide_eq_false (show ¬ (1 ≤ l[i].f0 ∧ l[i].f0 ≤ 254) by omega)]; simp
      by_cases h4 : (l[i].f1.size : Int) > 1024
      · rw [if_neg h1, if_neg h2, if_pos h4, decide_eq_false (show ¬ (l[i].f1.size ≤ 1024) by omega)]; simp
      rw [if_neg h1, if_neg h2, if_neg h4, index_f l _ (by omega) k (by omega), Option.bind_some, decide_eq_true (show 1 ≤ l[i].f0 ∧ l[i].f0 ≤ 254 by omega), decide_eq_true (show l[i].f1.size ≤ 1024 by omega)]
      by_cases h5 : l[i].f0 ∈ (ab (l.take i)).map (·.1)
      · rw [if_neg (by rw [idx_first hlt]; exact fun h => h h5), decide_eq_true h5]; simp
      · rw [if_pos ((idx_first hlt).2 h5), decide_eq_false h5, w2 (by have := hz _ (List.getElem_mem hlt); omega), wsucc (by omega), ih k (i + 1) (a + l[i].f1.size) (by omega) (by omega) (by omega) (by omega)]
        simp only [Bool.not_false, Bool.true_and, Nat.add_assoc]
    · obtain rfl : i = l.length := by omega
      rw [ddiref35_Valid.l0, if_neg (by omega), List.drop_length]
      simp only [ab_nil, chk, sz, Bool.true_and, Nat.add_zero]; congr 1; rw [Bool.eq_iff_iff, decide_eq_true_iff, decide_eq_true_iff]; omega
theorem rvalid_f (l : List S34) (h : ∀ x ∈ l, x.f1.size ≤ 140737488351232) (k : Nat) (hk : 100 < k) : ddiref35_Valid.f k l = some (decide (vld (ab l))) := by
  unfold ddiref35_Valid.f
  by_cases h1 : (l.length : Int) > 32
  · rw [if_pos h1, decide_eq_false (by rw [vld_iff, ab_length]; omega)]
  · rw [if_neg h1]
    have h2 := sz_le h
    have := rvalid_l l (by omega) h l.length k 0 0 (by omega) (by omega) (by omega) (by rw [List.drop_zero]; omega)
    rw [List.take_zero, List.drop_zero, Nat.zero_add] at this
    refine Eq.trans this ?_
    congr 1
    rw [Bool.eq_iff_iff, Bool.and_eq_true, decide_eq_true_iff, decide_eq_true_iff, vld_iff, ab_length]
    exact ⟨fun h => ⟨by omega, h.2, h.1⟩, fun h => ⟨h.2.2, h.2.1⟩⟩

/-! over, add, joined -/
theorem over_l (l : List S34) (hl : l.length ≤ 33) : ∀ (n k i : Nat), l.length - i ≤ n → n < k → i ≤ l.length → option_over.l0 k l (l.length : Int) (i : Int) = some (!decide (∀ o ∈ ab (l.drop i), o.2.length ≤ 1024)) := by
  intro n
  induction n with
  | zero =>
    intro k i hn hk hi
    obtain ⟨k, rfl⟩ : ∃ q, k = q + 1 := ⟨k - 1, by omega⟩
    obtain rfl : i = l.length := by omega
    rw [option_over.l0, if_neg (by omega), List.drop_length]; simp [ab_nil]
  | succ n ih =>
    intro k i hn hk hi
    obtain ⟨k, rfl⟩ : ∃ q, k = q + 1 := ⟨k - 1, by omega⟩
    by_cases hlt : i < l.length
    · have hz1 : (o1 l[i]).2.length = l[i].f1.size := L_len _
      rw [option_over.l0, if_pos (by omega), if_pos (by omega), if_pos (by omega), rd_at hlt, drop_at hlt, ab_cons]
      by_cases h : (l[i].f1.size : Int) > 1024
      · rw [if_pos h, decide_eq_false (by intro h2; have := h2 _ (List.mem_cons_self ..); omega)]; rfl
      · rw [if_neg h, wsucc (by omega), ih k (i + 1) (by omega) (by omega) (by omega)]
        congr 2
        rw [decide_eq_decide]
        simp only [List.mem_cons, forall_eq_or_imp]
        exact ⟨fun h3 => ⟨by omega, h3⟩, fun h3 => h3.2⟩
    · obtain rfl : i = l.length := by omega
      rw [option_over.l0, if_neg (by omega), List.drop_length]; simp [ab_nil]
theorem over_f (l : List S34) (h : ∀ x ∈ l, x.f1.size ≤ 140737488351232) (k : Nat) (hk : 100 < k) : option_over.f k l = some (!decide (no (ab l))) := by
  obtain ⟨k, rfl⟩ : ∃ q, k = q + 1 := ⟨k - 1, by omega⟩
  unfold option_over.f
  by_cases h1 : (l.length : Int) > 32
  · rw [if_pos h1, option_over.j0, if_pos rfl, decide_eq_false (by rintro ⟨h, _⟩; rw [ab_length] at h; omega)]; rfl
  · rw [if_neg h1, size_f l (by omega) h _ (by omega), Option.bind_some, option_over.j0]
    by_cases h2 : ((sz (ab l) : Nat) : Int) > 4096
    · rw [if_pos (decide_eq_true h2), decide_eq_false (by rintro ⟨_, h, _⟩; omega)]; rfl
    · rw [if_neg (by rw [decide_eq_false h2]; decide)]
      have := over_l l (by omega) l.length k 0 (by omega) (by omega) (by omega)
      rw [List.drop_zero] at this
      refine Eq.trans this ?_
      congr 2
      rw [decide_eq_decide]
      exact ⟨fun h => ⟨by rw [ab_length]; omega, by omega, h⟩, fun h => h.2.2⟩

def adS : List S34 → Int → ByteArray → List S34
  | [], c, p => [⟨c, p⟩]
  | x :: l, c, p => if x.f0 = c then ⟨x.f0, x.f1 ++ p⟩ :: l else x :: adS l c p
theorem ab_adS (l : List S34) (c : Int) (p : ByteArray) : ab (adS l c p) = ad (ab l) c (L p) := by
  induction l with
  | nil => rfl
  | cons x l ih =>
    rw [adS, ab_cons, ad]
    by_cases h : x.f0 = c
    · rw [if_pos h, if_pos (show (o1 x).1 = c from h), ab_cons]
      simp only [o1, L_append, h]
    · rw [if_neg h, if_neg (show ¬ (o1 x).1 = c from h), ab_cons, ih]
theorem add_l (l : List S34) (c : Int) (p : ByteArray) (hl : l.length ≤ 5864062014800) (hz : ∀ x ∈ l, x.f1.size ≤ 140737488351232) (hp : p.size ≤ 140737488351232) : ∀ (n k i : Nat), l.length - i ≤ n → n < k → i ≤ l.length →
    option_add.l0 k l c p (l.length : Int) (i : Int) = some (l.take i ++ adS (l.drop i) c p) := by
  intro n
  induction n with
  | zero =>
    intro k i hn hk hi
    obtain ⟨k, rfl⟩ : ∃ q, k = q + 1 := ⟨k - 1, by omega⟩
    obtain rfl : i = l.length := by omega
    rw [option_add.l0, if_neg (by omega), if_pos (by omega), List.drop_length, List.take_length]; rfl
  | succ n ih =>
    intro k i hn hk hi
    obtain ⟨k, rfl⟩ : ∃ q, k = q + 1 := ⟨k - 1, by omega⟩
    by_cases hlt : i < l.length
    · rw [option_add.l0, if_pos (by omega), if_pos (by omega), if_pos (by omega), rd_at hlt, drop_at hlt, adS]
      by_cases h : l[i].f0 = c
      · rw [if_pos h, if_pos (by have := hz _ (List.getElem_mem hlt); omega), if_pos h, Int.toNat_natCast, List.set_eq_take_append_cons_drop, if_pos hlt]
      · rw [if_neg h, if_neg h, wsucc (by omega), ih k (i + 1) (by omega) (by omega) (by omega), List.take_succ_eq_append_getElem hlt, List.append_assoc]; rfl
    · obtain rfl : i = l.length := by omega
      rw [option_add.l0, if_neg (by omega), if_pos (by omega), List.drop_length, List.take_length]; rfl
theorem add_f (l : List S34) (c : Int) (p : ByteArray) (hl : l.length ≤ 5864062014800) (hz : ∀ x ∈ l, x.f1.size ≤ 140737488351232) (hp : p.size ≤ 140737488351232) (k : Nat) (hk : l.length < k) : option_add.f k l c p = some (adS l c p) := by
  have := add_l l c p hl hz hp l.length k 0 (by omega) hk (by omega)
  simpa [option_add.f] using this
theorem no_sizes {l : List S34} (h : no (ab l)) : l.length ≤ 32 ∧ ∀ x ∈ l, x.f1.size ≤ 1024 := by
  obtain ⟨h1, _, h3⟩ := h
  rw [ab_length] at h1
  exact ⟨h1, fun x hx => by have := h3 (o1 x) (List.mem_map_of_mem hx); rw [show (o1 x).2.length = x.f1.size from L_len _] at this; exact this⟩
theorem ad_sizes (c : Int) (p : ByteArray) (hp : p.size ≤ 255) : ∀ {l : List S34}, (∀ x ∈ l, x.f1.size ≤ 1024) → ∀ x ∈ adS l c p, x.f1.size ≤ 2000
  | [], _, x, hx => by rw [adS, List.mem_singleton] at hx; subst hx; exact (by omega : p.size ≤ 2000)
  | y :: l, h, x, hx => by
    rw [adS] at hx
    split at hx
    · rcases List.mem_cons.1 hx with rfl | hx
      · have := h y (by simp)
        show (y.f1 ++ p).size ≤ 2000
        rw [ByteArray.size_append]; omega
      · have := h x (by simp [hx]); omega
    · rcases List.mem_cons.1 hx with rfl | hx
      · have := h x (by simp); omega
      · exact ad_sizes c p hp (fun z hz => h z (by simp [hz])) x hx

theorem trim_zero (l : List UInt8) : Lib.trimB l 0 = [] ↔ l.all (· == 0) = true := by
  have h1 : ∀ m : List UInt8, Lib.trimLeftB m 0 = [] ↔ m.all (· == 0) = true := by
    intro m
    show m.dropWhile (· == 0) = [] ↔ _
    induction m with
    | nil => simp
    | cons x m ih =>
      rw [List.dropWhile_cons, List.all_cons]
      by_cases hx : (x == 0) = true
      · rw [if_pos hx, ih, hx]; simp
      · simp [hx]
  show Lib.trimLeftB (Lib.trimRightB l 0) 0 = [] ↔ _
  rw [h1]
  show ((l.reverse.dropWhile (· == 0)).reverse).all (· == 0) = true ↔ _
  rw [List.all_reverse]
  have h2 : ∀ m : List UInt8, (m.dropWhile (· == 0)).all (· == 0) = m.all (· == 0) := by
    intro m
    induction m with
    | nil => rfl
    | cons x m ih =>
      rw [List.dropWhile_cons]
      by_cases hx : (x == 0) = true
      · rw [if_pos hx, ih, List.all_cons, hx, Bool.true_and]
      · rw [if_neg hx]
  rw [h2, List.all_reverse]
theorem trim_f (s : ByteArray) (hs : s.size ≤ 9223372036854775807) : strings_Trim.f s ⟨#[0]⟩ = some (B (Lib.trimB (L s) 0)) := by
  unfold strings_Trim.f
  rw [if_pos ⟨hs, rfl⟩]; rfl
theorem dec_l (s : ByteArray) (hs : s.size ≤ 140737488351232) : ∀ (n k i : Nat) (l : List S34), s.size - i ≤ n → n + 200 < k → i ≤ s.size → vld (ab l) →
    option_Decode.l0 k s l (i : Int) = some (un (dec (ab l) ((L s).drop i)).1, (dec (ab l) ((L s).drop i)).2) := by
  intro n
  induction n with
  | zero =>
    intro k i l hn hk hi hv
    obtain ⟨k, rfl⟩ : ∃ q, k = q + 1 := ⟨k - 1, by omega⟩
    obtain rfl : i = s.size := by omega
    rw [option_Decode.l0, if_neg (by omega), List.drop_eq_nil_of_le (by rw [L_len]; omega), dec_nil]; rfl
  | succ n ih =>
    intro k i l hn hk hi hv
    obtain ⟨k, rfl⟩ : ∃ q, k = q + 1 := ⟨k - 1, by omega⟩
    by_cases hlt : i < s.size
    · have hL : i < (L s).length := by rw [L_len]; exact hlt
      rw [option_Decode.l0, if_pos (by omega), if_pos (by omega), bt_L s i hL, drop_at hL]
      obtain ⟨c, hc⟩ : ∃ c, c = (L s)[i] := ⟨_, rfl⟩
      rw [← hc, wbyte, wsucc (by omega)]
      by_cases h0 : c = 0
      · subst h0
        rw [if_pos (show ((UInt8.toNat 0 : Nat) : Int) = 0 from rfl), dec_zero]
        exact ih k (i + 1) l (by omega) (by omega) (by omega) hv
      have h0n : ¬ ((c.toNat : Nat) : Int) = 0 := fun e => h0 (UInt8.toNat_inj.1 (by simpa using e))
      rw [if_neg h0n]
      by_cases h1 : c = 255
      · subst h1
        rw [if_pos (show ((UInt8.toNat 255 : Nat) : Int) = 255 from rfl), if_pos (by omega), if_pos (by omega), dec_end, Int.toNat_natCast, trim_f _ (by rw [ByteArray.size_extract]; omega), Option.bind_some, toList_L, L_B]
        have he : L (s.extract (i + 1) s.size) = (L s).drop (i + 1) := by rw [L_extract, List.take_of_length_le (by rw [List.length_drop, L_len]; omega)]
        rw [he]
        by_cases hz : ((L s).drop (i + 1)).all (· == 0) = true
        · rw [if_pos ((trim_zero _).2 hz), if_pos hz, un_ab]
        · rw [if_neg (fun e => hz ((trim_zero _).1 e)), if_neg hz]; rfl
      have h1n : ¬ ((c.toNat : Nat) : Int) = 255 := fun e => h1 (UInt8.toNat_inj.1 (by have : c.toNat = 255 := by omega
                                                                                       rw [this]; rfl))
      rw [if_neg h1n]
      by_cases h2 : i + 1 < s.size
      · have hL2 : i + 1 < (L s).length := by rw [L_len]; exact h2
        rw [if_neg (by omega), if_pos (by omega), if_pos (by omega), bt_L s (i + 1) hL2, drop_at hL2]
        obtain ⟨d, hd⟩ : ∃ d, d = (L s)[i + 1] := ⟨_, rfl⟩
        have hdlt := d.toNat_lt
        rw [← hd, wbyte, show wrap64 ((i : Int) + 2) = ((i + 2 : Nat) : Int) from w2 (b := 2) (by omega), w2 (by omega), dec_part _ _ h0 h1]
        have hql : ((L s).drop (i + 1 + 1)).length = s.size - (i + 2) := by rw [List.length_drop, L_len]
        by_cases h3 : s.size < i + 2 + d.toNat
        · rw [if_pos (by omega), if_pos (by omega)]; rfl
        · rw [if_neg (by omega), if_pos (by omega), if_pos (by omega), if_pos (by omega), if_neg (by omega), Int.toNat_natCast, Int.toNat_natCast]
          have hsz := no_sizes hv.1
          have hpz : (s.extract (i + 2) (i + 2 + d.toNat)).size = d.toNat := by rw [ByteArray.size_extract]; omega
          have hpe : L (s.extract (i + 2) (i + 2 + d.toNat)) = ((L s).drop (i + 1 + 1)).take d.toNat := by rw [L_extract]; congr 1; omega
          rw [add_f l _ _ (by omega) (fun x hx => by have := hsz.2 x hx; omega) (by omega) k (by omega), Option.bind_some]
          have haz := ad_sizes (c.toNat : Int) (s.extract (i + 2) (i + 2 + d.toNat)) (by omega) hsz.2
          rw [over_f _ (fun x hx => by have := haz x hx; omega) k (by omega), Option.bind_some, ab_adS, hpe]
          by_cases h4 : no (ad (ab l) (c.toNat : Int) (((L s).drop (i + 1 + 1)).take d.toNat))
          · rw [decide_eq_true h4, if_neg (by decide), if_pos h4]
            have h5 := (vld_ad (((L s).drop (i + 1 + 1)).take d.toNat) hv.2 h0 h1).2 h4
            rw [ih k (i + 2 + d.toNat) _ (by omega) (by omega) (by omega) (by rw [ab_adS, hpe]; exact h5), ab_adS, hpe, List.drop_drop]
          · rw [decide_eq_false h4, if_pos (by decide), if_neg h4]; rfl
      · rw [if_pos (by omega), List.drop_eq_nil_of_le (by rw [L_len]; omega), dec_short _ h0 h1]; rfl
    · obtain rfl : i = s.size := by omega
      rw [option_Decode.l0, if_neg (by omega), List.drop_eq_nil_of_le (by rw [L_len]; omega), dec_nil]; rfl
theorem vld_nil : vld [] := ⟨⟨by simp, by simp [sz], by simp⟩, by simp, by simp⟩
theorem dec_f (s : ByteArray) (hs : s.size ≤ 140737488351232) (k : Nat) (hk : s.size + 200 < k) : option_Decode.f k s = some (un (dec [] (L s)).1, (dec [] (L s)).2) := by
  have := dec_l s hs s.size k 0 [] (by omega) hk (by omega) vld_nil
  simpa [option_Decode.f, ab_nil] using this
end Go.Proofs.YtkojlapefmcjnaaDoor.OPT

namespace Go.Proofs.YtkojlapefmcjnaaDoor.OPT
open Go Go.RowKit Go.Proofs.YtkojlapefmcjnaaDoorW.PrintWords Go.Proofs.YtkojlapefmcjnaaDoor.DN Go.Proofs.YtkojlapefmcjnaaDoor.Pa
set_option linter.unusedVariables false
set_option linter.unusedSimpArgs false

theorem same_l (l : List S34) (hl : l.length ≤ 5864062014900) : ∀ (n k i : Nat), l.length - i ≤ n → n < k → i ≤ l.length → ddilaw35_same.l0 k l l (i : Int) = some true := by
  intro n
  induction n with
  | zero =>
    intro k i hn hk hi
    obtain ⟨k, rfl⟩ : ∃ q, k = q + 1 := ⟨k - 1, by omega⟩
    rw [ddilaw35_same.l0, if_neg (by omega)]
  | succ n ih =>
    intro k i hn hk hi
    obtain ⟨k, rfl⟩ : ∃ q, k = q + 1 := ⟨k - 1, by omega⟩
    by_cases hlt : i < l.length
    · rw [ddilaw35_same.l0, if_pos (by omega), if_pos (by omega), if_pos (by omega), if_neg (by simp), wsucc (by omega)]
      exact ih k (i + 1) (by omega) (by omega) (by omega)
    · rw [ddilaw35_same.l0, if_neg (by omega)]
theorem same_f (l : List S34) (hl : l.length ≤ 5864062014900) (k : Nat) (hk : l.length < k) : ddilaw35_same.f k l l = some true := by
  unfold ddilaw35_same.f
  rw [if_pos rfl]
  exact same_l l hl l.length k 0 (by omega) hk (by omega)
theorem enc_f (l : List S34) (h : ∀ x ∈ l, x.f1.size ≤ 140737488351232) : option_Encode.f l = some (encA (ab l)) := by
  unfold option_Encode.f
  rw [if_pos (by simpa using h)]
theorem enc_one (c : Int) (v : ByteArray) (h : v.size ≤ 255) (hc : 1 ≤ c ∧ c ≤ 254) : option_Encode.f [⟨c, v⟩] = some (B (UInt8.ofNat c.toNat :: UInt8.ofNat (L v).length :: (L v ++ [255])), 0) := by
  rw [enc_f _ (by intro x hx; rw [List.mem_singleton] at hx; subst hx; exact (by omega : v.size ≤ 140737488351232))]
  have hv : vld (ab [⟨c, v⟩]) := by
    refine ⟨⟨by simp [ab], ?_, ?_⟩, by simp [ab], ?_⟩
    · simp only [ab, List.map, sz, o1]; rw [L_len]; omega
    · intro o ho; simp only [ab, List.map, List.mem_singleton] at ho; subst ho; simp only [o1]; rw [L_len]; omega
    · intro o ho; simp only [ab, List.map, List.mem_singleton] at ho; subst ho; exact hc
  unfold encA
  rw [if_pos hv]
  simp only [ab, List.map, enc, encL, o1]
  rw [encV, dif_pos (by rw [L_len]; omega)]
  simp
set_option maxRecDepth 100000 in
theorem awake_f (k : Nat) (hk : 300 ≤ k) : ddilaw35_awake.f k = some true := by
  have h0 := enc_one 12 ⟨#[97, 98]⟩ (by decide) (by decide)
  have hm : ddilaw35_awake.f 300 = some true := by
    unfold ddilaw35_awake.f
    rw [h0]
    decide +kernel
  obtain ⟨d, rfl⟩ := Nat.exists_eq_add_of_le hk
  clear hk
  induction d with
  | zero => exact hm
  | succ d ih => exact ddilaw35_awake.mono _ _ ih
end Go.Proofs.YtkojlapefmcjnaaDoor.OPT
