/- Parts of the proof of this claim's statement (joined by a program of this session): Ref, Pk, TimeP, DecP, HdP, Rdec, RdecP, Short, Awake36, PureDhcpDecodes. -/
import Derived.Test.YtcoekgnbncocnaaDoorDe4
import Derived.Test.YtcoekgnbncocnaaDoorDe1
import Derived.Test.YtcoekgnbncocnaaDoorDe5
import Derived.Test.YtcoekgnbncocnaaDoorDe2
import Derived.Test.YtcoekgnbncocnaaDoorDe3
import Derived.Test.YtcoekgnbncocnaaDoorDe6
namespace Go.Proofs.YtcoekgnbncocnaaDoor.Pa
open Go Go.RowKit
end Go.Proofs.YtcoekgnbncocnaaDoor.Pa
namespace Go.Proofs.YtcoekgnbncocnaaDoor.OPT
open Go Go.RowKit Go.Proofs.YtcoekgnbncocnaaDoorW.PrintWords Go.Proofs.YtcoekgnbncocnaaDoor.DN Go.Proofs.YtcoekgnbncocnaaDoor.Pa
set_option linter.unusedVariables false
set_option linter.unusedSimpArgs false

def un (m : List O) : List S61 := m.map fun o => ⟨o.1, B o.2⟩
theorem ab_un (m : List O) : ab (un m) = m := by
  induction m with
  | nil => rfl
  | cons o m ih =>
    have : ab (un (o :: m)) = o1 ⟨o.1, B o.2⟩ :: ab (un m) := rfl
    rw [this, ih]; rfl
theorem un_ab (l : List S61) : un (ab l) = l := ab_inj (ab_un _)
theorem un_length (m : List O) : (un m).length = m.length := List.length_map ..
theorem w2 {a b : Nat} (h : a + b < 9223372036854775807) : wrap64 ((a : Int) + (b : Int)) = ((a + b : Nat) : Int) := by rw [wrap_id (by omega) (by omega)]; rfl
theorem wbyte (c : UInt8) : wrap64 ((c.toNat : Nat) : Int) = ((c.toNat : Nat) : Int) := by have := c.toNat_lt; exact wrap_id (by omega) (by omega)
/-- where the first element with a code stands -/
def idxS : List S61 → Int → Nat → Int
  | [], _, _ => -1
  | x :: l, c, i => if x.f0 = c then (i : Int) else idxS l c (i + 1)
theorem idx_cases : ∀ (l : List S61) (c : Int) (i : Nat), ((∀ x ∈ l, x.f0 ≠ c) ∧ idxS l c i = -1) ∨ ∃ a x b, l = a ++ x :: b ∧ x.f0 = c ∧ (∀ y ∈ a, y.f0 ≠ c) ∧ idxS l c i = ((i + a.length : Nat) : Int)
  | [], c, i => .inl ⟨by simp, rfl⟩
  | x :: l, c, i => by
    by_cases h : x.f0 = c
    · exact .inr ⟨[], x, l, rfl, h, by simp, by rw [idxS, if_pos h]; rfl⟩
    · rcases idx_cases l c (i + 1) with ⟨h1, h2⟩ | ⟨a, y, b, h1, h2, h3, h4⟩
      · exact .inl ⟨by intro z hz; rcases List.mem_cons.1 hz with rfl | hz; exact h; exact h1 z hz, by rw [idxS, if_neg h, h2]⟩
      · refine .inr ⟨x :: a, y, b, by rw [h1]; rfl, h2, by intro z hz; rcases List.mem_cons.1 hz with rfl | hz; exact h; exact h3 z hz, ?_⟩
        rw [idxS, if_neg h, h4, List.length_cons]; congr 1; omega
theorem index_l (l : List S61) (c : Int) (hl : l.length ≤ 5864062014805) : ∀ (n k i : Nat), l.length - i ≤ n → n < k → i ≤ l.length → ddiref35_index.l0 k l c (i : Int) = some (idxS (l.drop i) c i) := by
  intro n
  induction n with
  | zero =>
    intro k i hn hk hi
    obtain ⟨k, rfl⟩ : ∃ q, k = q + 1 := ⟨k - 1, by omega⟩
    obtain rfl : i = l.length := by omega
    rw [ddiref35_index.l0, if_neg (by omega), List.drop_length]; rfl
  | succ n ih =>
    intro k i hn hk hi
    obtain ⟨k, rfl⟩ : ∃ q, k = q + 1 := ⟨k - 1, by omega⟩
    by_cases hlt : i < l.length
    · rw [ddiref35_index.l0, if_pos (by omega), if_pos (by omega), rd_at hlt, drop_at hlt, idxS]
      by_cases hc : l[i].f0 = c
      · rw [if_pos hc, if_pos hc]
      · rw [if_neg hc, if_neg hc, wsucc (by omega), ih k (i + 1) (by omega) (by omega) (by omega)]
    · obtain rfl : i = l.length := by omega
      rw [ddiref35_index.l0, if_neg (by omega), List.drop_length]; rfl
theorem index_f (l : List S61) (c : Int) (hl : l.length ≤ 5864062014805) (k : Nat) (hk : l.length < k) : ddiref35_index.f k l c = some (idxS l c 0) := by
  have := index_l l c hl l.length k 0 (by omega) hk (by omega)
  simpa [ddiref35_index.f] using this

theorem idx_first {l : List S61} {i : Nat} (hlt : i < l.length) : idxS l l[i].f0 0 = (i : Int) ↔ l[i].f0 ∉ (ab (l.take i)).map (·.1) := by
  have hmem : ∀ m : List S61, l[i].f0 ∈ (ab m).map (·.1) ↔ ∃ y ∈ m, y.f0 = l[i].f0 := by
    intro m; simp [ab, o1]
  rw [hmem]
  rcases idx_cases l l[i].f0 0 with ⟨h1, h2⟩ | ⟨a, x, b, h1, h2, h3, h4⟩
  · exact absurd rfl (h1 l[i] (List.getElem_mem hlt))
  · rw [h4, Nat.zero_add]
    constructor
    · rintro h ⟨y, hy, e⟩
      have : a.length = i := by omega
      have ht : l.take i = a := by subst this; conv => lhs; rw [h1]
                                   simp
      rw [ht] at hy
      exact h3 y hy e
    · intro h
      rcases Nat.lt_trichotomy a.length i with h5 | h5 | h5
      · refine absurd ⟨x, ?_, h2⟩ h
        rw [h1]
        rw [List.take_append, List.mem_append]
        right
        obtain ⟨d, hd⟩ : ∃ d, i - a.length = d + 1 := ⟨i - a.length - 1, by omega⟩
        rw [hd, List.take_succ_cons]; simp
      · omega
      · exfalso
        have : l[i] ∈ a := by
          have e : l[i] = a[i] := by
            have : l[i]? = a[i]? := by rw [h1, List.getElem?_append_left h5]
            rw [List.getElem?_eq_getElem hlt, List.getElem?_eq_getElem h5] at this
            exact Option.some.inj this
          rw [e]; exact List.getElem_mem h5
        exact h3 _ this rfl
theorem rvalid_l (l : List S61) (hl : l.length ≤ 32) (hz : ∀ x ∈ l, x.f1.size ≤ 140737488351232) : ∀ (n k i a : Nat), l.length - i ≤ n → n + 40 < k → i ≤ l.length → a + sz (ab (l.drop i)) < 9223372036854775807 →
    ddiref35_Valid.l0 k l (a : Int) (i : Int) = some (chk (ab (l.take i)) (ab (l.drop i)) && decide (a + sz (ab (l.drop i)) ≤ 4096)) := by
  intro n
  induction n with
  | zero =>
    intro k i a hn hk hi hs
    obtain ⟨k, rfl⟩ : ∃ q, k = q + 1 := ⟨k - 1, by omega⟩
    obtain rfl : i = l.length := by omega
    rw [ddiref35_Valid.l0, if_neg (by omega), List.drop_length]
    simp only [ab_nil, chk, sz, Bool.true_and, Nat.add_zero]; congr 1; rw [Bool.eq_iff_iff, decide_eq_true_iff, decide_eq_true_iff]; omega
  | succ n ih =>
    intro k i a hn hk hi hs
    obtain ⟨k, rfl⟩ : ∃ q, k = q + 1 := ⟨k - 1, by omega⟩
    by_cases hlt : i < l.length
    · rw [drop_at hlt, ab_cons, sz] at hs
      have hz1 : (o1 l[i]).2.length = l[i].f1.size := L_len _
      have hc1 : (o1 l[i]).1 = l[i].f0 := rfl
      rw [hz1] at hs
      rw [ddiref35_Valid.l0, if_pos (by omega), if_pos (by omega), rd_at hlt, drop_at hlt, ab_cons]
      have h3 : chk (ab (l.take i)) (o1 l[i] :: ab (l.drop (i + 1))) = (!(decide ((o1 l[i]).1 ∈ (ab (l.take i)).map (·.1))) && (decide (1 ≤ (o1 l[i]).1 ∧ (o1 l[i]).1 ≤ 254) && (decide ((o1 l[i]).2.length ≤ 1024) && chk (ab (l.take (i + 1))) (ab (l.drop (i + 1)))))) := by
        rw [chk, List.take_succ_eq_append_getElem hlt, ab_append]; rfl
      rw [h3, sz, hz1, hc1]
      by_cases h1 : l[i].f0 < 1
      · rw [if_pos h1, decide_eq_false (show ¬ (1 ≤ l[i].f0 ∧ l[i].f0 ≤ 254) by omega)]; simp
      by_cases h2 : l[i].f0 > 254
      · rw [if_neg h1, if_pos h2, decide_eq_false (show ¬ (1 ≤ l[i].f0 ∧ l[i].f0 ≤ 254) by omega)]; simp
      by_cases h4 : (l[i].f1.size : Int) > 1024
      · rw [if_neg h1, if_neg h2, if_pos h4, decide_eq_false (show ¬ (l[i].f1.size ≤ 1024) by omega)]; simp
      rw [if_neg h1, if_neg h2, if_neg h4, index_f l _ (by omega) k (by omega), Option.bind_some, decide_eq_true (show 1 ≤ l[i].f0 ∧ l[i].f0 ≤ 254 by omega), decide_eq_true (show l[i].f1.size ≤ 1024 by omega)]
      by_cases h5 : l[i].f0 ∈ (ab (l.take i)).map (·.1)
      · rw [if_neg (by rw [idx_first hlt]; exact fun h => h h5), decide_eq_true h5]; simp
      · rw [if_pos ((idx_first hlt).2 h5), decide_eq_false h5, w2 (by have := hz _ (List.getElem_mem hlt); omega), wsucc (by omega), ih k (i + 1) (a + l[i].f1.size) (by omega) (by omega) (by omega) (by omega)]
        simp only [Bool.not_false, Bool.true_and, Nat.add_assoc]
    · obtain rfl : i = l.length := by omega
      rw [ddiref35_Valid.l0, if_neg (by omega), List.drop_length]
      simp only [ab_nil, chk, sz, Bool.true_and, Nat.add_zero]; congr 1; rw [Bool.eq_iff_iff, decide_eq_true_iff, decide_eq_true_iff]; omega
theorem rvalid_f (l : List S61) (h : ∀ x ∈ l, x.f1.size ≤ 140737488351232) (k : Nat) (hk : 100 < k) : ddiref35_Valid.f k l = some (decide (vld (ab l))) := by
  unfold ddiref35_Valid.f
  by_cases h1 : (l.length : Int) > 32
  · rw [if_pos h1, decide_eq_false (by rw [vld_iff, ab_length]; omega)]
  · rw [if_neg h1]
    have h2 := sz_le h
    have := rvalid_l l (by omega) h l.length k 0 0 (by omega) (by omega) (by omega) (by rw [List.drop_zero]; omega)
    rw [List.take_zero, List.drop_zero, Nat.zero_add] at this
    refine Eq.trans this ?_
    congr 1
    rw [Bool.eq_iff_iff, Bool.and_eq_true, decide_eq_true_iff, decide_eq_true_iff, vld_iff, ab_length]
    exact ⟨fun h => ⟨by omega, h.2, h.1⟩, fun h => ⟨h.2.2, h.2.1⟩⟩

theorem over_l (l : List S61) (hl : l.length ≤ 33) : ∀ (n k i : Nat), l.length - i ≤ n → n < k → i ≤ l.length → option_over.l0 k l (l.length : Int) (i : Int) = some (!decide (∀ o ∈ ab (l.drop i), o.2.length ≤ 1024)) := by
  intro n
  induction n with
  | zero =>
    intro k i hn hk hi
    obtain ⟨k, rfl⟩ : ∃ q, k = q + 1 := ⟨k - 1, by omega⟩
    obtain rfl : i = l.length := by omega
    rw [option_over.l0, if_neg (by omega), List.drop_length]; simp [ab_nil]
  | succ n ih =>
    intro k i hn hk hi
    obtain ⟨k, rfl⟩ : ∃ q, k = q + 1 := ⟨k - 1, by omega⟩
    by_cases hlt : i < l.length
    · have hz1 : (o1 l[i]).2.length = l[i].f1.size := L_len _
      rw [option_over.l0, if_pos (by omega), if_pos (by omega), if_pos (by omega), rd_at hlt, drop_at hlt, ab_cons]
      by_cases h : (l[i].f1.size : Int) > 1024
      · rw [if_pos h, decide_eq_false (by intro h2; have := h2 _ (List.mem_cons_self ..); omega)]; rfl
      · rw [if_neg h, wsucc (by omega), ih k (i + 1) (by omega) (by omega) (by omega)]
        congr 2
        rw [decide_eq_decide]
        simp only [List.mem_cons, forall_eq_or_imp]
        exact ⟨fun h3 => ⟨by omega, h3⟩, fun h3 => h3.2⟩
    · obtain rfl : i = l.length := by omega
      rw [option_over.l0, if_neg (by omega), List.drop_length]; simp [ab_nil]
theorem over_f (l : List S61) (h : ∀ x ∈ l, x.f1.size ≤ 140737488351232) (k : Nat) (hk : 100 < k) : option_over.f k l = some (!decide (no (ab l))) := by
  obtain ⟨k, rfl⟩ : ∃ q, k = q + 1 := ⟨k - 1, by omega⟩
  unfold option_over.f
  by_cases h1 : (l.length : Int) > 32
  · rw [if_pos h1, option_over.j0, if_pos rfl, decide_eq_false (by rintro ⟨h, _⟩; rw [ab_length] at h; omega)]; rfl
  · rw [if_neg h1, size_f l (by omega) h _ (by omega), Option.bind_some, option_over.j0]
    by_cases h2 : ((sz (ab l) : Nat) : Int) > 4096
    · rw [if_pos (decide_eq_true h2), decide_eq_false (by rintro ⟨_, h, _⟩; omega)]; rfl
    · rw [if_neg (by rw [decide_eq_false h2]; decide)]
      have := over_l l (by omega) l.length k 0 (by omega) (by omega) (by omega)
      rw [List.drop_zero] at this
      refine Eq.trans this ?_
      congr 2
      rw [decide_eq_decide]
      exact ⟨fun h => ⟨by rw [ab_length]; omega, by omega, h⟩, fun h => h.2.2⟩

def adS : List S61 → Int → ByteArray → List S61
  | [], c, p => [⟨c, p⟩]
  | x :: l, c, p => if x.f0 = c then ⟨x.f0, x.f1 ++ p⟩ :: l else x :: adS l c p
theorem ab_adS (l : List S61) (c : Int) (p : ByteArray) : ab (adS l c p) = ad (ab l) c (L p) := by
  induction l with
  | nil => rfl
  | cons x l ih =>
    rw [adS, ab_cons, ad]
    by_cases h : x.f0 = c
    · rw [if_pos h, if_pos (show (o1 x).1 = c from h), ab_cons]
      simp only [o1, L_append, h]
    · rw [if_neg h, if_neg (show ¬ (o1 x).1 = c from h), ab_cons, ih]
theorem add_l (l : List S61) (c : Int) (p : ByteArray) (hl : l.length ≤ 5864062014800) (hz : ∀ x ∈ l, x.f1.size ≤ 140737488351232) (hp : p.size ≤ 140737488351232) : ∀ (n k i : Nat), l.length - i ≤ n → n < k → i ≤ l.length →
    option_add.l0 k l c p (l.length : Int) (i : Int) = some (l.take i ++ adS (l.drop i) c p) := by
  intro n
  induction n with
  | zero =>
    intro k i hn hk hi
    obtain ⟨k, rfl⟩ : ∃ q, k = q + 1 := ⟨k - 1, by omega⟩
    obtain rfl : i = l.length := by omega
    rw [option_add.l0, if_neg (by omega), if_pos (by omega), List.drop_length, List.take_length]; rfl
  | succ n ih =>
    intro k i hn hk hi
    obtain ⟨k, rfl⟩ : ∃ q, k = q + 1 := ⟨k - 1, by omega⟩
    by_cases hlt : i < l.length
    · rw [option_add.l0, if_pos (by omega), if_pos (by omega), if_pos (by omega), rd_at hlt, drop_at hlt, adS]
      by_cases h : l[i].f0 = c
      · rw [if_pos h, if_pos (by have := hz _ (List.getElem_mem hlt); omega), if_pos h, Int.toNat_natCast, List.set_eq_take_append_cons_drop, if_pos hlt]
      · rw [if_neg h, if_neg h, wsucc (by omega), ih k (i + 1) (by omega) (by omega) (by omega), List.take_succ_eq_append_getElem hlt, List.append_assoc]; rfl
    · obtain rfl : i = l.length := by omega
      rw [option_add.l0, if_neg (by omega), if_pos (by omega), List.drop_length, List.take_length]; rfl
theorem add_f (l : List S61) (c : Int) (p : ByteArray) (hl : l.length ≤ 5864062014800) (hz : ∀ x ∈ l, x.f1.size ≤ 140737488351232) (hp : p.size ≤ 140737488351232) (k : Nat) (hk : l.length < k) : option_add.f k l c p = some (adS l c p) := by
  have := add_l l c p hl hz hp l.length k 0 (by omega) hk (by omega)
  simpa [option_add.f] using this
theorem no_sizes {l : List S61} (h : no (ab l)) : l.length ≤ 32 ∧ ∀ x ∈ l, x.f1.size ≤ 1024 := by
  obtain ⟨h1, _, h3⟩ := h
  rw [ab_length] at h1
  exact ⟨h1, fun x hx => by have := h3 (o1 x) (List.mem_map_of_mem hx); rw [show (o1 x).2.length = x.f1.size from L_len _] at this; exact this⟩
theorem ad_sizes (c : Int) (p : ByteArray) (hp : p.size ≤ 255) : ∀ {l : List S61}, (∀ x ∈ l, x.f1.size ≤ 1024) → ∀ x ∈ adS l c p, x.f1.size ≤ 2000
  | [], _, x, hx => by rw [adS, List.mem_singleton] at hx; subst hx; exact (by omega : p.size ≤ 2000)
  | y :: l, h, x, hx => by
    rw [adS] at hx
    split at hx
    · rcases List.mem_cons.1 hx with rfl | hx
      · have := h y (by simp)
        show (y.f1 ++ p).size ≤ 2000
        rw [ByteArray.size_append]; omega
      · have := h x (by simp [hx]); omega
    · rcases List.mem_cons.1 hx with rfl | hx
      · have := h x (by simp); omega
      · exact ad_sizes c p hp (fun z hz => h z (by simp [hz])) x hx

theorem trim_zero (l : List UInt8) : Lib.trimB l 0 = [] ↔ l.all (· == 0) = true := by
  have h1 : ∀ m : List UInt8, Lib.trimLeftB m 0 = [] ↔ m.all (· == 0) = true := by
    intro m
    show m.dropWhile (· == 0) = [] ↔ _
    induction m with
    | nil => simp
    | cons x m ih =>
      rw [List.dropWhile_cons, List.all_cons]
      by_cases hx : (x == 0) = true
      · rw [if_pos hx, ih, hx]; simp
      · simp [hx]
  show Lib.trimLeftB (Lib.trimRightB l 0) 0 = [] ↔ _
  rw [h1]
  show ((l.reverse.dropWhile (· == 0)).reverse).all (· == 0) = true ↔ _
  rw [List.all_reverse]
  have h2 : ∀ m : List UInt8, (m.dropWhile (· == 0)).all (· == 0) = m.all (· == 0) := by
    intro m
    induction m with
    | nil => rfl
    | cons x m ih =>
      rw [List.dropWhile_cons]
      by_cases hx : (x == 0) = true
      · rw [if_pos hx, ih, List.all_cons, hx, Bool.true_and]
      · rw [if_neg hx]
  rw [h2, List.all_reverse]
theorem trim_f (s : ByteArray) (hs : s.size ≤ 9223372036854775807) : strings_Trim.f s ⟨#[0]⟩ = some (B (Lib.trimB (L s) 0)) := by
  unfold strings_Trim.f
  rw [if_pos ⟨hs, rfl⟩]; rfl
theorem dec_l (s : ByteArray) (hs : s.size ≤ 140737488351232) : ∀ (n k i : Nat) (l : List S61), s.size - i ≤ n → n + 200 < k → i ≤ s.size → vld (ab l) →
    option_Decode.l0 k s l (i : Int) = some (un (dec (ab l) ((L s).drop i)).1, (dec (ab l) ((L s).drop i)).2) := by
  intro n
  induction n with
  | zero =>
    intro k i l hn hk hi hv
    obtain ⟨k, rfl⟩ : ∃ q, k = q + 1 := ⟨k - 1, by omega⟩
    obtain rfl : i = s.size := by omega
    rw [option_Decode.l0, if_neg (by omega), List.drop_eq_nil_of_le (by rw [L_len]; omega), dec_nil]; rfl
  | succ n ih =>
    intro k i l hn hk hi hv
    obtain ⟨k, rfl⟩ : ∃ q, k = q + 1 := ⟨k - 1, by omega⟩
    by_cases hlt : i < s.size
    · have hL : i < (L s).length := by rw [L_len]; exact hlt
      rw [option_Decode.l0, if_pos (by omega), if_pos (by omega), bt_L s i hL, drop_at hL]
      obtain ⟨c, hc⟩ : ∃ c, c = (L s)[i] := ⟨_, rfl⟩
      rw [← hc, wbyte, wsucc (by omega)]
      by_cases h0 : c = 0
      · subst h0
        rw [if_pos (show ((UInt8.toNat 0 : Nat) : Int) = 0 from rfl), dec_zero]
        exact ih k (i + 1) l (by omega) (by omega) (by omega) hv
      have h0n : ¬ ((c.toNat : Nat) : Int) = 0 := fun e => h0 (UInt8.toNat_inj.1 (by simpa using e))
      rw [if_neg h0n]
      by_cases h1 : c = 255
      · subst h1
        rw [if_pos (show ((UInt8.toNat 255 : Nat) : Int) = 255 from rfl), if_pos (by omega), if_pos (by omega), dec_end, Int.toNat_natCast, trim_f _ (by rw [ByteArray.size_extract]; omega), Option.bind_some, toList_L, L_B]
        have he : L (s.extract (i + 1) s.size) = (L s).drop (i + 1) := by rw [L_extract, List.take_of_length_le (by rw [List.length_drop, L_len]; omega)]
        rw [he]
        by_cases hz : ((L s).drop (i + 1)).all (· == 0) = true
        · rw [if_pos ((trim_zero _).2 hz), if_pos hz, un_ab]
        · rw [if_neg (fun e => hz ((trim_zero _).1 e)), if_neg hz]; rfl
      have h1n : ¬ ((c.toNat : Nat) : Int) = 255 := fun e => h1 (UInt8.toNat_inj.1 (by have : c.toNat = 255 := by omega
                                                                                       rw [this]; rfl))
      rw [if_neg h1n]
      by_cases h2 : i + 1 < s.size
      · have hL2 : i + 1 < (L s).length := by rw [L_len]; exact h2
        rw [if_neg (by omega), if_pos (by omega), if_pos (by omega), bt_L s (i + 1) hL2, drop_at hL2]
        obtain ⟨d, hd⟩ : ∃ d, d = (L s)[i + 1] := ⟨_, rfl⟩
        have hdlt := d.toNat_lt
        rw [← hd, wbyte, show wrap64 ((i : Int) + 2) = ((i + 2 : Nat) : Int) from w2 (b := 2) (by omega), w2 (by omega), dec_part _ _ h0 h1]
        have hql : ((L s).drop (i + 1 + 1)).length = s.size - (i + 2) := by rw [List.length_drop, L_len]
        by_cases h3 : s.size < i + 2 + d.toNat
        · rw [if_pos (by omega), if_pos (by omega)]; rfl
        · rw [if_neg (by omega), if_pos (by omega), if_pos (by omega), if_pos (by omega), if_neg (by omega), Int.toNat_natCast, Int.toNat_natCast]
          have hsz := no_sizes hv.1
          have hpz : (s.extract (i + 2) (i + 2 + d.toNat)).size = d.toNat := by rw [ByteArray.size_extract]; omega
          have hpe : L (s.extract (i + 2) (i + 2 + d.toNat)) = ((L s).drop (i + 1 + 1)).take d.toNat := by rw [L_extract]; congr 1; omega
          rw [add_f l _ _ (by omega) (fun x hx => by have := hsz.2 x hx; omega) (by omega) k (by omega), Option.bind_some]
          have haz := ad_sizes (c.toNat : Int) (s.extract (i + 2) (i + 2 + d.toNat)) (by omega) hsz.2
          rw [over_f _ (fun x hx => by have := haz x hx; omega) k (by omega), Option.bind_some, ab_adS, hpe]
          by_cases h4 : no (ad (ab l) (c.toNat : Int) (((L s).drop (i + 1 + 1)).take d.toNat))
          · rw [decide_eq_true h4, if_neg (by decide), if_pos h4]
            have h5 := (vld_ad (((L s).drop (i + 1 + 1)).take d.toNat) hv.2 h0 h1).2 h4
            rw [ih k (i + 2 + d.toNat) _ (by omega) (by omega) (by omega) (by rw [ab_adS, hpe]; exact h5), ab_adS, hpe, List.drop_drop]
          · rw [decide_eq_false h4, if_pos (by decide), if_neg h4]; rfl
      · rw [if_pos (by omega), List.drop_eq_nil_of_le (by rw [L_len]; omega), dec_short _ h0 h1]; rfl
    · obtain rfl : i = s.size := by omega
      rw [option_Decode.l0, if_neg (by omega), List.drop_eq_nil_of_le (by rw [L_len]; omega), dec_nil]; rfl
theorem vld_nil : vld [] := ⟨⟨by simp, by simp [sz], by simp⟩, by simp, by simp⟩
theorem dec_f (s : ByteArray) (hs : s.size ≤ 140737488351232) (k : Nat) (hk : s.size + 200 < k) : option_Decode.f k s = some (un (dec [] (L s)).1, (dec [] (L s)).2) := by
  have := dec_l s hs s.size k 0 [] (by omega) hk (by omega) vld_nil
  simpa [option_Decode.f, ab_nil] using this
end Go.Proofs.YtcoekgnbncocnaaDoor.OPT


namespace Go.Proofs.YtcoekgnbncocnaaDoor.PK
open Go Go.RowKit Go.Proofs.YtcoekgnbncocnaaDoorW.PrintWords Go.Proofs.YtcoekgnbncocnaaDoorW.PrintLast Go.Proofs.YtcoekgnbncocnaaDoorW.PrintMore Go.Proofs.YtcoekgnbncocnaaDoor.DN Go.Proofs.YtcoekgnbncocnaaDoor.OPT Go.Proofs.YtcoekgnbncocnaaDoor.ADR Go.Proofs.YtcoekgnbncocnaaDoor.Pa
set_option linter.unusedVariables false
set_option linter.unusedSimpArgs false

def vis (b : UInt8) : Bool := decide (33 ≤ b.toNat ∧ b.toNat ≤ 126)
def cli (s : ByteArray) : Bool := decide (1 ≤ s.size ∧ s.size ≤ 32) && (L s).all vis
theorem client_l (s : ByteArray) (hs : s.size ≤ 32) : ∀ (n k i : Nat), s.size - i ≤ n → n < k → i ≤ s.size → dhcp_client.l0 k s (s.size : Int) (i : Int) = some (((L s).drop i).all vis) := by
  intro n
  induction n with
  | zero =>
    intro k i hn hk hi
    obtain ⟨k, rfl⟩ : ∃ q, k = q + 1 := ⟨k - 1, by omega⟩
    rw [dhcp_client.l0, if_neg (by omega), List.drop_eq_nil_of_le (by rw [L_len]; omega)]; rfl
  | succ n ih =>
    intro k i hn hk hi
    obtain ⟨k, rfl⟩ : ∃ q, k = q + 1 := ⟨k - 1, by omega⟩
    by_cases hlt : i < s.size
    · have hL : i < (L s).length := by rw [L_len]; exact hlt
      rw [dhcp_client.l0, if_pos (by omega), if_pos (by omega), if_pos (by omega), bt_L s i hL, drop_at hL, List.all_cons]
      by_cases h1 : (L s)[i].toNat < 33
      · rw [if_pos (by omega), show vis (L s)[i] = false from decide_eq_false (by omega)]; rfl
      · rw [if_neg (by omega)]
        by_cases h2 : 126 < (L s)[i].toNat
        · rw [if_pos (by omega), show vis (L s)[i] = false from decide_eq_false (by omega)]; rfl
        · rw [if_neg (by omega), show vis (L s)[i] = true from decide_eq_true (by omega), Bool.true_and, wsucc (by omega)]
          exact ih k (i + 1) (by omega) (by omega) (by omega)
    · rw [dhcp_client.l0, if_neg (by omega), List.drop_eq_nil_of_le (by rw [L_len]; omega)]; rfl
theorem rclient_l (s : ByteArray) (hs : s.size ≤ 32) : ∀ (n k i : Nat), s.size - i ≤ n → n < k → i ≤ s.size → ddiref36_isClient.l0 k s (i : Int) = some (((L s).drop i).all vis) := by
  intro n
  induction n with
  | zero =>
    intro k i hn hk hi
    obtain ⟨k, rfl⟩ : ∃ q, k = q + 1 := ⟨k - 1, by omega⟩
    rw [ddiref36_isClient.l0, if_neg (by omega), List.drop_eq_nil_of_le (by rw [L_len]; omega)]; rfl
  | succ n ih =>
    intro k i hn hk hi
    obtain ⟨k, rfl⟩ : ∃ q, k = q + 1 := ⟨k - 1, by omega⟩
    by_cases hlt : i < s.size
    · have hL : i < (L s).length := by rw [L_len]; exact hlt
      rw [ddiref36_isClient.l0, if_pos (by omega), if_pos (by omega), bt_L s i hL, drop_at hL, List.all_cons]
      by_cases h1 : (L s)[i].toNat < 33
      · rw [if_pos (by omega), show vis (L s)[i] = false from decide_eq_false (by omega)]; rfl
      · rw [if_neg (by omega)]
        by_cases h2 : 126 < (L s)[i].toNat
        · rw [if_pos (by omega), show vis (L s)[i] = false from decide_eq_false (by omega)]; rfl
        · rw [if_neg (by omega), show vis (L s)[i] = true from decide_eq_true (by omega), Bool.true_and, wsucc (by omega)]
          exact ih k (i + 1) (by omega) (by omega) (by omega)
    · rw [ddiref36_isClient.l0, if_neg (by omega), List.drop_eq_nil_of_le (by rw [L_len]; omega)]; rfl
theorem client_f (s : ByteArray) (k : Nat) (hk : 100 < k) : dhcp_client.f k s = some (cli s) ∧ ddiref36_isClient.f k s = some (cli s) := by
  obtain ⟨k, rfl⟩ : ∃ q, k = q + 1 := ⟨k - 1, by omega⟩
  unfold dhcp_client.f ddiref36_isClient.f cli
  have he : s.toList = ([] : List UInt8) ↔ s.size = 0 := by rw [toList_L, ← L_len]; exact List.length_eq_zero_iff.symm
  by_cases h0 : s.size = 0
  · rw [if_pos (he.2 h0), if_pos (by omega), dhcp_client.j0, if_pos rfl, ddiref36_isClient.j0, if_pos rfl, decide_eq_false (by omega)]; exact ⟨rfl, rfl⟩
  · rw [if_neg (fun e => h0 (he.1 e)), if_neg (by omega), dhcp_client.j0, ddiref36_isClient.j0]
    by_cases h : s.size ≤ 32
    · rw [decide_eq_false (show ¬ ((s.size : Int) > 32) by omega), if_neg (by decide), if_neg (by decide), decide_eq_true (by omega), Bool.true_and]
      exact ⟨client_l s h s.size k 0 (by omega) (by omega) (by omega), rclient_l s h s.size k 0 (by omega) (by omega) (by omega)⟩
    · rw [decide_eq_true (show (s.size : Int) > 32 by omega), if_pos rfl, if_pos rfl, decide_eq_false (by omega)]; exact ⟨rfl, rfl⟩

theorem isV4_f (x : S24) (h0 : 0 ≤ x.f2) : ddiref36_isV4.f x.f0 x.f1 x.f2 = some (decide (okA x)) := by
  unfold ddiref36_isV4.f ddiref02_Valid.f
  obtain ⟨b, hi, lo⟩ := x
  simp only at h0 ⊢
  cases b
  · by_cases h1 : hi = 0
    · subst h1
      by_cases h2 : lo ≤ 4294967295
      · have h3 : lo < 4294967296 := by omega
        simp [okA, h2, h3]
      · have h3 : ¬ lo < 4294967296 := by omega
        simp [okA, h2, h3]
    · simp [okA, h1]
  · simp [okA]

def opr (n : Int) : Int := if n = 1 ∨ n = 3 ∨ n = 4 ∨ n = 7 ∨ n = 8 then 1 else if n = 2 ∨ n = 5 ∨ n = 6 then 2 else 0
theorem operation_f (n : Int) (k : Nat) (hk : 1 ≤ k) : dhcp_operation.f k n = some (opr n) := by
  obtain ⟨k, rfl⟩ : ∃ q, k = q + 1 := ⟨k - 1, by omega⟩
  unfold dhcp_operation.f opr
  simp only [dhcp_operation.j0]
  by_cases h1 : n = 1
  · simp [h1]
  by_cases h3 : n = 3
  · simp [h3]
  by_cases h4 : n = 4
  · simp [h4]
  by_cases h7 : n = 7
  · simp [h7]
  by_cases h8 : n = 8
  · simp [h8]
  by_cases h2 : n = 2
  · simp [h2]
  by_cases h5 : n = 5
  · simp [h5]
  by_cases h6 : n = 6
  · simp [h6]
  simp [h1, h2, h3, h4, h5, h6, h7, h8]
theorem op_f (n : Int) (h : opr n ≠ 0) : ddiref36_op.f n = some (opr n) := by
  unfold ddiref36_op.f
  unfold opr at h ⊢
  by_cases h1 : n = 1
  · simp [h1]
  by_cases h3 : n = 3
  · simp [h3]
  by_cases h4 : n = 4
  · simp [h4]
  by_cases h7 : n = 7
  · simp [h7]
  by_cases h8 : n = 8
  · simp [h8]
  by_cases h2 : n = 2
  · simp [h2]
  by_cases h5 : n = 5
  · simp [h5]
  by_cases h6 : n = 6
  · simp [h6]
  simp [h1, h2, h3, h4, h5, h6, h7, h8] at h
theorem opr_zero (n : Int) : opr n = 0 ↔ ¬ (1 ≤ n ∧ n ≤ 8) := by
  unfold opr
  split
  · constructor
    · intro h; cases h
    · intro h; omega
  · split
    · constructor
      · intro h; cases h
      · intro h; omega
    · constructor
      · intro _; omega
      · intro _; rfl

def zeroA (x : S24) : Prop := x.f0 = false ∧ x.f1 = 0 ∧ x.f2 = 0
instance (x : S24) : Decidable (zeroA x) := inferInstanceAs (Decidable (_ ∧ _ ∧ _))
/-- a message but for its options -/
def vhd (a0 a1 a2 : Int) (a3 : ByteArray) (x y z : S24) (a13 : Bool) : Bool :=
  decide ((1 ≤ a0 ∧ a0 ≤ 8) ∧ (0 ≤ a1 ∧ a1 < 4294967296) ∧ (0 ≤ a2 ∧ a2 < 65536) ∧ cli a3 = true ∧ okA x ∧ okA y ∧ okA z ∧ (a13 = true ∨ zeroA z))
def vpk (a0 a1 a2 : Int) (a3 : ByteArray) (x y z : S24) (a13 : Bool) (l : List S61) : Bool := vhd a0 a1 a2 a3 x y z a13 && decide (vld (ab l))
theorem ne_zeroA (x : S24) : (x.f0 || (!(x.f1 == 0) || (!(x.f2 == 0)))) = !decide (zeroA x) := by
  obtain ⟨b, h, l⟩ := x
  cases b
  · by_cases h1 : h = 0
    · by_cases h2 : l = 0
      · subst h1; subst h2; rfl
      · subst h1; simp [zeroA, h2]
    · simp [zeroA, h1]
  · simp [zeroA]
theorem vhd_false {a0 a1 a2 : Int} {a3 : ByteArray} {x y z : S24} {a13 : Bool} {l : List S61} (h : ¬ ((1 ≤ a0 ∧ a0 ≤ 8) ∧ (0 ≤ a1 ∧ a1 < 4294967296) ∧ (0 ≤ a2 ∧ a2 < 65536) ∧ cli a3 = true ∧ okA x ∧ okA y ∧ okA z ∧ (a13 = true ∨ zeroA z))) : vpk a0 a1 a2 a3 x y z a13 l = false := by
  unfold vpk vhd; rw [decide_eq_false h]; rfl
theorem vhd_true {a0 a1 a2 : Int} {a3 : ByteArray} {x y z : S24} {a13 : Bool} {l : List S61} (h : (1 ≤ a0 ∧ a0 ≤ 8) ∧ (0 ≤ a1 ∧ a1 < 4294967296) ∧ (0 ≤ a2 ∧ a2 < 65536) ∧ cli a3 = true ∧ okA x ∧ okA y ∧ okA z ∧ (a13 = true ∨ zeroA z)) : vpk a0 a1 a2 a3 x y z a13 l = decide (vld (ab l)) := by
  unfold vpk vhd; rw [decide_eq_true h, Bool.true_and]
theorem rtail (a0 a1 a2 : Int) (a3 : ByteArray) (x y z : S24) (a13 : Bool) (l : List S61) (hx : 0 ≤ x.f2) (hy : 0 ≤ y.f2) (hz : 0 ≤ z.f2) (hl : ∀ o ∈ l, o.f1.size ≤ 140737488351232) (k : Nat) (hk : 100 < k)
    (h0 : 1 ≤ a0 ∧ a0 ≤ 8) (h1 : 0 ≤ a1 ∧ a1 < 4294967296) (h2 : 0 ≤ a2 ∧ a2 < 65536) (hc : cli a3 = true) :
    ddiref36_Valid.j0 (k + 1) false a0 a1 a2 a3 x.f0 x.f1 x.f2 y.f0 y.f1 y.f2 z.f0 z.f1 z.f2 a13 l = some (vpk a0 a1 a2 a3 x y z a13 l) := by
  rw [ddiref36_Valid.j0, if_neg Bool.false_ne_true, isV4_f x hx, Option.bind_some]
  by_cases hx' : okA x
  case neg => rw [decide_eq_false hx', if_neg Bool.false_ne_true, vhd_false (fun h => hx' h.2.2.2.2.1)]
  rw [decide_eq_true hx', if_pos rfl, isV4_f y hy, Option.bind_some]
  by_cases hy' : okA y
  case neg => rw [decide_eq_false hy', if_neg Bool.false_ne_true, vhd_false (fun h => hy' h.2.2.2.2.2.1)]
  rw [decide_eq_true hy', if_pos rfl, isV4_f z hz, Option.bind_some]
  by_cases hz' : okA z
  case neg => rw [decide_eq_false hz', if_neg Bool.false_ne_true, vhd_false (fun h => hz' h.2.2.2.2.2.2.1)]
  rw [decide_eq_true hz', if_pos rfl, ne_zeroA z, rvalid_f l hl k hk]
  by_cases h13 : a13 = true
  · rw [if_pos h13]
    rw [vhd_true ⟨h0, h1, h2, hc, hx', hy', hz', .inl h13⟩]
    rfl
  · rw [if_neg h13]
    by_cases hz0 : zeroA z
    · rw [decide_eq_true hz0, Bool.not_true, if_neg Bool.false_ne_true]
      rw [vhd_true ⟨h0, h1, h2, hc, hx', hy', hz', .inr hz0⟩]
      rfl
    · rw [decide_eq_false hz0, Bool.not_false, if_pos rfl, vhd_false (fun h => h.2.2.2.2.2.2.2.elim h13 hz0)]
theorem rj_true (k : Nat) (a0 a1 a2 : Int) (a3 : ByteArray) (b4 : Bool) (a5 a6 : Int) (b7 : Bool) (a8 a9 : Int) (b10 : Bool) (a11 a12 : Int) (a13 : Bool) (l : List S61) :
    ddiref36_Valid.j0 (k + 1) true a0 a1 a2 a3 b4 a5 a6 b7 a8 a9 b10 a11 a12 a13 l = some false := by rw [ddiref36_Valid.j0, if_pos rfl]
theorem rvalid36_f (a0 a1 a2 : Int) (a3 : ByteArray) (x y z : S24) (a13 : Bool) (l : List S61) (hx : 0 ≤ x.f2) (hy : 0 ≤ y.f2) (hz : 0 ≤ z.f2) (hl : ∀ o ∈ l, o.f1.size ≤ 140737488351232) (k : Nat) (hk : 200 < k) :
    ddiref36_Valid.f k a0 a1 a2 a3 x.f0 x.f1 x.f2 y.f0 y.f1 y.f2 z.f0 z.f1 z.f2 a13 l = some (vpk a0 a1 a2 a3 x y z a13 l) := by
  obtain ⟨k, rfl⟩ : ∃ q, k = q + 1 := ⟨k - 1, by omega⟩
  unfold ddiref36_Valid.f
  rw [(client_f a3 (k + 1) (by omega)).2, Option.bind_some]
  by_cases h0 : 1 ≤ a0 ∧ a0 ≤ 8
  case neg =>
    rw [vhd_false (fun h => h0 h.1)]
    by_cases h00 : a0 < 1
    · rw [if_pos h00, rj_true k]
    · rw [if_neg h00, if_pos (by omega), rj_true k]
  rw [if_neg (by omega), if_neg (by omega)]
  by_cases h1 : a1 < 0
  · rw [if_pos h1, rj_true k, vhd_false (fun h => by have := h.2.1; omega)]
  rw [if_neg h1]
  by_cases h2 : a1 ≥ 4294967296
  · rw [if_pos h2, rj_true k, vhd_false (fun h => by have := h.2.1; omega)]
  rw [if_neg h2]
  by_cases h3 : a2 < 0
  · rw [if_pos h3, rj_true k, vhd_false (fun h => by have := h.2.2.1; omega)]
  rw [if_neg h3]
  by_cases h4 : a2 ≥ 65536
  · rw [if_pos (by omega), rj_true k, vhd_false (fun h => by have := h.2.2.1; omega)]
  rw [if_neg (by omega)]
  by_cases hc : cli a3 = true
  · rw [hc]; exact rtail a0 a1 a2 a3 x y z a13 l hx hy hz hl k (by omega) h0 (by omega) (by omega) hc
  · rw [Bool.not_eq_true] at hc
    rw [hc, Bool.not_false, rj_true k, vhd_false (fun h => by rw [hc] at h; cases h.2.2.2.1)]
end Go.Proofs.YtcoekgnbncocnaaDoor.PK


namespace Go.Proofs.YtcoekgnbncocnaaDoor.PK
open Go Go.RowKit Go.Proofs.YtcoekgnbncocnaaDoorW.PrintWords Go.Proofs.YtcoekgnbncocnaaDoorW.PrintLast Go.Proofs.YtcoekgnbncocnaaDoorW.PrintMore Go.Proofs.YtcoekgnbncocnaaDoor.DN Go.Proofs.YtcoekgnbncocnaaDoor.OPT Go.Proofs.YtcoekgnbncocnaaDoor.ADR Go.Proofs.YtcoekgnbncocnaaDoor.Pa
set_option linter.unusedVariables false
set_option linter.unusedSimpArgs false

theorem foldN_lt : ∀ (l : List UInt8) (n : Nat), foldN l n < (n + 1) * 256 ^ l.length
  | [], n => by simp [foldN]
  | c :: l, n => by
    have h := foldN_lt l (n * 256 + c.toNat)
    have hc := c.toNat_lt
    show foldN l (n * 256 + c.toNat) < _
    rw [List.length_cons, Nat.pow_succ]
    refine Nat.lt_of_lt_of_le h ?_
    rw [Nat.mul_comm (256 ^ l.length) 256, ← Nat.mul_assoc]
    exact Nat.mul_le_mul_right _ (by omega)
end Go.Proofs.YtcoekgnbncocnaaDoor.PK


namespace Go.Proofs.YtcoekgnbncocnaaDoor.PK
open Go Go.RowKit Go.Proofs.YtcoekgnbncocnaaDoorW.PrintWords Go.Proofs.YtcoekgnbncocnaaDoorW.PrintLast Go.Proofs.YtcoekgnbncocnaaDoorW.PrintMore Go.Proofs.YtcoekgnbncocnaaDoor.DN Go.Proofs.YtcoekgnbncocnaaDoor.OPT Go.Proofs.YtcoekgnbncocnaaDoor.ADR Go.Proofs.YtcoekgnbncocnaaDoor.Pa
set_option linter.unusedVariables false
set_option linter.unusedSimpArgs false

theorem bt_range (s : ByteArray) (i : Nat) (h : i < s.size) : 0 ≤ bt s (i : Int) ∧ bt s (i : Int) ≤ 255 := by
  have hL : i < (L s).length := by rw [L_len]; exact h
  have := (L s)[i].toNat_lt
  rw [bt_L s i hL]; omega
theorem fold_bound : ∀ (l : List UInt8) (acc : Nat), foldN l acc < (acc + 1) * 256 ^ l.length := foldN_lt
theorem num36_l (s : ByteArray) (hs : s.size ≤ 4) : ∀ (n k i acc : Nat), s.size - i ≤ n → n < k → i ≤ s.size → (acc + 1) * 256 ^ (s.size - i) ≤ 4294967296 →
    dhcp_number.l0 k s (acc : Int) (s.size : Int) (i : Int) = some ((foldN ((L s).drop i) acc : Nat) : Int) := by
  intro n
  induction n with
  | zero =>
    intro k i acc hn hk hi hb
    obtain ⟨k, rfl⟩ : ∃ q, k = q + 1 := ⟨k - 1, by omega⟩
    rw [dhcp_number.l0, if_neg (by omega), List.drop_eq_nil_of_le (by rw [L_len]; omega)]; rfl
  | succ n ih =>
    intro k i acc hn hk hi hb
    obtain ⟨k, rfl⟩ : ∃ q, k = q + 1 := ⟨k - 1, by omega⟩
    by_cases hlt : i < s.size
    · have hL : i < (L s).length := by rw [L_len]; exact hlt
      obtain ⟨c, hc⟩ : ∃ c, c = (L s)[i] := ⟨_, rfl⟩
      have hclt := c.toNat_lt
      obtain ⟨d, hd⟩ : ∃ d, s.size - i = d + 1 := ⟨s.size - i - 1, by omega⟩
      have hp : 256 ^ (s.size - i) = 256 * 256 ^ (s.size - (i + 1)) := by rw [hd, show s.size - (i + 1) = d by omega, Nat.pow_succ, Nat.mul_comm]
      have hpos : 0 < 256 ^ (s.size - (i + 1)) := Nat.pow_pos (by decide)
      have hacc : (acc + 1) * 256 ≤ 4294967296 := by
        rw [hp, ← Nat.mul_assoc] at hb
        exact Nat.le_trans (Nat.le_mul_of_pos_right _ hpos) hb
      have hb2 : (acc * 256 + c.toNat + 1) * 256 ^ (s.size - (i + 1)) ≤ 4294967296 := by
        rw [hp, ← Nat.mul_assoc] at hb
        exact Nat.le_trans (Nat.mul_le_mul_right _ (by omega)) hb
      have := ih k (i + 1) (acc * 256 + c.toNat) (by omega) (by omega) (by omega) hb2
      rw [dhcp_number.l0, if_pos (by omega), if_pos (by omega), if_pos (by omega), bt_L s i hL, dropN hL, ← hc, wbt, wm (by omega), or_i64 acc c.toNat hclt (by omega), wsc (by omega), show foldN (c :: (L s).drop (i + 1)) acc = foldN ((L s).drop (i + 1)) (acc * 256 + c.toNat) from rfl]
      exact this
    · rw [dhcp_number.l0, if_neg (by omega), List.drop_eq_nil_of_le (by rw [L_len]; omega)]; rfl
theorem pow_le {n : Nat} (h : n ≤ 4) : (0 + 1) * 256 ^ (n - 0) ≤ 4294967296 := by
  have : n = 0 ∨ n = 1 ∨ n = 2 ∨ n = 3 ∨ n = 4 := by omega
  rcases this with h | h | h | h | h <;> rw [h] <;> decide
theorem num36 (s : ByteArray) (hs : s.size ≤ 4) (k : Nat) (hk : 10 < k) : dhcp_number.f k s = some ((foldN (L s) 0 : Nat) : Int) := by
  have := num36_l s hs s.size k 0 0 (by omega) (by omega) (by omega) (pow_le hs)
  simpa [dhcp_number.f] using this
theorem read36 (s : ByteArray) (h : s.size = 4) (k : Nat) (hk : 20 ≤ k) : addr_Read.f k s = some (false, 0, ((foldN (L s) 0 : Nat) : Int), 0) := by
  obtain ⟨a, b, c, d, rfl⟩ := four_of h
  rw [read4 a b c d k hk]
  refine congrArg some (Prod.ext rfl (Prod.ext rfl (Prod.ext ?_ rfl)))
  show ((val4 a b c d : Nat) : Int) = ((foldN [a, b, c, d] 0 : Nat) : Int)
  unfold val4 foldN
  simp
abbrev DT := Int × Int × Int × ByteArray × Bool × Int × Int × Bool × Int × Int × Bool × Int × Int × Bool × List S61 × Int
def errP (e : Int) : DT := (0, 0, 0, ⟨#[]⟩, false, 0, 0, false, 0, 0, false, 0, 0, false, [], e)
def nP (s : ByteArray) (a b : Nat) : Int := ((foldN (L (s.extract a b)) 0 : Nat) : Int)
def endP (s : ByteArray) : Nat := (22 + bt s 21).toNat
/-- is what stands in front of the options in form? -/
def formP (s : ByteArray) : Bool := decide (opr (bt s 1) ≠ 0 ∧ bt s 0 = opr (bt s 1) ∧ bt s 20 ≤ 1 ∧ (bt s 20 = 1 ∨ zeroA ⟨false, 0, nP s 16 20⟩) ∧ cli (s.extract 22 (endP s)) = true)
def decP (s : ByteArray) : DT :=
  if s.size < 22 ∨ (s.size : Int) < 22 + bt s 21 then errP 6 else if formP s = false then errP 7 else
    if (dec [] (L (s.extract (endP s) s.size))).2 ≠ 0 then errP (dec [] (L (s.extract (endP s) s.size))).2 else
      if vld (dec [] (L (s.extract (endP s) s.size))).1 then (bt s 1, nP s 2 6, nP s 6 8, s.extract 22 (endP s), false, 0, nP s 8 12, false, 0, nP s 12 16, false, 0, nP s 16 20, bt s 20 == 1, un (dec [] (L (s.extract (endP s) s.size))).1, 0) else errP 7
theorem cli_len {s : ByteArray} {b : Int} (h : 22 ≤ s.size) (h0 : 0 ≤ b) (hb : 22 + b ≤ s.size) : ((s.extract 22 (22 + b).toNat).size : Int) = b := by rw [ByteArray.size_extract]; omega
theorem dec_sizes (s : ByteArray) (h : vld (dec [] (L s)).1) : ∀ x ∈ un (dec [] (L s)).1, x.f1.size ≤ 140737488351232 := by
  intro x hx
  unfold un at hx
  obtain ⟨o, ho, rfl⟩ := List.mem_map.1 hx
  have := h.1.2.2 o ho
  show (B o.2).size ≤ _
  rw [B_size]; omega
theorem dec_sizes' (s : ByteArray) (hs : s.size ≤ 100000) : ∀ x ∈ un (dec [] (L s)).1, x.f1.size ≤ 140737488351232 := by
  intro x hx
  by_cases h : vld (dec [] (L s)).1
  · exact dec_sizes s h x hx
  · rcases dec_all s.size (L s) [] (by rw [L_len]; exact Nat.le_refl _) vld_nil with h1 | h1
    · exact absurd h1.2.1 h
    · rw [h1.1] at hx; cases hx
theorem decj1 (s : ByteArray) (hs : s.size ≤ 100000) (k : Nat) (hk : 200000 < k) (h22 : 22 ≤ s.size) (hn : 22 + bt s 21 ≤ s.size) (a0 a1 a2 : Int) (b4 : Bool) (a5 a6 : Int) (b7 : Bool) (a8 a9 : Int) (b10 : Bool) (a11 a12 : Int) (b13 : Bool) :
    dhcp_Decode.j1 (k + 1) s false a0 a1 a2 (s.extract 22 (endP s)) b4 a5 a6 b7 a8 a9 b10 a11 a12 b13 = some (if (dec [] (L (s.extract (endP s) s.size))).2 ≠ 0 then errP (dec [] (L (s.extract (endP s) s.size))).2 else
      if vld (dec [] (L (s.extract (endP s) s.size))).1 then (a0, a1, a2, s.extract 22 (endP s), b4, a5, a6, b7, a8, a9, b10, a11, a12, b13, un (dec [] (L (s.extract (endP s) s.size))).1, 0) else errP 7) := by
  have hb : 0 ≤ bt s 21 ∧ bt s 21 ≤ 255 := bt_range s 21 (by omega)
  have hc := cli_len (s := s) (b := bt s 21) h22 hb.1 hn
  have he : wrap64 (22 + ((s.extract 22 (endP s)).size : Int)) = ((endP s : Nat) : Int) := by
    unfold endP
    rw [hc, wrap_id (by omega) (by omega)]; omega
  have hel : endP s ≤ s.size := by unfold endP; omega
  rw [dhcp_Decode.j1, if_neg Bool.false_ne_true, he, if_pos (by omega), if_pos (by omega), Int.toNat_natCast]
  have hz : (s.extract (endP s) s.size).size ≤ 100000 := by rw [ByteArray.size_extract]; omega
  rw [dec_f _ (by omega) k (by omega), Option.bind_some]
  by_cases h0 : (dec [] (L (s.extract (endP s) s.size))).2 = 0
  · rw [if_pos h0, if_neg (fun h => h h0), valid_f _ (dec_sizes' _ hz) k (by omega), Option.bind_some, ab_un]
    by_cases hv : vld (dec [] (L (s.extract (endP s) s.size))).1
    · rw [decide_eq_true hv, if_pos rfl, if_pos hv]
    · rw [decide_eq_false hv, if_neg Bool.false_ne_true, if_neg hv]; rfl
  · rw [if_neg h0, if_pos h0]; rfl
theorem decj1_true (s : ByteArray) (k : Nat) (a0 a1 a2 : Int) (c : ByteArray) (b4 : Bool) (a5 a6 : Int) (b7 : Bool) (a8 a9 : Int) (b10 : Bool) (a11 a12 : Int) (b13 : Bool) : dhcp_Decode.j1 (k + 1) s true a0 a1 a2 c b4 a5 a6 b7 a8 a9 b10 a11 a12 b13 = some (errP 7) := by
  rw [dhcp_Decode.j1, if_pos rfl]; rfl
theorem form_no {s : ByteArray} (h : ¬ (opr (bt s 1) ≠ 0 ∧ bt s 0 = opr (bt s 1) ∧ bt s 20 ≤ 1 ∧ (bt s 20 = 1 ∨ zeroA ⟨false, 0, nP s 16 20⟩) ∧ cli (s.extract 22 (endP s)) = true)) : formP s = false := decide_eq_false h
theorem form_yes {s : ByteArray} (h : opr (bt s 1) ≠ 0 ∧ bt s 0 = opr (bt s 1) ∧ bt s 20 ≤ 1 ∧ (bt s 20 = 1 ∨ zeroA ⟨false, 0, nP s 16 20⟩) ∧ cli (s.extract 22 (endP s)) = true) : ¬ formP s = false := by
  unfold formP; rw [decide_eq_true h]; decide
theorem size_sub (s : ByteArray) (a b : Nat) (h : b ≤ s.size) : (s.extract a b).size = b - a := by rw [ByteArray.size_extract]; omega
theorem dec36_f (s : ByteArray) (hs : s.size ≤ 100000) (k : Nat) (hk : 200002 < k) : dhcp_Decode.f k s = some (decP s) := by
  obtain ⟨k, rfl⟩ : ∃ q, k = q + 2 := ⟨k - 2, by omega⟩
  unfold dhcp_Decode.f decP
  by_cases h1 : s.size < 22
  · rw [if_pos (by omega), dhcp_Decode.j0, if_pos rfl, if_pos (.inl h1)]; rfl
  have b21 : 0 ≤ bt s 21 ∧ bt s 21 ≤ 255 := bt_range s 21 (by omega)
  have b20 : 0 ≤ bt s 20 ∧ bt s 20 ≤ 255 := bt_range s 20 (by omega)
  have b1 : 0 ≤ bt s 1 ∧ bt s 1 ≤ 255 := bt_range s 1 (by omega)
  have w1 : ∀ i : Nat, i < s.size → wrap64 (bt s (i : Int)) = bt s (i : Int) := fun i hi => by have := bt_range s i hi; exact wrap_id (by omega) (by omega)
  have w21 : wrap64 (bt s 21) = bt s 21 := w1 21 (by omega)
  have w1' : wrap64 (bt s 1) = bt s 1 := w1 1 (by omega)
  have wn : wrap64 (22 + bt s 21) = 22 + bt s 21 := wrap_id (by have := b21; omega) (by have := b21; omega)
  rw [if_neg (by omega), if_pos (by omega), w21, wn]
  by_cases h2 : (s.size : Int) < 22 + bt s 21
  · rw [decide_eq_true h2, dhcp_Decode.j0, if_pos rfl, if_pos (.inr h2)]; rfl
  rw [decide_eq_false h2, if_neg (show ¬ (s.size < 22 ∨ (s.size : Int) < 22 + bt s 21) from fun e => e.elim h1 h2), dhcp_Decode.j0, if_neg Bool.false_ne_true, w21, wn, w1']
  rw [if_pos (by omega), if_pos (by decide), if_pos (by omega), num36 _ (by rw [size_sub s 2 6 (by omega)]; decide) (k + 1) (by omega), Option.bind_some]
  rw [if_pos (by decide), if_pos (by omega), num36 _ (by rw [size_sub s 6 8 (by omega)]; decide) (k + 1) (by omega), Option.bind_some]
  rw [if_pos (by omega), if_pos (by omega), if_pos (by have := b21; omega), if_pos (by omega), if_pos (by decide), if_pos (by omega), read36 _ (by rw [size_sub s 8 12 (by omega)]) (k + 1) (by omega), Option.bind_some]
  rw [if_pos (by decide), if_pos (by omega), read36 _ (by rw [size_sub s 12 16 (by omega)]) (k + 1) (by omega), Option.bind_some]
  rw [if_pos (by decide), if_pos (by omega), read36 _ (by rw [size_sub s 16 20 (by omega)]) (k + 1) (by omega), Option.bind_some]
  rw [operation_f _ (k + 1) (by omega), Option.bind_some]
  have hend : (22 + bt s 21).toNat = endP s := rfl
  rw [hend]
  by_cases f1 : opr (bt s 1) = 0
  · rw [if_pos f1, decj1_true, if_pos (form_no (fun h => h.1 f1))]
  rw [if_neg f1, if_pos (by omega)]
  by_cases f2 : bt s 0 = opr (bt s 1)
  case neg => rw [if_neg f2, decj1_true, if_pos (form_no (fun h => f2 h.2.1))]
  rw [if_pos f2]
  by_cases f3 : bt s 20 > 1
  · rw [if_pos f3, decj1_true, if_pos (form_no (fun h => by have := h.2.2.1; omega))]
  rw [if_neg f3, (client_f (s.extract 22 (endP s)) (k + 1) (by omega)).1, Option.bind_some]
  by_cases f4 : bt s 20 = 1
  · rw [if_pos f4]
    by_cases f5 : cli (s.extract 22 (endP s)) = true
    · rw [f5, Bool.not_true, decj1 s hs k (by omega) (by omega) (by omega), if_neg (form_yes ⟨f1, f2, by omega, .inl f4, f5⟩)]; rfl
    · rw [if_pos (form_no (fun h => f5 h.2.2.2.2))]
      rw [Bool.not_eq_true] at f5
      rw [f5, Bool.not_false, decj1_true]
  · rw [if_neg f4, ne_zeroA ⟨false, 0, ((foldN (L (s.extract 16 20)) 0 : Nat) : Int)⟩]
    by_cases f6 : zeroA ⟨false, 0, ((foldN (L (s.extract 16 20)) 0 : Nat) : Int)⟩
    · rw [decide_eq_true f6, Bool.not_true, if_neg Bool.false_ne_true]
      by_cases f5 : cli (s.extract 22 (endP s)) = true
      · rw [f5, Bool.not_true, decj1 s hs k (by omega) (by omega) (by omega), if_neg (form_yes ⟨f1, f2, by omega, .inr f6, f5⟩)]; rfl
      · rw [if_pos (form_no (fun h => f5 h.2.2.2.2))]
        rw [Bool.not_eq_true] at f5
        rw [f5, Bool.not_false, decj1_true]
    · rw [decide_eq_false f6, Bool.not_false, if_pos rfl, decj1_true, if_pos (form_no (fun h => h.2.2.2.1.elim f4 f6))]
end Go.Proofs.YtcoekgnbncocnaaDoor.PK


namespace Go.Proofs.YtcoekgnbncocnaaDoor.PK
open Go Go.RowKit Go.Proofs.YtcoekgnbncocnaaDoorW.PrintWords Go.Proofs.YtcoekgnbncocnaaDoorW.PrintLast Go.Proofs.YtcoekgnbncocnaaDoorW.PrintMore Go.Proofs.YtcoekgnbncocnaaDoor.DN Go.Proofs.YtcoekgnbncocnaaDoor.OPT Go.Proofs.YtcoekgnbncocnaaDoor.ADR Go.Proofs.YtcoekgnbncocnaaDoor.Pa
set_option linter.unusedVariables false
set_option linter.unusedSimpArgs false

theorem nP_bound (s : ByteArray) (a b : Nat) (h : b ≤ s.size) (h4 : b ≤ a + 4) : 0 ≤ nP s a b ∧ nP s a b < 4294967296 := by
  have e : (L (s.extract a b)).length ≤ 4 := by rw [L_len, size_sub s a b h]; omega
  have h1 := fold_bound (L (s.extract a b)) 0
  have h2 : 256 ^ (L (s.extract a b)).length ≤ 256 ^ 4 := Nat.pow_le_pow_right (by decide) e
  unfold nP
  have : (256 : Nat) ^ 4 = 4294967296 := by decide
  omega
theorem nP_two (s : ByteArray) (a b : Nat) (h : b ≤ s.size) (h4 : b ≤ a + 2) : nP s a b < 65536 := by
  have e : (L (s.extract a b)).length ≤ 2 := by rw [L_len, size_sub s a b h]; omega
  have h1 := fold_bound (L (s.extract a b)) 0
  have h2 : 256 ^ (L (s.extract a b)).length ≤ 256 ^ 2 := Nat.pow_le_pow_right (by decide) e
  unfold nP
  have : (256 : Nat) ^ 2 = 65536 := by decide
  omega
/-- the head of the bytes as a message without options -/
def hdP (s : ByteArray) : Bool := vhd (bt s 1) (nP s 2 6) (nP s 6 8) (s.extract 22 (endP s)) ⟨false, 0, nP s 8 12⟩ ⟨false, 0, nP s 12 16⟩ ⟨false, 0, nP s 16 20⟩ (bt s 20 == 1)
theorem hdP_eq (s : ByteArray) (h : 22 ≤ s.size) (hk : 1 ≤ bt s 1 ∧ bt s 1 ≤ 8) : hdP s = decide ((bt s 20 = 1 ∨ zeroA ⟨false, 0, nP s 16 20⟩) ∧ cli (s.extract 22 (endP s)) = true) := by
  unfold hdP vhd
  have n1 := nP_bound s 2 6 (by omega) (by omega)
  have n2 := nP_bound s 6 8 (by omega) (by omega)
  have n2' := nP_two s 6 8 (by omega) (by omega)
  have n3 := nP_bound s 8 12 (by omega) (by omega)
  have n4 := nP_bound s 12 16 (by omega) (by omega)
  have n5 := nP_bound s 16 20 (by omega) (by omega)
  refine decide_eq_decide.2 ⟨fun h => ⟨?_, h.2.2.2.1⟩, fun h => ⟨hk, n1, ⟨n2.1, n2'⟩, h.2, ⟨rfl, rfl, by show nP s 8 12 ≤ _; omega⟩, ⟨rfl, rfl, by show nP s 12 16 ≤ _; omega⟩, ⟨rfl, rfl, by show nP s 16 20 ≤ _; omega⟩, ?_⟩⟩
  · rcases h.2.2.2.2.2.2.2 with h | h
    · exact .inl (by simpa using h)
    · exact .inr h
  · rcases h.1 with h | h
    · exact .inl (by simpa using h)
    · exact .inr h
end Go.Proofs.YtcoekgnbncocnaaDoor.PK


namespace Go.Proofs.YtcoekgnbncocnaaDoor.OPT
open Go Go.RowKit Go.Proofs.YtcoekgnbncocnaaDoorW.PrintWords Go.Proofs.YtcoekgnbncocnaaDoor.DN Go.Proofs.YtcoekgnbncocnaaDoor.Pa
set_option linter.unusedVariables false
set_option linter.unusedSimpArgs false

theorem end_l (s : ByteArray) (hs : s.size ≤ 140737488351232) : ∀ (n k i : Nat), s.size - i ≤ n → n < k → i ≤ s.size → ddiref35_end.l0 k s (i : Int) = some (if ((L s).drop i).all (· == 0) then 0 else 8) := by
  intro n
  induction n with
  | zero =>
    intro k i hn hk hi
    obtain ⟨k, rfl⟩ : ∃ q, k = q + 1 := ⟨k - 1, by omega⟩
    rw [ddiref35_end.l0, if_neg (by omega), List.drop_eq_nil_of_le (by rw [L_len]; omega)]; rfl
  | succ n ih =>
    intro k i hn hk hi
    obtain ⟨k, rfl⟩ : ∃ q, k = q + 1 := ⟨k - 1, by omega⟩
    by_cases hlt : i < s.size
    · have hL : i < (L s).length := by rw [L_len]; exact hlt
      rw [ddiref35_end.l0, if_pos (by omega), if_pos (by omega), bt_L s i hL, drop_at hL, List.all_cons]
      by_cases h : (L s)[i] = 0
      · rw [if_pos (by rw [h]; rfl), wsucc (by omega), ih k (i + 1) (by omega) (by omega) (by omega), h]; simp
      · rw [if_neg (fun e => h (UInt8.toNat_inj.1 (by simpa using e))), show ((L s)[i] == 0) = false from beq_eq_false_iff_ne.mpr h, Bool.false_and, if_neg (by decide)]
    · rw [ddiref35_end.l0, if_neg (by omega), List.drop_eq_nil_of_le (by rw [L_len]; omega)]; rfl
theorem end_f (s : ByteArray) (hs : s.size ≤ 140737488351232) (k : Nat) (hk : s.size < k) : ddiref35_end.f k s = some (if (L s).all (· == 0) then 0 else 8) := by
  have := end_l s hs s.size k 0 (by omega) hk (by omega)
  simpa [ddiref35_end.f] using this

def mapS (l : List S61) (c : Int) (p : ByteArray) : List S61 := l.map fun x => if x.f0 = c then (⟨x.f0, x.f1 ++ p⟩ : S61) else x
def jnS (l : List S61) (c : Int) (p : ByteArray) : List S61 := mapS l c p ++ (if idxS l c 0 < 0 then [⟨c, p⟩] else [])
theorem ab_mapS (l : List S61) (c : Int) (p : ByteArray) : ab (mapS l c p) = (ab l).map (fun o => if o.1 = c then (o.1, o.2 ++ L p) else o) := by
  induction l with
  | nil => rfl
  | cons x l ih =>
    have h1 : mapS (x :: l) c p = (if x.f0 = c then (⟨x.f0, x.f1 ++ p⟩ : S61) else x) :: mapS l c p := rfl
    rw [h1, ab_cons, ab_cons, List.map_cons, ih]
    by_cases h : x.f0 = c
    · rw [if_pos h, if_pos (show (o1 x).1 = c from h)]; simp only [o1, L_append]
    · rw [if_neg h, if_neg (show ¬ (o1 x).1 = c from h)]
theorem ab_jnS (l : List S61) (c : Int) (p : ByteArray) : ab (jnS l c p) = jn (ab l) c (L p) := by
  unfold jnS jn
  rw [ab_append]
  congr 1
  · exact ab_mapS l c p
  · have hm : c ∈ (ab l).map (·.1) ↔ ∃ y ∈ l, y.f0 = c := by simp [ab, o1]
    rcases idx_cases l c 0 with ⟨h1, h2⟩ | ⟨a, x, b, h1, h2, h3, h4⟩
    · rw [h2, if_pos (by decide), if_neg (by rw [hm]; rintro ⟨y, hy, e⟩; exact h1 y hy e)]; rfl
    · rw [h4, if_neg (by omega), if_pos (by rw [hm]; exact ⟨x, by rw [h1]; simp, h2⟩)]; rfl
theorem mapS_length (l : List S61) (c : Int) (p : ByteArray) : (mapS l c p).length = l.length := by simp [mapS]
theorem joined_l (l : List S61) (c : Int) (p : ByteArray) (hl : l.length ≤ 5864062014800) (hz : ∀ x ∈ l, x.f1.size ≤ 140737488351232) (hp : p.size ≤ 140737488351232) : ∀ (n k i : Nat), l.length - i ≤ n → n + l.length + 1 < k → i ≤ l.length →
    ddiref35_joined.l0 k l c p (mapS (l.take i) c p) (i : Int) = some (jnS l c p) := by
  intro n
  have hend : ∀ k, l.length < k → ((ddiref35_index.f k l c).bind fun t221 => (if t221 < 0 then (if (mapS l c p).length < 5864062014805 then (some ((mapS l c p) ++ [(⟨c, p⟩ : S61)])) else (none)) else (some (mapS l c p)))) = some (jnS l c p) := by
    intro k hk
    rw [index_f l c (by omega) k hk, Option.bind_some]
    unfold jnS
    by_cases h : idxS l c 0 < 0
    · rw [if_pos h, if_pos h, if_pos (by rw [mapS_length]; omega)]
    · rw [if_neg h, if_neg h, List.append_nil]
  induction n with
  | zero =>
    intro k i hn hk hi
    obtain ⟨k, rfl⟩ : ∃ q, k = q + 1 := ⟨k - 1, by omega⟩
    obtain rfl : i = l.length := by omega
    rw [ddiref35_joined.l0, if_neg (by omega), List.take_length]
    exact hend k (by omega)
  | succ n ih =>
    intro k i hn hk hi
    obtain ⟨k, rfl⟩ : ∃ q, k = q + 1 := ⟨k - 1, by omega⟩
    by_cases hlt : i < l.length
    · have h2 := ih k (i + 1) (by omega) (by omega) (by omega)
      have ht : mapS (l.take (i + 1)) c p = mapS (l.take i) c p ++ [if l[i].f0 = c then (⟨l[i].f0, l[i].f1 ++ p⟩ : S61) else l[i]] := by
        unfold mapS; rw [List.take_succ_eq_append_getElem hlt, List.map_append]; rfl
      rw [ht] at h2
      rw [ddiref35_joined.l0, if_pos (by omega), if_pos (by omega), rd_at hlt, wsucc (by omega)]
      have hlm : (mapS (l.take i) c p).length < 5864062014805 := by rw [mapS_length, List.length_take]; omega
      by_cases h : l[i].f0 = c
      · rw [if_pos h] at h2
        rw [if_pos h, if_pos (by have := hz _ (List.getElem_mem hlt); omega), if_pos hlm]; exact h2
      · rw [if_neg h] at h2
        rw [if_neg h, if_pos hlm]; exact h2
    · obtain rfl : i = l.length := by omega
      rw [ddiref35_joined.l0, if_neg (by omega), List.take_length]
      exact hend k (by omega)
theorem joined_f (l : List S61) (c : Int) (p : ByteArray) (hl : l.length ≤ 5864062014800) (hz : ∀ x ∈ l, x.f1.size ≤ 140737488351232) (hp : p.size ≤ 140737488351232) (k : Nat) (hk : 2 * l.length + 1 < k) : ddiref35_joined.f k l c p = some (jnS l c p) := by
  have := joined_l l c p hl hz hp l.length k 0 (by omega) (by omega) (by omega)
  simpa [ddiref35_joined.f, mapS] using this
theorem jn_sizes {l : List S61} (c : Int) (p : ByteArray) (hp : p.size ≤ 255) (h : ∀ x ∈ l, x.f1.size ≤ 1024) : ∀ x ∈ jnS l c p, x.f1.size ≤ 2000 := by
  intro x hx
  unfold jnS mapS at hx
  rcases List.mem_append.1 hx with hx | hx
  · obtain ⟨y, hy, rfl⟩ := List.mem_map.1 hx
    have := h y hy
    split
    · show (y.f1 ++ p).size ≤ 2000
      rw [ByteArray.size_append]; omega
    · omega
  · split at hx
    · rw [List.mem_singleton] at hx; subst hx; exact (by omega : p.size ≤ 2000)
    · cases hx
theorem rdec_j (s : ByteArray) (hs : s.size ≤ 140737488351232) (l : List S61) (i k : Nat) (hk : 200 < k) (hv : vld (ab l)) (h2 : i + 1 < s.size) (c d : UInt8) (hc : (L s)[i]? = some c) (hd : (L s)[i + 1]? = some d) (h0 : c ≠ 0) (h1 : c ≠ 255)
    (ih : ∀ l, vld (ab l) → i + 2 + d.toNat ≤ s.size → ddiref35_Decode.l0 k s l ((i + 2 + d.toNat : Nat) : Int) = some (un (dec (ab l) ((L s).drop (i + 2 + d.toNat))).1, (dec (ab l) ((L s).drop (i + 2 + d.toNat))).2)) :
    ddiref35_Decode.j1 (k + 1) s l (i : Int) (decide (s.size < i + 2 + d.toNat)) = some (un (dec (ab l) (c :: d :: (L s).drop (i + 2))).1, (dec (ab l) (c :: d :: (L s).drop (i + 2))).2) := by
  have hdlt := d.toNat_lt
  have hL : i < (L s).length := by rw [L_len]; omega
  have hL2 : i + 1 < (L s).length := by rw [L_len]; omega
  have hci : (L s)[i] = c := by rw [List.getElem?_eq_getElem hL] at hc; exact Option.some.inj hc
  have hdi : (L s)[i + 1] = d := by rw [List.getElem?_eq_getElem hL2] at hd; exact Option.some.inj hd
  have hql : ((L s).drop (i + 2)).length = s.size - (i + 2) := by rw [List.length_drop, L_len]
  rw [ddiref35_Decode.j1, dec_part _ _ h0 h1]
  by_cases h3 : s.size < i + 2 + d.toNat
  · rw [if_pos (decide_eq_true h3), if_pos (by omega)]; rfl
  · rw [decide_eq_false h3, if_neg (by decide), if_neg (show ¬ ((L s).drop (i + 2)).length < d.toNat by omega), wsucc (by omega), if_pos (by omega), if_pos (by omega), if_pos (by omega), if_pos (by omega), bt_L s i hL, bt_L s (i + 1) hL2, hci, hdi, wbyte, wbyte,
      show wrap64 ((i : Int) + 2) = ((i + 2 : Nat) : Int) from w2 (b := 2) (by omega), w2 (by omega), if_pos (by omega), if_pos (by omega), if_pos (by omega), Int.toNat_natCast, Int.toNat_natCast]
    have hsz := no_sizes hv.1
    have hpz : (s.extract (i + 2) (i + 2 + d.toNat)).size = d.toNat := by rw [ByteArray.size_extract]; omega
    have hpe : L (s.extract (i + 2) (i + 2 + d.toNat)) = ((L s).drop (i + 2)).take d.toNat := by rw [L_extract]; congr 1; omega
    rw [joined_f l _ _ (by omega) (fun x hx => by have := hsz.2 x hx; omega) (by omega) k (by omega), Option.bind_some]
    have haz := jn_sizes (c.toNat : Int) (s.extract (i + 2) (i + 2 + d.toNat)) (by omega) hsz.2
    have hja : ab (jnS l (c.toNat : Int) (s.extract (i + 2) (i + 2 + d.toNat))) = ad (ab l) (c.toNat : Int) (((L s).drop (i + 2)).take d.toNat) := by rw [ab_jnS, hpe, ad_jn _ _ hv.2.1]
    rw [rvalid_f _ (fun x hx => by have := haz x hx; omega) k (by omega), Option.bind_some, hja]
    have hva := vld_ad (((L s).drop (i + 2)).take d.toNat) hv.2 h0 h1
    by_cases h4 : no (ad (ab l) (c.toNat : Int) (((L s).drop (i + 2)).take d.toNat))
    · rw [decide_eq_true (hva.2 h4), if_pos rfl, if_pos h4, ih _ (by rw [hja]; exact hva.2 h4) (by omega), hja, List.drop_drop]
    · rw [decide_eq_false (fun h => h4 (hva.1 h)), if_neg (by decide), if_neg h4]; rfl
theorem rdec_l (s : ByteArray) (hs : s.size ≤ 140737488351232) : ∀ (n k i : Nat) (l : List S61), s.size - i ≤ n → 2 * n + s.size + 300 < k → i ≤ s.size → vld (ab l) →
    ddiref35_Decode.l0 k s l (i : Int) = some (un (dec (ab l) ((L s).drop i)).1, (dec (ab l) ((L s).drop i)).2) := by
  intro n
  induction n using Nat.strongRecOn with
  | ind n ih =>
    intro k i l hn hk hi hv
    obtain ⟨k, rfl⟩ : ∃ q, k = q + 1 := ⟨k - 1, by omega⟩
    by_cases hlt : i < s.size
    · have hL : i < (L s).length := by rw [L_len]; exact hlt
      rw [ddiref35_Decode.l0, if_pos (by omega), if_pos (by omega), bt_L s i hL, drop_at hL]
      obtain ⟨c, hc⟩ : ∃ c, c = (L s)[i] := ⟨_, rfl⟩
      rw [← hc, wsucc (by omega)]
      by_cases h0 : c = 0
      · subst h0
        rw [if_pos (show ((UInt8.toNat 0 : Nat) : Int) = 0 from rfl), dec_zero]
        exact ih (n - 1) (by omega) k (i + 1) l (by omega) (by omega) (by omega) hv
      have h0n : ¬ ((c.toNat : Nat) : Int) = 0 := fun e => h0 (UInt8.toNat_inj.1 (by simpa using e))
      rw [if_neg h0n]
      by_cases h1 : c = 255
      · subst h1
        have he : L (s.extract (i + 1) s.size) = (L s).drop (i + 1) := by rw [L_extract, List.take_of_length_le (by rw [List.length_drop, L_len]; omega)]
        rw [if_pos (show ((UInt8.toNat 255 : Nat) : Int) = 255 from rfl), if_pos (by omega), if_pos (by omega), dec_end, Int.toNat_natCast, end_f _ (by rw [ByteArray.size_extract]; omega) k (by rw [ByteArray.size_extract]; omega), Option.bind_some, he]
        by_cases hz : ((L s).drop (i + 1)).all (· == 0) = true
        · rw [if_pos hz, if_pos hz, if_pos rfl, un_ab]
        · rw [if_neg hz, if_neg hz, if_neg (by decide)]; rfl
      have h1n : ¬ ((c.toNat : Nat) : Int) = 255 := fun e => h1 (UInt8.toNat_inj.1 (by have : c.toNat = 255 := by omega
                                                                                       rw [this]; rfl))
      rw [if_neg h1n]
      by_cases h2 : i + 1 < s.size
      · have hL2 : i + 1 < (L s).length := by rw [L_len]; exact h2
        rw [if_neg (by omega), if_pos (by omega), if_pos (by omega), bt_L s (i + 1) hL2, drop_at hL2]
        obtain ⟨d, hd⟩ : ∃ d, d = (L s)[i + 1] := ⟨_, rfl⟩
        have hdlt := d.toNat_lt
        rw [← hd, wbyte, show wrap64 ((i : Int) + 2) = ((i + 2 : Nat) : Int) from w2 (b := 2) (by omega), w2 (by omega)]
        obtain ⟨k, rfl⟩ : ∃ q, k = q + 1 := ⟨k - 1, by omega⟩
        have := rdec_j s hs l i k (by omega) hv h2 c d (by rw [List.getElem?_eq_getElem hL, hc]) (by rw [List.getElem?_eq_getElem hL2, hd]) h0 h1 (fun l hv hle => ih (n - 2 - d.toNat) (by omega) k (i + 2 + d.toNat) l (by omega) (by omega) hle hv)
        rw [show decide (((i + 2 + d.toNat : Nat) : Int) > (s.size : Int)) = decide (s.size < i + 2 + d.toNat) from by rw [decide_eq_decide]; omega]
        exact this
      · obtain ⟨k, rfl⟩ : ∃ q, k = q + 1 := ⟨k - 1, by omega⟩
        rw [if_pos (by omega), List.drop_eq_nil_of_le (by rw [L_len]; omega), dec_short _ h0 h1, ddiref35_Decode.j1, if_pos rfl]; rfl
    · obtain rfl : i = s.size := by omega
      rw [ddiref35_Decode.l0, if_neg (by omega), List.drop_eq_nil_of_le (by rw [L_len]; omega), dec_nil]; rfl
theorem rdec_f (s : ByteArray) (hs : s.size ≤ 140737488351232) (k : Nat) (hk : 3 * s.size + 300 < k) : ddiref35_Decode.f k s = some (un (dec [] (L s)).1, (dec [] (L s)).2) := by
  have := rdec_l s hs s.size k 0 [] (by omega) (by omega) (by omega) vld_nil
  simpa [ddiref35_Decode.f, ab_nil] using this
end Go.Proofs.YtcoekgnbncocnaaDoor.OPT


namespace Go.Proofs.YtcoekgnbncocnaaDoor.PK
open Go Go.RowKit Go.Proofs.YtcoekgnbncocnaaDoorW.PrintWords Go.Proofs.YtcoekgnbncocnaaDoorW.PrintLast Go.Proofs.YtcoekgnbncocnaaDoorW.PrintMore Go.Proofs.YtcoekgnbncocnaaDoor.DN Go.Proofs.YtcoekgnbncocnaaDoor.OPT Go.Proofs.YtcoekgnbncocnaaDoor.ADR Go.Proofs.YtcoekgnbncocnaaDoor.Pa
set_option linter.unusedVariables false
set_option linter.unusedSimpArgs false

theorem rnum36_l (s : ByteArray) (hs : s.size ≤ 4) : ∀ (n k i acc : Nat), s.size - i ≤ n → n < k → i ≤ s.size → (acc + 1) * 256 ^ (s.size - i) ≤ 4294967296 →
    ddiref36_number.l0 k s (acc : Int) (i : Int) = some ((foldN ((L s).drop i) acc : Nat) : Int) := by
  intro n
  induction n with
  | zero =>
    intro k i acc hn hk hi hb
    obtain ⟨k, rfl⟩ : ∃ q, k = q + 1 := ⟨k - 1, by omega⟩
    rw [ddiref36_number.l0, if_neg (by omega), List.drop_eq_nil_of_le (by rw [L_len]; omega)]; rfl
  | succ n ih =>
    intro k i acc hn hk hi hb
    obtain ⟨k, rfl⟩ : ∃ q, k = q + 1 := ⟨k - 1, by omega⟩
    by_cases hlt : i < s.size
    · have hL : i < (L s).length := by rw [L_len]; exact hlt
      obtain ⟨c, hc⟩ : ∃ c, c = (L s)[i] := ⟨_, rfl⟩
      have hclt := c.toNat_lt
      obtain ⟨d, hd⟩ : ∃ d, s.size - i = d + 1 := ⟨s.size - i - 1, by omega⟩
      have hp : 256 ^ (s.size - i) = 256 * 256 ^ (s.size - (i + 1)) := by rw [hd, show s.size - (i + 1) = d by omega, Nat.pow_succ, Nat.mul_comm]
      have hpos : 0 < 256 ^ (s.size - (i + 1)) := Nat.pow_pos (by decide)
      have hacc : (acc + 1) * 256 ≤ 4294967296 := by
        rw [hp, ← Nat.mul_assoc] at hb
        exact Nat.le_trans (Nat.le_mul_of_pos_right _ hpos) hb
      have hb2 : (acc * 256 + c.toNat + 1) * 256 ^ (s.size - (i + 1)) ≤ 4294967296 := by
        rw [hp, ← Nat.mul_assoc] at hb
        exact Nat.le_trans (Nat.mul_le_mul_right _ (by omega)) hb
      have := ih k (i + 1) (acc * 256 + c.toNat) (by omega) (by omega) (by omega) hb2
      have e : wrap64 (((acc * 256 : Nat) : Int) + ((c.toNat : Nat) : Int)) = ((acc * 256 + c.toNat : Nat) : Int) := by rw [wrap_id (by omega) (by omega)]; omega
      rw [ddiref36_number.l0, if_pos (by omega), if_pos (by omega), bt_L s i hL, dropN hL, ← hc, wbt, Int.mul_comm 256, wm (by omega), e, wsc (by omega), show foldN (c :: (L s).drop (i + 1)) acc = foldN ((L s).drop (i + 1)) (acc * 256 + c.toNat) from rfl]
      exact this
    · rw [ddiref36_number.l0, if_neg (by omega), List.drop_eq_nil_of_le (by rw [L_len]; omega)]; rfl
theorem rnum36 (s : ByteArray) (hs : s.size ≤ 4) (k : Nat) (hk : 10 < k) : ddiref36_number.f k s = some ((foldN (L s) 0 : Nat) : Int) := by
  have := rnum36_l s hs s.size k 0 0 (by omega) (by omega) (by omega) (pow_le hs)
  simpa [ddiref36_number.f] using this
theorem rdecj1_true (s : ByteArray) (x5 : Int) (k : Nat) (a0 a1 a2 : Int) (c : ByteArray) (b4 : Bool) (a5 a6 : Int) (b7 : Bool) (a8 a9 : Int) (b10 : Bool) (a11 a12 : Int) (b13 : Bool) : ddiref36_Decode.j1 (k + 1) s x5 true a0 a1 a2 c b4 a5 a6 b7 a8 a9 b10 a11 a12 b13 = some (errP 7) := by
  rw [ddiref36_Decode.j1, if_pos rfl]; rfl
theorem rdecj1 (s : ByteArray) (hs : s.size ≤ 100000) (k : Nat) (hk : 400000 < k) (h22 : 22 ≤ s.size) (hn : 22 + bt s 21 ≤ s.size) (hh : hdP s = true) :
    ddiref36_Decode.j1 (k + 1) s ((endP s : Nat) : Int) false (bt s 1) (nP s 2 6) (nP s 6 8) (s.extract 22 (endP s)) false 0 (nP s 8 12) false 0 (nP s 12 16) false 0 (nP s 16 20) (bt s 20 == 1) = some (if (dec [] (L (s.extract (endP s) s.size))).2 ≠ 0 then errP (dec [] (L (s.extract (endP s) s.size))).2 else
      if vld (dec [] (L (s.extract (endP s) s.size))).1 then (bt s 1, nP s 2 6, nP s 6 8, s.extract 22 (endP s), false, 0, nP s 8 12, false, 0, nP s 12 16, false, 0, nP s 16 20, bt s 20 == 1, un (dec [] (L (s.extract (endP s) s.size))).1, 0) else errP 7) := by
  have hb : 0 ≤ bt s 21 ∧ bt s 21 ≤ 255 := bt_range s 21 (by omega)
  have hel : endP s ≤ s.size := by unfold endP; omega
  have n3 := nP_bound s 8 12 (by omega) (by omega)
  have n4 := nP_bound s 12 16 (by omega) (by omega)
  have n5 := nP_bound s 16 20 (by omega) (by omega)
  rw [ddiref36_Decode.j1, if_neg Bool.false_ne_true, if_pos (by omega), if_pos (by omega), Int.toNat_natCast]
  have hz : (s.extract (endP s) s.size).size ≤ 100000 := by rw [ByteArray.size_extract]; omega
  rw [rdec_f _ (by omega) k (by omega), Option.bind_some]
  by_cases h0 : (dec [] (L (s.extract (endP s) s.size))).2 = 0
  · have e := rvalid36_f (bt s 1) (nP s 2 6) (nP s 6 8) (s.extract 22 (endP s)) ⟨false, 0, nP s 8 12⟩ ⟨false, 0, nP s 12 16⟩ ⟨false, 0, nP s 16 20⟩ (bt s 20 == 1) (un (dec [] (L (s.extract (endP s) s.size))).1) n3.1 n4.1 n5.1 (dec_sizes' _ hz) k (by omega)
    dsimp only at e
    rw [if_pos h0, if_neg (fun h => h h0), e, Option.bind_some]
    unfold vpk
    rw [show vhd (bt s 1) (nP s 2 6) (nP s 6 8) (s.extract 22 (endP s)) ⟨false, 0, nP s 8 12⟩ ⟨false, 0, nP s 12 16⟩ ⟨false, 0, nP s 16 20⟩ (bt s 20 == 1) = true from hh, Bool.true_and, ab_un]
    by_cases hv : vld (dec [] (L (s.extract (endP s) s.size))).1
    · rw [decide_eq_true hv, if_pos rfl, if_pos hv]
    · rw [decide_eq_false hv, if_neg Bool.false_ne_true, if_neg hv]; rfl
  · rw [if_neg h0, if_pos h0]; rfl
theorem rdec36_f (s : ByteArray) (hs : s.size ≤ 100000) (k : Nat) (hk : 400002 < k) : ddiref36_Decode.f k s = some (decP s) := by
  obtain ⟨k, rfl⟩ : ∃ q, k = q + 2 := ⟨k - 2, by omega⟩
  unfold ddiref36_Decode.f decP
  by_cases h1 : s.size < 22
  · rw [if_pos (by omega), ddiref36_Decode.j0, if_pos rfl, if_pos (.inl h1)]; rfl
  have b21 : 0 ≤ bt s 21 ∧ bt s 21 ≤ 255 := bt_range s 21 (by omega)
  have b20 : 0 ≤ bt s 20 ∧ bt s 20 ≤ 255 := bt_range s 20 (by omega)
  have b1 : 0 ≤ bt s 1 ∧ bt s 1 ≤ 255 := bt_range s 1 (by omega)
  have w1 : ∀ i : Nat, i < s.size → wrap64 (bt s (i : Int)) = bt s (i : Int) := fun i hi => by have := bt_range s i hi; exact wrap_id (by omega) (by omega)
  have w21 : wrap64 (bt s 21) = bt s 21 := w1 21 (by omega)
  have w1' : wrap64 (bt s 1) = bt s 1 := w1 1 (by omega)
  have w0' : wrap64 (bt s 0) = bt s 0 := w1 0 (by omega)
  have wn : wrap64 (22 + bt s 21) = 22 + bt s 21 := wrap_id (by have := b21; omega) (by have := b21; omega)
  have n3 := nP_bound s 8 12 (by omega) (by omega)
  have n4 := nP_bound s 12 16 (by omega) (by omega)
  have n5 := nP_bound s 16 20 (by omega) (by omega)
  have u64 : ∀ x : Int, 0 ≤ x ∧ x < 4294967296 → IntKind.u64.wrap x = x := fun x h => by show x % 18446744073709551616 = x; omega
  rw [if_neg (by omega), if_pos (by omega), w21, wn]
  by_cases h2 : (s.size : Int) < 22 + bt s 21
  · rw [decide_eq_true h2, ddiref36_Decode.j0, if_pos rfl, if_pos (.inr h2)]; rfl
  rw [decide_eq_false h2, if_neg (show ¬ (s.size < 22 ∨ (s.size : Int) < 22 + bt s 21) from fun e => e.elim h1 h2), ddiref36_Decode.j0, if_neg Bool.false_ne_true, w21, wn, w1', w0']
  rw [if_pos (by omega), if_pos (by decide), if_pos (by omega), rnum36 _ (by rw [size_sub s 2 6 (by omega)]; decide) (k + 1) (by omega), Option.bind_some]
  rw [if_pos (by decide), if_pos (by omega), rnum36 _ (by rw [size_sub s 6 8 (by omega)]; decide) (k + 1) (by omega), Option.bind_some]
  rw [if_pos (by omega), if_pos (by decide), if_pos (by omega), rnum36 _ (by rw [size_sub s 8 12 (by omega)]; decide) (k + 1) (by omega), Option.bind_some]
  rw [if_pos (by decide), if_pos (by omega), rnum36 _ (by rw [size_sub s 12 16 (by omega)]; decide) (k + 1) (by omega), Option.bind_some]
  rw [if_pos (by decide), if_pos (by omega), rnum36 _ (by rw [size_sub s 16 20 (by omega)]; decide) (k + 1) (by omega), Option.bind_some]
  rw [if_pos (by omega), if_pos (by have := b21; omega), if_pos (by omega)]
  have hend : (22 + bt s 21).toNat = endP s := rfl
  have hend' : 22 + bt s 21 = ((endP s : Nat) : Int) := by unfold endP; omega
  rw [hend, hend', show ((foldN (L (s.extract 2 6)) 0 : Nat) : Int) = nP s 2 6 from rfl, show ((foldN (L (s.extract 6 8)) 0 : Nat) : Int) = nP s 6 8 from rfl, show ((foldN (L (s.extract 8 12)) 0 : Nat) : Int) = nP s 8 12 from rfl,
    show ((foldN (L (s.extract 12 16)) 0 : Nat) : Int) = nP s 12 16 from rfl, show ((foldN (L (s.extract 16 20)) 0 : Nat) : Int) = nP s 16 20 from rfl, u64 _ n3, u64 _ n4, u64 _ n5]
  by_cases g1 : bt s 1 < 1
  · rw [if_pos g1, rdecj1_true, if_pos (form_no (fun h => h.1 ((opr_zero _).2 (by omega))))]
  rw [if_neg g1]
  by_cases g2 : bt s 1 > 8
  · rw [if_pos g2, rdecj1_true, if_pos (form_no (fun h => h.1 ((opr_zero _).2 (by omega))))]
  have f1 : opr (bt s 1) ≠ 0 := fun h => (opr_zero _).1 h ⟨by omega, by omega⟩
  rw [if_neg g2, if_pos (by omega), op_f _ f1, Option.bind_some]
  by_cases f2 : bt s 0 = opr (bt s 1)
  case neg => rw [if_neg f2, rdecj1_true, if_pos (form_no (fun h => f2 h.2.1))]
  rw [if_pos f2]
  by_cases f3 : bt s 20 > 1
  · rw [if_pos f3, rdecj1_true, if_pos (form_no (fun h => by have := h.2.2.1; omega))]
  have e := rvalid36_f (bt s 1) (nP s 2 6) (nP s 6 8) (s.extract 22 (endP s)) ⟨false, 0, nP s 8 12⟩ ⟨false, 0, nP s 12 16⟩ ⟨false, 0, nP s 16 20⟩ (bt s 20 == 1) [] n3.1 n4.1 n5.1 (fun _ h => nomatch h) (k + 1) (by omega)
  dsimp only at e
  have e2 : vpk (bt s 1) (nP s 2 6) (nP s 6 8) (s.extract 22 (endP s)) ⟨false, 0, nP s 8 12⟩ ⟨false, 0, nP s 12 16⟩ ⟨false, 0, nP s 16 20⟩ (bt s 20 == 1) [] = hdP s := by
    unfold vpk hdP
    rw [show decide (vld (ab [])) = true from decide_eq_true vld_nil, Bool.and_true]
  rw [if_neg f3, e, Option.bind_some, e2]
  have hh := hdP_eq s (by omega) ⟨by omega, by omega⟩
  by_cases f4 : (bt s 20 = 1 ∨ zeroA ⟨false, 0, nP s 16 20⟩) ∧ cli (s.extract 22 (endP s)) = true
  · rw [decide_eq_true f4] at hh
    rw [hh, Bool.not_true, rdecj1 s hs k (by omega) (by omega) (by omega) hh, if_neg (form_yes ⟨f1, f2, by omega, f4.1, f4.2⟩)]
  · rw [decide_eq_false f4] at hh
    rw [hh, Bool.not_false, rdecj1_true, if_pos (form_no (fun h => f4 ⟨h.2.2.2.1, h.2.2.2.2⟩))]
end Go.Proofs.YtcoekgnbncocnaaDoor.PK


namespace Go.Proofs.YtcoekgnbncocnaaDoor.PK
open Go Go.RowKit Go.Proofs.YtcoekgnbncocnaaDoorW.PrintWords Go.Proofs.YtcoekgnbncocnaaDoorW.PrintLast Go.Proofs.YtcoekgnbncocnaaDoorW.PrintMore Go.Proofs.YtcoekgnbncocnaaDoor.DN Go.Proofs.YtcoekgnbncocnaaDoor.OPT Go.Proofs.YtcoekgnbncocnaaDoor.ADR Go.Proofs.YtcoekgnbncocnaaDoor.Pa
set_option linter.unusedVariables false
set_option linter.unusedSimpArgs false

def cutO (x : S61) : S61 := ⟨x.f0, x.f1.extract 0 (min x.f1.size 1100)⟩
def shl (l : List S61) : List S61 := (l.take 40).map cutO
theorem mn_nat (a b : Nat) : mn (a : Int) (b : Int) = ((min a b : Nat) : Int) := by unfold mn; split <;> omega
theorem eqA (b : Bool) (h l : Int) : (!(b == b) || (!(h == h) || (!(l == l)))) = false := by simp
theorem same_l (a0 a1 a2 : Int) (a3 : ByteArray) (a4 : Bool) (a5 a6 : Int) (a7 : Bool) (a8 a9 : Int) (a10 : Bool) (a11 a12 : Int) (a13 : Bool) (b0 b1 b2 : Int) (b3 : ByteArray) (b4 : Bool) (b5 b6 : Int) (b7 : Bool) (b8 b9 : Int) (b10 : Bool) (b11 b12 : Int) (b13 : Bool) (l : List S61) (hl : l.length ≤ 5864062014805) : ∀ (n k i : Nat), l.length - i ≤ n → n < k → i ≤ l.length →
    ddiref36_Same.l0 k (i : Int) a0 a1 a2 a3 a4 a5 a6 a7 a8 a9 a10 a11 a12 a13 l b0 b1 b2 b3 b4 b5 b6 b7 b8 b9 b10 b11 b12 b13 l = some true := by
  intro n
  induction n with
  | zero =>
    intro k i hn hk hi
    obtain ⟨k, rfl⟩ : ∃ q, k = q + 1 := ⟨k - 1, by omega⟩
    rw [ddiref36_Same.l0, if_neg (by omega)]
  | succ n ih =>
    intro k i hn hk hi
    obtain ⟨k, rfl⟩ : ∃ q, k = q + 1 := ⟨k - 1, by omega⟩
    rw [ddiref36_Same.l0]
    by_cases h1 : i < l.length
    · have := ih k (i + 1) (by omega) (by omega) (by omega)
      rw [← wsucc (by omega)] at this
      simp only [if_pos (show (i : Int) < (l.length : Int) by omega), if_pos (show (0 : Int) ≤ (i : Int) by omega)]
      simpa using this
    · rw [if_neg (by omega)]
theorem same_f (a0 a1 a2 : Int) (a3 : ByteArray) (a4 : Bool) (a5 a6 : Int) (a7 : Bool) (a8 a9 : Int) (a10 : Bool) (a11 a12 : Int) (a13 : Bool) (l : List S61) (hl : l.length ≤ 5864062014805) (k : Nat) (hk : l.length < k) :
    ddiref36_Same.f k a0 a1 a2 a3 a4 a5 a6 a7 a8 a9 a10 a11 a12 a13 l a0 a1 a2 a3 a4 a5 a6 a7 a8 a9 a10 a11 a12 a13 l = some true := by
  unfold ddiref36_Same.f
  rw [if_pos rfl, if_pos rfl, if_pos rfl, if_pos rfl, eqA, eqA, eqA, if_neg Bool.false_ne_true, if_neg Bool.false_ne_true, if_neg Bool.false_ne_true, show (a13 != a13) = false by simp, if_neg Bool.false_ne_true, if_pos rfl]
  exact same_l a0 a1 a2 a3 a4 a5 a6 a7 a8 a9 a10 a11 a12 a13 a0 a1 a2 a3 a4 a5 a6 a7 a8 a9 a10 a11 a12 a13 l hl l.length k 0 (by omega) hk (by omega)
end Go.Proofs.YtcoekgnbncocnaaDoor.PK


namespace Go.Proofs.YtcoekgnbncocnaaDoor.PK
open Go Go.RowKit Go.Proofs.YtcoekgnbncocnaaDoorW.PrintWords Go.Proofs.YtcoekgnbncocnaaDoorW.PrintLast Go.Proofs.YtcoekgnbncocnaaDoorW.PrintMore Go.Proofs.YtcoekgnbncocnaaDoor.DN Go.Proofs.YtcoekgnbncocnaaDoor.OPT Go.Proofs.YtcoekgnbncocnaaDoor.ADR Go.Proofs.YtcoekgnbncocnaaDoor.Pa
set_option linter.unusedVariables false
set_option linter.unusedSimpArgs false
theorem awake36_f (k : Nat) (hk : 100 ≤ k) : ddilaw36_awake.f k = some true := by
  refine up (fun k => ddilaw36_awake.mono k) hk ?_
  kernel_rfl
end Go.Proofs.YtcoekgnbncocnaaDoor.PK


namespace Go.Proofs.YtcoekgnbncocnaaDoor.Pure
open Go Go.RowKit Go.Proofs.YtcoekgnbncocnaaDoorW.PrintWords Go.Proofs.YtcoekgnbncocnaaDoorW.PrintLast Go.Proofs.YtcoekgnbncocnaaDoorW.PrintMore Go.Proofs.YtcoekgnbncocnaaDoor.DN Go.Proofs.YtcoekgnbncocnaaDoor.OPT Go.Proofs.YtcoekgnbncocnaaDoor.ADR Go.Proofs.YtcoekgnbncocnaaDoor.PK Go.Proofs.YtcoekgnbncocnaaDoor.Pa
set_option linter.unusedVariables false
set_option linter.unusedSimpArgs false
theorem mn_3000 (a : Nat) : mn (a : Int) 3000 = ((min a 3000 : Nat) : Int) := mn_nat a 3000
theorem un_length (l : List (Int × List UInt8)) : (un l).length = l.length := by unfold un; simp
theorem decP_len (s : ByteArray) : (decP s).2.2.2.2.2.2.2.2.2.2.2.2.2.2.1.length ≤ 32 := by
  unfold decP
  split
  · exact Nat.zero_le _
  · split
    · exact Nat.zero_le _
    · split
      · exact Nat.zero_le _
      · split
        · rename_i hv
          show (un _).length ≤ 32
          rw [un_length]
          exact hv.1.1
        · exact Nat.zero_le _
theorem DhcpDecodes : ∀ (a0 : ByteArray), a0.size ≤ 140737488351232 → ∃ k, ddilaw36_DhcpDecodes.f k a0 = some true := by
  intro a0 w0
  refine ⟨500000, ?_⟩
  unfold ddilaw36_DhcpDecodes.f
  rw [mn_3000, if_pos (by omega), if_pos (by omega), Int.toNat_natCast]
  have hs : (a0.extract 0 (min a0.size 3000)).size ≤ 100000 := by rw [ByteArray.size_extract]; omega
  rw [dec36_f _ hs 500000 (by decide), Option.bind_some, rdec36_f _ hs 500000 (by decide), Option.bind_some]
  have hl := decP_len (a0.extract 0 (min a0.size 3000))
  generalize decP (a0.extract 0 (min a0.size 3000)) = t at hl
  rw [same_f _ _ _ _ _ _ _ _ _ _ _ _ _ _ _ (by omega) 500000 (by omega), Option.bind_some, if_pos rfl, if_pos rfl, awake36_f 500000 (by omega)]
  rfl
end Go.Proofs.YtcoekgnbncocnaaDoor.Pure

