/- Parts of the proof of this claim's statement (joined by a program of this session): Ref, Pk, TimeP, DecP, HdP, EncP, BackP, Short, Awake36, PureDhcpBack. -/
import Derived.Test.YtcoekgnbncocnaaDoorBa3
import Derived.Test.YtcoekgnbncocnaaDoorBa2
import Derived.Test.YtcoekgnbncocnaaDoorBa4
import Derived.Test.YtcoekgnbncocnaaDoorBa1
import Derived.Test.YtcoekgnbncocnaaDoorBa5
namespace Go.Proofs.YtcoekgnbncocnaaDoor.Pa
open Go Go.RowKit
/-- what a row tells of an option -/
def Wf61 (x : S61) : Prop := ((Lit.int .i64 x.f0).wf = true) ∧ (x.f1.size ≤ 140737488351232)
end Go.Proofs.YtcoekgnbncocnaaDoor.Pa
namespace Go.Proofs.YtcoekgnbncocnaaDoor.OPT
open Go Go.RowKit Go.Proofs.YtcoekgnbncocnaaDoorW.PrintWords Go.Proofs.YtcoekgnbncocnaaDoor.DN Go.Proofs.YtcoekgnbncocnaaDoor.Pa
set_option linter.unusedVariables false
set_option linter.unusedSimpArgs false

def un (m : List O) : List S61 := m.map fun o => ⟨o.1, B o.2⟩
theorem ab_un (m : List O) : ab (un m) = m := by
  induction m with
  | nil => rfl
  | cons o m ih =>
    have : ab (un (o :: m)) = o1 ⟨o.1, B o.2⟩ :: ab (un m) := rfl
    rw [this, ih]; rfl
theorem un_ab (l : List S61) : un (ab l) = l := ab_inj (ab_un _)
theorem w2 {a b : Nat} (h : a + b < 9223372036854775807) : wrap64 ((a : Int) + (b : Int)) = ((a + b : Nat) : Int) := by rw [wrap_id (by omega) (by omega)]; rfl
theorem wbyte (c : UInt8) : wrap64 ((c.toNat : Nat) : Int) = ((c.toNat : Nat) : Int) := by have := c.toNat_lt; exact wrap_id (by omega) (by omega)
theorem over_l (l : List S61) (hl : l.length ≤ 33) : ∀ (n k i : Nat), l.length - i ≤ n → n < k → i ≤ l.length → option_over.l0 k l (l.length : Int) (i : Int) = some (!decide (∀ o ∈ ab (l.drop i), o.2.length ≤ 1024)) := by
  intro n
  induction n with
  | zero =>
    intro k i hn hk hi
    obtain ⟨k, rfl⟩ : ∃ q, k = q + 1 := ⟨k - 1, by omega⟩
    obtain rfl : i = l.length := by omega
    rw [option_over.l0, if_neg (by omega), List.drop_length]; simp [ab_nil]
  | succ n ih =>
    intro k i hn hk hi
    obtain ⟨k, rfl⟩ : ∃ q, k = q + 1 := ⟨k - 1, by omega⟩
    by_cases hlt : i < l.length
    · have hz1 : (o1 l[i]).2.length = l[i].f1.size := L_len _
      rw [option_over.l0, if_pos (by omega), if_pos (by omega), if_pos (by omega), rd_at hlt, drop_at hlt, ab_cons]
      by_cases h : (l[i].f1.size : Int) > 1024
      · rw [if_pos h, decide_eq_false (by intro h2; have := h2 _ (List.mem_cons_self ..); omega)]; rfl
      · rw [if_neg h, wsucc (by omega), ih k (i + 1) (by omega) (by omega) (by omega)]
        congr 2
        rw [decide_eq_decide]
        simp only [List.mem_cons, forall_eq_or_imp]
        exact ⟨fun h3 => ⟨by omega, h3⟩, fun h3 => h3.2⟩
    · obtain rfl : i = l.length := by omega
      rw [option_over.l0, if_neg (by omega), List.drop_length]; simp [ab_nil]
theorem over_f (l : List S61) (h : ∀ x ∈ l, x.f1.size ≤ 140737488351232) (k : Nat) (hk : 100 < k) : option_over.f k l = some (!decide (no (ab l))) := by
  obtain ⟨k, rfl⟩ : ∃ q, k = q + 1 := ⟨k - 1, by omega⟩
  unfold option_over.f
  by_cases h1 : (l.length : Int) > 32
  · rw [if_pos h1, option_over.j0, if_pos rfl, decide_eq_false (by rintro ⟨h, _⟩; rw [ab_length] at h; omega)]; rfl
  · rw [if_neg h1, size_f l (by omega) h _ (by omega), Option.bind_some, option_over.j0]
    by_cases h2 : ((sz (ab l) : Nat) : Int) > 4096
    · rw [if_pos (decide_eq_true h2), decide_eq_false (by rintro ⟨_, h, _⟩; omega)]; rfl
    · rw [if_neg (by rw [decide_eq_false h2]; decide)]
      have := over_l l (by omega) l.length k 0 (by omega) (by omega) (by omega)
      rw [List.drop_zero] at this
      refine Eq.trans this ?_
      congr 2
      rw [decide_eq_decide]
      exact ⟨fun h => ⟨by rw [ab_length]; omega, by omega, h⟩, fun h => h.2.2⟩

def adS : List S61 → Int → ByteArray → List S61
  | [], c, p => [⟨c, p⟩]
  | x :: l, c, p => if x.f0 = c then ⟨x.f0, x.f1 ++ p⟩ :: l else x :: adS l c p
theorem ab_adS (l : List S61) (c : Int) (p : ByteArray) : ab (adS l c p) = ad (ab l) c (L p) := by
  induction l with
  | nil => rfl
  | cons x l ih =>
    rw [adS, ab_cons, ad]
    by_cases h : x.f0 = c
    · rw [if_pos h, if_pos (show (o1 x).1 = c from h), ab_cons]
      simp only [o1, L_append, h]
    · rw [if_neg h, if_neg (show ¬ (o1 x).1 = c from h), ab_cons, ih]
theorem add_l (l : List S61) (c : Int) (p : ByteArray) (hl : l.length ≤ 5864062014800) (hz : ∀ x ∈ l, x.f1.size ≤ 140737488351232) (hp : p.size ≤ 140737488351232) : ∀ (n k i : Nat), l.length - i ≤ n → n < k → i ≤ l.length →
    option_add.l0 k l c p (l.length : Int) (i : Int) = some (l.take i ++ adS (l.drop i) c p) := by
  intro n
  induction n with
  | zero =>
    intro k i hn hk hi
    obtain ⟨k, rfl⟩ : ∃ q, k = q + 1 := ⟨k - 1, by omega⟩
    obtain rfl : i = l.length := by omega
    rw [option_add.l0, if_neg (by omega), if_pos (by omega), List.drop_length, List.take_length]; rfl
  | succ n ih =>
    intro k i hn hk hi
    obtain ⟨k, rfl⟩ : ∃ q, k = q + 1 := ⟨k - 1, by omega⟩
    by_cases hlt : i < l.length
    · rw [option_add.l0, if_pos (by omega), if_pos (by omega), if_pos (by omega), rd_at hlt, drop_at hlt, adS]
      by_cases h : l[i].f0 = c
      · rw [if_pos h, if_pos (by have := hz _ (List.getElem_mem hlt); omega), if_pos h, Int.toNat_natCast, List.set_eq_take_append_cons_drop, if_pos hlt]
      · rw [if_neg h, if_neg h, wsucc (by omega), ih k (i + 1) (by omega) (by omega) (by omega), List.take_succ_eq_append_getElem hlt, List.append_assoc]; rfl
    · obtain rfl : i = l.length := by omega
      rw [option_add.l0, if_neg (by omega), if_pos (by omega), List.drop_length, List.take_length]; rfl
theorem add_f (l : List S61) (c : Int) (p : ByteArray) (hl : l.length ≤ 5864062014800) (hz : ∀ x ∈ l, x.f1.size ≤ 140737488351232) (hp : p.size ≤ 140737488351232) (k : Nat) (hk : l.length < k) : option_add.f k l c p = some (adS l c p) := by
  have := add_l l c p hl hz hp l.length k 0 (by omega) hk (by omega)
  simpa [option_add.f] using this
theorem no_sizes {l : List S61} (h : no (ab l)) : l.length ≤ 32 ∧ ∀ x ∈ l, x.f1.size ≤ 1024 := by
  obtain ⟨h1, _, h3⟩ := h
  rw [ab_length] at h1
  exact ⟨h1, fun x hx => by have := h3 (o1 x) (List.mem_map_of_mem hx); rw [show (o1 x).2.length = x.f1.size from L_len _] at this; exact this⟩
theorem ad_sizes (c : Int) (p : ByteArray) (hp : p.size ≤ 255) : ∀ {l : List S61}, (∀ x ∈ l, x.f1.size ≤ 1024) → ∀ x ∈ adS l c p, x.f1.size ≤ 2000
  | [], _, x, hx => by rw [adS, List.mem_singleton] at hx; subst hx; exact (by omega : p.size ≤ 2000)
  | y :: l, h, x, hx => by
    rw [adS] at hx
    split at hx
    · rcases List.mem_cons.1 hx with rfl | hx
      · have := h y (by simp)
        show (y.f1 ++ p).size ≤ 2000
        rw [ByteArray.size_append]; omega
      · have := h x (by simp [hx]); omega
    · rcases List.mem_cons.1 hx with rfl | hx
      · have := h x (by simp); omega
      · exact ad_sizes c p hp (fun z hz => h z (by simp [hz])) x hx

theorem trim_zero (l : List UInt8) : Lib.trimB l 0 = [] ↔ l.all (· == 0) = true := by
  have h1 : ∀ m : List UInt8, Lib.trimLeftB m 0 = [] ↔ m.all (· == 0) = true := by
    intro m
    show m.dropWhile (· == 0) = [] ↔ _
    induction m with
    | nil => simp
    | cons x m ih =>
      rw [List.dropWhile_cons, List.all_cons]
      by_cases hx : (x == 0) = true
      · rw [if_pos hx, ih, hx]; simp
      · simp [hx]
  show Lib.trimLeftB (Lib.trimRightB l 0) 0 = [] ↔ _
  rw [h1]
  show ((l.reverse.dropWhile (· == 0)).reverse).all (· == 0) = true ↔ _
  rw [List.all_reverse]
  have h2 : ∀ m : List UInt8, (m.dropWhile (· == 0)).all (· == 0) = m.all (· == 0) := by
    intro m
    induction m with
    | nil => rfl
    | cons x m ih =>
      rw [List.dropWhile_cons]
      by_cases hx : (x == 0) = true
      · rw [if_pos hx, ih, List.all_cons, hx, Bool.true_and]
      · rw [if_neg hx]
  rw [h2, List.all_reverse]
theorem trim_f (s : ByteArray) (hs : s.size ≤ 9223372036854775807) : strings_Trim.f s ⟨#[0]⟩ = some (B (Lib.trimB (L s) 0)) := by
  unfold strings_Trim.f
  rw [if_pos ⟨hs, rfl⟩]; rfl
theorem dec_l (s : ByteArray) (hs : s.size ≤ 140737488351232) : ∀ (n k i : Nat) (l : List S61), s.size - i ≤ n → n + 200 < k → i ≤ s.size → vld (ab l) →
    option_Decode.l0 k s l (i : Int) = some (un (dec (ab l) ((L s).drop i)).1, (dec (ab l) ((L s).drop i)).2) := by
  intro n
  induction n with
  | zero =>
    intro k i l hn hk hi hv
    obtain ⟨k, rfl⟩ : ∃ q, k = q + 1 := ⟨k - 1, by omega⟩
    obtain rfl : i = s.size := by omega
    rw [option_Decode.l0, if_neg (by omega), List.drop_eq_nil_of_le (by rw [L_len]; omega), dec_nil]; rfl
  | succ n ih =>
    intro k i l hn hk hi hv
    obtain ⟨k, rfl⟩ : ∃ q, k = q + 1 := ⟨k - 1, by omega⟩
    by_cases hlt : i < s.size
    · have hL : i < (L s).length := by rw [L_len]; exact hlt
      rw [option_Decode.l0, if_pos (by omega), if_pos (by omega), bt_L s i hL, drop_at hL]
      obtain ⟨c, hc⟩ : ∃ c, c = (L s)[i] := ⟨_, rfl⟩
      rw [← hc, wbyte, wsucc (by omega)]
      by_cases h0 : c = 0
      · subst h0
        rw [if_pos (show ((UInt8.toNat 0 : Nat) : Int) = 0 from rfl), dec_zero]
        exact ih k (i + 1) l (by omega) (by omega) (by omega) hv
      have h0n : ¬ ((c.toNat : Nat) : Int) = 0 := fun e => h0 (UInt8.toNat_inj.1 (by simpa using e))
      rw [if_neg h0n]
      by_cases h1 : c = 255
      · subst h1
        rw [if_pos (show ((UInt8.toNat 255 : Nat) : Int) = 255 from rfl), if_pos (by omega), if_pos (by omega), dec_end, Int.toNat_natCast, trim_f _ (by rw [ByteArray.size_extract]; omega), Option.bind_some, toList_L, L_B]
        have he : L (s.extract (i + 1) s.size) = (L s).drop (i + 1) := by rw [L_extract, List.take_of_length_le (by rw [List.length_drop, L_len]; omega)]
        rw [he]
        by_cases hz : ((L s).drop (i + 1)).all (· == 0) = true
        · rw [if_pos ((trim_zero _).2 hz), if_pos hz, un_ab]
        · rw [if_neg (fun e => hz ((trim_zero _).1 e)), if_neg hz]; rfl
      have h1n : ¬ ((c.toNat : Nat) : Int) = 255 := fun e => h1 (UInt8.toNat_inj.1 (by have : c.toNat = 255 := by omega
                                                                                       rw [this]; rfl))
      rw [if_neg h1n]
      by_cases h2 : i + 1 < s.size
      · have hL2 : i + 1 < (L s).length := by rw [L_len]; exact h2
        rw [if_neg (by omega), if_pos (by omega), if_pos (by omega), bt_L s (i + 1) hL2, drop_at hL2]
        obtain ⟨d, hd⟩ : ∃ d, d = (L s)[i + 1] := ⟨_, rfl⟩
        have hdlt := d.toNat_lt
        rw [← hd, wbyte, show wrap64 ((i : Int) + 2) = ((i + 2 : Nat) : Int) from w2 (b := 2) (by omega), w2 (by omega), dec_part _ _ h0 h1]
        have hql : ((L s).drop (i + 1 + 1)).length = s.size - (i + 2) := by rw [List.length_drop, L_len]
        by_cases h3 : s.size < i + 2 + d.toNat
        · rw [if_pos (by omega), if_pos (by omega)]; rfl
        · rw [if_neg (by omega), if_pos (by omega), if_pos (by omega), if_pos (by omega), if_neg (by omega), Int.toNat_natCast, Int.toNat_natCast]
          have hsz := no_sizes hv.1
          have hpz : (s.extract (i + 2) (i + 2 + d.toNat)).size = d.toNat := by rw [ByteArray.size_extract]; omega
          have hpe : L (s.extract (i + 2) (i + 2 + d.toNat)) = ((L s).drop (i + 1 + 1)).take d.toNat := by rw [L_extract]; congr 1; omega
          rw [add_f l _ _ (by omega) (fun x hx => by have := hsz.2 x hx; omega) (by omega) k (by omega), Option.bind_some]
          have haz := ad_sizes (c.toNat : Int) (s.extract (i + 2) (i + 2 + d.toNat)) (by omega) hsz.2
          rw [over_f _ (fun x hx => by have := haz x hx; omega) k (by omega), Option.bind_some, ab_adS, hpe]
          by_cases h4 : no (ad (ab l) (c.toNat : Int) (((L s).drop (i + 1 + 1)).take d.toNat))
          · rw [decide_eq_true h4, if_neg (by decide), if_pos h4]
            have h5 := (vld_ad (((L s).drop (i + 1 + 1)).take d.toNat) hv.2 h0 h1).2 h4
            rw [ih k (i + 2 + d.toNat) _ (by omega) (by omega) (by omega) (by rw [ab_adS, hpe]; exact h5), ab_adS, hpe, List.drop_drop]
          · rw [decide_eq_false h4, if_pos (by decide), if_neg h4]; rfl
      · rw [if_pos (by omega), List.drop_eq_nil_of_le (by rw [L_len]; omega), dec_short _ h0 h1]; rfl
    · obtain rfl : i = s.size := by omega
      rw [option_Decode.l0, if_neg (by omega), List.drop_eq_nil_of_le (by rw [L_len]; omega), dec_nil]; rfl
theorem vld_nil : vld [] := ⟨⟨by simp, by simp [sz], by simp⟩, by simp, by simp⟩
theorem dec_f (s : ByteArray) (hs : s.size ≤ 140737488351232) (k : Nat) (hk : s.size + 200 < k) : option_Decode.f k s = some (un (dec [] (L s)).1, (dec [] (L s)).2) := by
  have := dec_l s hs s.size k 0 [] (by omega) hk (by omega) vld_nil
  simpa [option_Decode.f, ab_nil] using this
end Go.Proofs.YtcoekgnbncocnaaDoor.OPT


namespace Go.Proofs.YtcoekgnbncocnaaDoor.PK
open Go Go.RowKit Go.Proofs.YtcoekgnbncocnaaDoorW.PrintWords Go.Proofs.YtcoekgnbncocnaaDoorW.PrintLast Go.Proofs.YtcoekgnbncocnaaDoorW.PrintMore Go.Proofs.YtcoekgnbncocnaaDoor.DN Go.Proofs.YtcoekgnbncocnaaDoor.OPT Go.Proofs.YtcoekgnbncocnaaDoor.ADR Go.Proofs.YtcoekgnbncocnaaDoor.Pa
set_option linter.unusedVariables false
set_option linter.unusedSimpArgs false

def vis (b : UInt8) : Bool := decide (33 ≤ b.toNat ∧ b.toNat ≤ 126)
def cli (s : ByteArray) : Bool := decide (1 ≤ s.size ∧ s.size ≤ 32) && (L s).all vis
theorem client_l (s : ByteArray) (hs : s.size ≤ 32) : ∀ (n k i : Nat), s.size - i ≤ n → n < k → i ≤ s.size → dhcp_client.l0 k s (s.size : Int) (i : Int) = some (((L s).drop i).all vis) := by
  intro n
  induction n with
  | zero =>
    intro k i hn hk hi
    obtain ⟨k, rfl⟩ : ∃ q, k = q + 1 := ⟨k - 1, by omega⟩
    rw [dhcp_client.l0, if_neg (by omega), List.drop_eq_nil_of_le (by rw [L_len]; omega)]; rfl
  | succ n ih =>
    intro k i hn hk hi
    obtain ⟨k, rfl⟩ : ∃ q, k = q + 1 := ⟨k - 1, by omega⟩
    by_cases hlt : i < s.size
    · have hL : i < (L s).length := by rw [L_len]; exact hlt
      rw [dhcp_client.l0, if_pos (by omega), if_pos (by omega), if_pos (by omega), bt_L s i hL, drop_at hL, List.all_cons]
      by_cases h1 : (L s)[i].toNat < 33
      · rw [if_pos (by omega), show vis (L s)[i] = false from decide_eq_false (by omega)]; rfl
      · rw [if_neg (by omega)]
        by_cases h2 : 126 < (L s)[i].toNat
        · rw [if_pos (by omega), show vis (L s)[i] = false from decide_eq_false (by omega)]; rfl
        · rw [if_neg (by omega), show vis (L s)[i] = true from decide_eq_true (by omega), Bool.true_and, wsucc (by omega)]
          exact ih k (i + 1) (by omega) (by omega) (by omega)
    · rw [dhcp_client.l0, if_neg (by omega), List.drop_eq_nil_of_le (by rw [L_len]; omega)]; rfl
theorem rclient_l (s : ByteArray) (hs : s.size ≤ 32) : ∀ (n k i : Nat), s.size - i ≤ n → n < k → i ≤ s.size → ddiref36_isClient.l0 k s (i : Int) = some (((L s).drop i).all vis) := by
  intro n
  induction n with
  | zero =>
    intro k i hn hk hi
    obtain ⟨k, rfl⟩ : ∃ q, k = q + 1 := ⟨k - 1, by omega⟩
    rw [ddiref36_isClient.l0, if_neg (by omega), List.drop_eq_nil_of_le (by rw [L_len]; omega)]; rfl
  | succ n ih =>
    intro k i hn hk hi
    obtain ⟨k, rfl⟩ : ∃ q, k = q + 1 := ⟨k - 1, by omega⟩
    by_cases hlt : i < s.size
    · have hL : i < (L s).length := by rw [L_len]; exact hlt
      rw [ddiref36_isClient.l0, if_pos (by omega), if_pos (by omega), bt_L s i hL, drop_at hL, List.all_cons]
      by_cases h1 : (L s)[i].toNat < 33
      · rw [if_pos (by omega), show vis (L s)[i] = false from decide_eq_false (by omega)]; rfl
      · rw [if_neg (by omega)]
        by_cases h2 : 126 < (L s)[i].toNat
        · rw [if_pos (by omega), show vis (L s)[i] = false from decide_eq_false (by omega)]; rfl
        · rw [if_neg (by omega), show vis (L s)[i] = true from decide_eq_true (by omega), Bool.true_and, wsucc (by omega)]
          exact ih k (i + 1) (by omega) (by omega) (by omega)
    · rw [ddiref36_isClient.l0, if_neg (by omega), List.drop_eq_nil_of_le (by rw [L_len]; omega)]; rfl
theorem client_f (s : ByteArray) (k : Nat) (hk : 100 < k) : dhcp_client.f k s = some (cli s) ∧ ddiref36_isClient.f k s = some (cli s) := by
  obtain ⟨k, rfl⟩ : ∃ q, k = q + 1 := ⟨k - 1, by omega⟩
  unfold dhcp_client.f ddiref36_isClient.f cli
  have he : s.toList = ([] : List UInt8) ↔ s.size = 0 := by rw [toList_L, ← L_len]; exact List.length_eq_zero_iff.symm
  by_cases h0 : s.size = 0
  · rw [if_pos (he.2 h0), if_pos (by omega), dhcp_client.j0, if_pos rfl, ddiref36_isClient.j0, if_pos rfl, decide_eq_false (by omega)]; exact ⟨rfl, rfl⟩
  · rw [if_neg (fun e => h0 (he.1 e)), if_neg (by omega), dhcp_client.j0, ddiref36_isClient.j0]
    by_cases h : s.size ≤ 32
    · rw [decide_eq_false (show ¬ ((s.size : Int) > 32) by omega), if_neg (by decide), if_neg (by decide), decide_eq_true (by omega), Bool.true_and]
      exact ⟨client_l s h s.size k 0 (by omega) (by omega) (by omega), rclient_l s h s.size k 0 (by omega) (by omega) (by omega)⟩
    · rw [decide_eq_true (show (s.size : Int) > 32 by omega), if_pos rfl, if_pos rfl, decide_eq_false (by omega)]; exact ⟨rfl, rfl⟩

theorem ipv4_f (x : S24) (h0 : 0 ≤ x.f2) : dhcp_ipv4.f x.f0 x.f1 x.f2 = some (decide (okA x)) := by
  unfold dhcp_ipv4.f addr_Valid.f
  obtain ⟨b, hi, lo⟩ := x
  simp only at h0 ⊢
  cases b
  · by_cases h1 : hi = 0
    · subst h1
      by_cases h2 : lo ≤ 4294967295
      · have h3 : lo < 4294967296 := by omega
        simp [okA, h2, h3]
      · have h3 : ¬ lo < 4294967296 := by omega
        simp [okA, h2, h3]
    · simp [okA, h1]
  · simp [okA]
def opr (n : Int) : Int := if n = 1 ∨ n = 3 ∨ n = 4 ∨ n = 7 ∨ n = 8 then 1 else if n = 2 ∨ n = 5 ∨ n = 6 then 2 else 0
theorem operation_f (n : Int) (k : Nat) (hk : 1 ≤ k) : dhcp_operation.f k n = some (opr n) := by
  obtain ⟨k, rfl⟩ : ∃ q, k = q + 1 := ⟨k - 1, by omega⟩
  unfold dhcp_operation.f opr
  simp only [dhcp_operation.j0]
  by_cases h1 : n = 1
  · simp [h1]
  by_cases h3 : n = 3
  · simp [h3]
  by_cases h4 : n = 4
  · simp [h4]
  by_cases h7 : n = 7
  · simp [h7]
  by_cases h8 : n = 8
  · simp [h8]
  by_cases h2 : n = 2
  · simp [h2]
  by_cases h5 : n = 5
  · simp [h5]
  by_cases h6 : n = 6
  · simp [h6]
  simp [h1, h2, h3, h4, h5, h6, h7, h8]
theorem opr_zero (n : Int) : opr n = 0 ↔ ¬ (1 ≤ n ∧ n ≤ 8) := by
  unfold opr
  split
  · constructor
    · intro h; cases h
    · intro h; omega
  · split
    · constructor
      · intro h; cases h
      · intro h; omega
    · constructor
      · intro _; omega
      · intro _; rfl

def zeroA (x : S24) : Prop := x.f0 = false ∧ x.f1 = 0 ∧ x.f2 = 0
instance (x : S24) : Decidable (zeroA x) := inferInstanceAs (Decidable (_ ∧ _ ∧ _))
/-- a message but for its options -/
def vhd (a0 a1 a2 : Int) (a3 : ByteArray) (x y z : S24) (a13 : Bool) : Bool :=
  decide ((1 ≤ a0 ∧ a0 ≤ 8) ∧ (0 ≤ a1 ∧ a1 < 4294967296) ∧ (0 ≤ a2 ∧ a2 < 65536) ∧ cli a3 = true ∧ okA x ∧ okA y ∧ okA z ∧ (a13 = true ∨ zeroA z))
def vpk (a0 a1 a2 : Int) (a3 : ByteArray) (x y z : S24) (a13 : Bool) (l : List S61) : Bool := vhd a0 a1 a2 a3 x y z a13 && decide (vld (ab l))
theorem ne_zeroA (x : S24) : (x.f0 || (!(x.f1 == 0) || (!(x.f2 == 0)))) = !decide (zeroA x) := by
  obtain ⟨b, h, l⟩ := x
  cases b
  · by_cases h1 : h = 0
    · by_cases h2 : l = 0
      · subst h1; subst h2; rfl
      · subst h1; simp [zeroA, h2]
    · simp [zeroA, h1]
  · simp [zeroA]
theorem vhd_false {a0 a1 a2 : Int} {a3 : ByteArray} {x y z : S24} {a13 : Bool} {l : List S61} (h : ¬ ((1 ≤ a0 ∧ a0 ≤ 8) ∧ (0 ≤ a1 ∧ a1 < 4294967296) ∧ (0 ≤ a2 ∧ a2 < 65536) ∧ cli a3 = true ∧ okA x ∧ okA y ∧ okA z ∧ (a13 = true ∨ zeroA z))) : vpk a0 a1 a2 a3 x y z a13 l = false := by
  unfold vpk vhd; rw [decide_eq_false h]; rfl
theorem vhd_true {a0 a1 a2 : Int} {a3 : ByteArray} {x y z : S24} {a13 : Bool} {l : List S61} (h : (1 ≤ a0 ∧ a0 ≤ 8) ∧ (0 ≤ a1 ∧ a1 < 4294967296) ∧ (0 ≤ a2 ∧ a2 < 65536) ∧ cli a3 = true ∧ okA x ∧ okA y ∧ okA z ∧ (a13 = true ∨ zeroA z)) : vpk a0 a1 a2 a3 x y z a13 l = decide (vld (ab l)) := by
  unfold vpk vhd; rw [decide_eq_true h, Bool.true_and]
theorem dtail (a0 a1 a2 : Int) (a3 : ByteArray) (x y z : S24) (a13 : Bool) (l : List S61) (hx : 0 ≤ x.f2) (hy : 0 ≤ y.f2) (hz : 0 ≤ z.f2) (hl : ∀ o ∈ l, o.f1.size ≤ 140737488351232) (k : Nat) (hk : 100 < k)
    (h0 : 1 ≤ a0 ∧ a0 ≤ 8) (h1 : 0 ≤ a1 ∧ a1 < 4294967296) (h2 : 0 ≤ a2 ∧ a2 < 65536) (hc : cli a3 = true) :
    dhcp_Valid.j0 (k + 1) false a0 a1 a2 a3 x.f0 x.f1 x.f2 y.f0 y.f1 y.f2 z.f0 z.f1 z.f2 a13 l = some (vpk a0 a1 a2 a3 x y z a13 l) := by
  rw [dhcp_Valid.j0, if_neg Bool.false_ne_true, ipv4_f x hx, Option.bind_some]
  by_cases hx' : okA x
  case neg => rw [decide_eq_false hx', if_neg Bool.false_ne_true, vhd_false (fun h => hx' h.2.2.2.2.1)]
  rw [decide_eq_true hx', if_pos rfl, ipv4_f y hy, Option.bind_some]
  by_cases hy' : okA y
  case neg => rw [decide_eq_false hy', if_neg Bool.false_ne_true, vhd_false (fun h => hy' h.2.2.2.2.2.1)]
  rw [decide_eq_true hy', if_pos rfl, ipv4_f z hz, Option.bind_some]
  by_cases hz' : okA z
  case neg => rw [decide_eq_false hz', if_neg Bool.false_ne_true, vhd_false (fun h => hz' h.2.2.2.2.2.2.1)]
  rw [decide_eq_true hz', if_pos rfl, ne_zeroA z, valid_f l hl k hk]
  by_cases h13 : a13 = true
  · rw [if_pos h13]
    rw [vhd_true ⟨h0, h1, h2, hc, hx', hy', hz', .inl h13⟩]
    rfl
  · rw [if_neg h13]
    by_cases hz0 : zeroA z
    · rw [decide_eq_true hz0, Bool.not_true, if_neg Bool.false_ne_true]
      rw [vhd_true ⟨h0, h1, h2, hc, hx', hy', hz', .inr hz0⟩]
      rfl
    · rw [decide_eq_false hz0, Bool.not_false, if_pos rfl, vhd_false (fun h => h.2.2.2.2.2.2.2.elim h13 hz0)]
theorem dj_true (k : Nat) (a0 a1 a2 : Int) (a3 : ByteArray) (b4 : Bool) (a5 a6 : Int) (b7 : Bool) (a8 a9 : Int) (b10 : Bool) (a11 a12 : Int) (a13 : Bool) (l : List S61) :
    dhcp_Valid.j0 (k + 1) true a0 a1 a2 a3 b4 a5 a6 b7 a8 a9 b10 a11 a12 a13 l = some false := by rw [dhcp_Valid.j0, if_pos rfl]
theorem dvalid_f (a0 a1 a2 : Int) (a3 : ByteArray) (x y z : S24) (a13 : Bool) (l : List S61) (hx : 0 ≤ x.f2) (hy : 0 ≤ y.f2) (hz : 0 ≤ z.f2) (hl : ∀ o ∈ l, o.f1.size ≤ 140737488351232) (k : Nat) (hk : 200 < k) :
    dhcp_Valid.f k a0 a1 a2 a3 x.f0 x.f1 x.f2 y.f0 y.f1 y.f2 z.f0 z.f1 z.f2 a13 l = some (vpk a0 a1 a2 a3 x y z a13 l) := by
  obtain ⟨k, rfl⟩ : ∃ q, k = q + 1 := ⟨k - 1, by omega⟩
  unfold dhcp_Valid.f
  rw [operation_f a0 (k + 1) (by omega), Option.bind_some, (client_f a3 (k + 1) (by omega)).1, Option.bind_some]
  by_cases h0 : 1 ≤ a0 ∧ a0 ≤ 8
  case neg => rw [if_pos ((opr_zero a0).2 h0), dj_true k, vhd_false (fun h => h0 h.1)]
  rw [if_neg (fun e => (opr_zero a0).1 e h0)]
  by_cases h1 : a1 < 0
  · rw [if_pos h1, dj_true k, vhd_false (fun h => by have := h.2.1; omega)]
  rw [if_neg h1]
  by_cases h2 : a1 ≥ 4294967296
  · rw [if_pos h2, dj_true k, vhd_false (fun h => by have := h.2.1; omega)]
  rw [if_neg h2]
  by_cases h3 : a2 < 0
  · rw [if_pos h3, dj_true k, vhd_false (fun h => by have := h.2.2.1; omega)]
  rw [if_neg h3]
  by_cases h4 : a2 ≥ 65536
  · rw [if_pos (by omega), dj_true k, vhd_false (fun h => by have := h.2.2.1; omega)]
  rw [if_neg (by omega)]
  by_cases hc : cli a3 = true
  · rw [hc]; exact dtail a0 a1 a2 a3 x y z a13 l hx hy hz hl k (by omega) h0 (by omega) (by omega) hc
  · rw [Bool.not_eq_true] at hc
    rw [hc, Bool.not_false, dj_true k, vhd_false (fun h => by rw [hc] at h; cases h.2.2.2.1)]
theorem vpk_parts {a0 a1 a2 : Int} {a3 : ByteArray} {x y z : S24} {a13 : Bool} {l : List S61} (h : vpk a0 a1 a2 a3 x y z a13 l = true) :
    ((1 ≤ a0 ∧ a0 ≤ 8) ∧ (0 ≤ a1 ∧ a1 < 4294967296) ∧ (0 ≤ a2 ∧ a2 < 65536) ∧ cli a3 = true ∧ okA x ∧ okA y ∧ okA z ∧ (a13 = true ∨ zeroA z)) ∧ vld (ab l) := by
  unfold vpk vhd at h
  rw [Bool.and_eq_true] at h
  exact ⟨of_decide_eq_true h.1, of_decide_eq_true h.2⟩
theorem cli_size {s : ByteArray} (h : cli s = true) : 1 ≤ s.size ∧ s.size ≤ 32 := by
  unfold cli at h; rw [Bool.and_eq_true] at h; exact of_decide_eq_true h.1
end Go.Proofs.YtcoekgnbncocnaaDoor.PK


namespace Go.Proofs.YtcoekgnbncocnaaDoor.PK
open Go Go.RowKit Go.Proofs.YtcoekgnbncocnaaDoorW.PrintWords Go.Proofs.YtcoekgnbncocnaaDoorW.PrintLast Go.Proofs.YtcoekgnbncocnaaDoorW.PrintMore Go.Proofs.YtcoekgnbncocnaaDoor.DN Go.Proofs.YtcoekgnbncocnaaDoor.OPT Go.Proofs.YtcoekgnbncocnaaDoor.ADR Go.Proofs.YtcoekgnbncocnaaDoor.Pa
set_option linter.unusedVariables false
set_option linter.unusedSimpArgs false

theorem foldN_lt : ∀ (l : List UInt8) (n : Nat), foldN l n < (n + 1) * 256 ^ l.length
  | [], n => by simp [foldN]
  | c :: l, n => by
    have h := foldN_lt l (n * 256 + c.toNat)
    have hc := c.toNat_lt
    show foldN l (n * 256 + c.toNat) < _
    rw [List.length_cons, Nat.pow_succ]
    refine Nat.lt_of_lt_of_le h ?_
    rw [Nat.mul_comm (256 ^ l.length) 256, ← Nat.mul_assoc]
    exact Nat.mul_le_mul_right _ (by omega)
end Go.Proofs.YtcoekgnbncocnaaDoor.PK


namespace Go.Proofs.YtcoekgnbncocnaaDoor.PK
open Go Go.RowKit Go.Proofs.YtcoekgnbncocnaaDoorW.PrintWords Go.Proofs.YtcoekgnbncocnaaDoorW.PrintLast Go.Proofs.YtcoekgnbncocnaaDoorW.PrintMore Go.Proofs.YtcoekgnbncocnaaDoor.DN Go.Proofs.YtcoekgnbncocnaaDoor.OPT Go.Proofs.YtcoekgnbncocnaaDoor.ADR Go.Proofs.YtcoekgnbncocnaaDoor.Pa
set_option linter.unusedVariables false
set_option linter.unusedSimpArgs false

theorem bt_range (s : ByteArray) (i : Nat) (h : i < s.size) : 0 ≤ bt s (i : Int) ∧ bt s (i : Int) ≤ 255 := by
  have hL : i < (L s).length := by rw [L_len]; exact h
  have := (L s)[i].toNat_lt
  rw [bt_L s i hL]; omega
theorem fold_bound : ∀ (l : List UInt8) (acc : Nat), foldN l acc < (acc + 1) * 256 ^ l.length := foldN_lt
theorem num36_l (s : ByteArray) (hs : s.size ≤ 4) : ∀ (n k i acc : Nat), s.size - i ≤ n → n < k → i ≤ s.size → (acc + 1) * 256 ^ (s.size - i) ≤ 4294967296 →
    dhcp_number.l0 k s (acc : Int) (s.size : Int) (i : Int) = some ((foldN ((L s).drop i) acc : Nat) : Int) := by
  intro n
  induction n with
  | zero =>
    intro k i acc hn hk hi hb
    obtain ⟨k, rfl⟩ : ∃ q, k = q + 1 := ⟨k - 1, by omega⟩
    rw [dhcp_number.l0, if_neg (by omega), List.drop_eq_nil_of_le (by rw [L_len]; omega)]; rfl
  | succ n ih =>
    intro k i acc hn hk hi hb
    obtain ⟨k, rfl⟩ : ∃ q, k = q + 1 := ⟨k - 1, by omega⟩
    by_cases hlt : i < s.size
    · have hL : i < (L s).length := by rw [L_len]; exact hlt
      obtain ⟨c, hc⟩ : ∃ c, c = (L s)[i] := ⟨_, rfl⟩
      have hclt := c.toNat_lt
      obtain ⟨d, hd⟩ : ∃ d, s.size - i = d + 1 := ⟨s.size - i - 1, by omega⟩
      have hp : 256 ^ (s.size - i) = 256 * 256 ^ (s.size - (i + 1)) := by rw [hd, show s.size - (i + 1) = d by omega, Nat.pow_succ, Nat.mul_comm]
      have hpos : 0 < 256 ^ (s.size - (i + 1)) := Nat.pow_pos (by decide)
      have hacc : (acc + 1) * 256 ≤ 4294967296 := by
        rw [hp, ← Nat.mul_assoc] at hb
        exact Nat.le_trans (Nat.le_mul_of_pos_right _ hpos) hb
      have hb2 : (acc * 256 + c.toNat + 1) * 256 ^ (s.size - (i + 1)) ≤ 4294967296 := by
        rw [hp, ← Nat.mul_assoc] at hb
        exact Nat.le_trans (Nat.mul_le_mul_right _ (by omega)) hb
      have := ih k (i + 1) (acc * 256 + c.toNat) (by omega) (by omega) (by omega) hb2
      rw [dhcp_number.l0, if_pos (by omega), if_pos (by omega), if_pos (by omega), bt_L s i hL, dropN hL, ← hc, wbt, wm (by omega), or_i64 acc c.toNat hclt (by omega), wsc (by omega), show foldN (c :: (L s).drop (i + 1)) acc = foldN ((L s).drop (i + 1)) (acc * 256 + c.toNat) from rfl]
      exact this
    · rw [dhcp_number.l0, if_neg (by omega), List.drop_eq_nil_of_le (by rw [L_len]; omega)]; rfl
theorem pow_le {n : Nat} (h : n ≤ 4) : (0 + 1) * 256 ^ (n - 0) ≤ 4294967296 := by
  have : n = 0 ∨ n = 1 ∨ n = 2 ∨ n = 3 ∨ n = 4 := by omega
  rcases this with h | h | h | h | h <;> rw [h] <;> decide
theorem num36 (s : ByteArray) (hs : s.size ≤ 4) (k : Nat) (hk : 10 < k) : dhcp_number.f k s = some ((foldN (L s) 0 : Nat) : Int) := by
  have := num36_l s hs s.size k 0 0 (by omega) (by omega) (by omega) (pow_le hs)
  simpa [dhcp_number.f] using this
theorem read36 (s : ByteArray) (h : s.size = 4) (k : Nat) (hk : 20 ≤ k) : addr_Read.f k s = some (false, 0, ((foldN (L s) 0 : Nat) : Int), 0) := by
  obtain ⟨a, b, c, d, rfl⟩ := four_of h
  rw [read4 a b c d k hk]
  refine congrArg some (Prod.ext rfl (Prod.ext rfl (Prod.ext ?_ rfl)))
  show ((val4 a b c d : Nat) : Int) = ((foldN [a, b, c, d] 0 : Nat) : Int)
  unfold val4 foldN
  simp
abbrev DT := Int × Int × Int × ByteArray × Bool × Int × Int × Bool × Int × Int × Bool × Int × Int × Bool × List S61 × Int
def errP (e : Int) : DT := (0, 0, 0, ⟨#[]⟩, false, 0, 0, false, 0, 0, false, 0, 0, false, [], e)
def nP (s : ByteArray) (a b : Nat) : Int := ((foldN (L (s.extract a b)) 0 : Nat) : Int)
def endP (s : ByteArray) : Nat := (22 + bt s 21).toNat
/-- is what stands in front of the options in form? -/
def formP (s : ByteArray) : Bool := decide (opr (bt s 1) ≠ 0 ∧ bt s 0 = opr (bt s 1) ∧ bt s 20 ≤ 1 ∧ (bt s 20 = 1 ∨ zeroA ⟨false, 0, nP s 16 20⟩) ∧ cli (s.extract 22 (endP s)) = true)
def decP (s : ByteArray) : DT :=
  if s.size < 22 ∨ (s.size : Int) < 22 + bt s 21 then errP 6 else if formP s = false then errP 7 else
    if (dec [] (L (s.extract (endP s) s.size))).2 ≠ 0 then errP (dec [] (L (s.extract (endP s) s.size))).2 else
      if vld (dec [] (L (s.extract (endP s) s.size))).1 then (bt s 1, nP s 2 6, nP s 6 8, s.extract 22 (endP s), false, 0, nP s 8 12, false, 0, nP s 12 16, false, 0, nP s 16 20, bt s 20 == 1, un (dec [] (L (s.extract (endP s) s.size))).1, 0) else errP 7
theorem cli_len {s : ByteArray} {b : Int} (h : 22 ≤ s.size) (h0 : 0 ≤ b) (hb : 22 + b ≤ s.size) : ((s.extract 22 (22 + b).toNat).size : Int) = b := by rw [ByteArray.size_extract]; omega
theorem dec_sizes (s : ByteArray) (h : vld (dec [] (L s)).1) : ∀ x ∈ un (dec [] (L s)).1, x.f1.size ≤ 140737488351232 := by
  intro x hx
  unfold un at hx
  obtain ⟨o, ho, rfl⟩ := List.mem_map.1 hx
  have := h.1.2.2 o ho
  show (B o.2).size ≤ _
  rw [B_size]; omega
theorem dec_sizes' (s : ByteArray) (hs : s.size ≤ 100000) : ∀ x ∈ un (dec [] (L s)).1, x.f1.size ≤ 140737488351232 := by
  intro x hx
  by_cases h : vld (dec [] (L s)).1
  · exact dec_sizes s h x hx
  · rcases dec_all s.size (L s) [] (by rw [L_len]; exact Nat.le_refl _) vld_nil with h1 | h1
    · exact absurd h1.2.1 h
    · rw [h1.1] at hx; cases hx
theorem decj1 (s : ByteArray) (hs : s.size ≤ 100000) (k : Nat) (hk : 200000 < k) (h22 : 22 ≤ s.size) (hn : 22 + bt s 21 ≤ s.size) (a0 a1 a2 : Int) (b4 : Bool) (a5 a6 : Int) (b7 : Bool) (a8 a9 : Int) (b10 : Bool) (a11 a12 : Int) (b13 : Bool) :
    dhcp_Decode.j1 (k + 1) s false a0 a1 a2 (s.extract 22 (endP s)) b4 a5 a6 b7 a8 a9 b10 a11 a12 b13 = some (if (dec [] (L (s.extract (endP s) s.size))).2 ≠ 0 then errP (dec [] (L (s.extract (endP s) s.size))).2 else
      if vld (dec [] (L (s.extract (endP s) s.size))).1 then (a0, a1, a2, s.extract 22 (endP s), b4, a5, a6, b7, a8, a9, b10, a11, a12, b13, un (dec [] (L (s.extract (endP s) s.size))).1, 0) else errP 7) := by
  have hb : 0 ≤ bt s 21 ∧ bt s 21 ≤ 255 := bt_range s 21 (by omega)
  have hc := cli_len (s := s) (b := bt s 21) h22 hb.1 hn
  have he : wrap64 (22 + ((s.extract 22 (endP s)).size : Int)) = ((endP s : Nat) : Int) := by
    unfold endP
    rw [hc, wrap_id (by omega) (by omega)]; omega
  have hel : endP s ≤ s.size := by unfold endP; omega
  rw [dhcp_Decode.j1, if_neg Bool.false_ne_true, he, if_pos (by omega), if_pos (by omega), Int.toNat_natCast]
  have hz : (s.extract (endP s) s.size).size ≤ 100000 := by rw [ByteArray.size_extract]; omega
  rw [dec_f _ (by omega) k (by omega), Option.bind_some]
  by_cases h0 : (dec [] (L (s.extract (endP s) s.size))).2 = 0
  · rw [if_pos h0, if_neg (fun h => h h0), valid_f _ (dec_sizes' _ hz) k (by omega), Option.bind_some, ab_un]
    by_cases hv : vld (dec [] (L (s.extract (endP s) s.size))).1
    · rw [decide_eq_true hv, if_pos rfl, if_pos hv]
    · rw [decide_eq_false hv, if_neg Bool.false_ne_true, if_neg hv]; rfl
  · rw [if_neg h0, if_pos h0]; rfl
theorem decj1_true (s : ByteArray) (k : Nat) (a0 a1 a2 : Int) (c : ByteArray) (b4 : Bool) (a5 a6 : Int) (b7 : Bool) (a8 a9 : Int) (b10 : Bool) (a11 a12 : Int) (b13 : Bool) : dhcp_Decode.j1 (k + 1) s true a0 a1 a2 c b4 a5 a6 b7 a8 a9 b10 a11 a12 b13 = some (errP 7) := by
  rw [dhcp_Decode.j1, if_pos rfl]; rfl
theorem form_no {s : ByteArray} (h : ¬ (opr (bt s 1) ≠ 0 ∧ bt s 0 = opr (bt s 1) ∧ bt s 20 ≤ 1 ∧ (bt s 20 = 1 ∨ zeroA ⟨false, 0, nP s 16 20⟩) ∧ cli (s.extract 22 (endP s)) = true)) : formP s = false := decide_eq_false h
theorem form_yes {s : ByteArray} (h : opr (bt s 1) ≠ 0 ∧ bt s 0 = opr (bt s 1) ∧ bt s 20 ≤ 1 ∧ (bt s 20 = 1 ∨ zeroA ⟨false, 0, nP s 16 20⟩) ∧ cli (s.extract 22 (endP s)) = true) : ¬ formP s = false := by
  unfold formP; rw [decide_eq_true h]; decide
theorem size_sub (s : ByteArray) (a b : Nat) (h : b ≤ s.size) : (s.extract a b).size = b - a := by rw [ByteArray.size_extract]; omega
theorem dec36_f (s : ByteArray) (hs : s.size ≤ 100000) (k : Nat) (hk : 200002 < k) : dhcp_Decode.f k s = some (decP s) := by
  obtain ⟨k, rfl⟩ : ∃ q, k = q + 2 := ⟨k - 2, by omega⟩
  unfold dhcp_Decode.f decP
  by_cases h1 : s.size < 22
  · rw [if_pos (by omega), dhcp_Decode.j0, if_pos rfl, if_pos (.inl h1)]; rfl
  have b21 : 0 ≤ bt s 21 ∧ bt s 21 ≤ 255 := bt_range s 21 (by omega)
  have b20 : 0 ≤ bt s 20 ∧ bt s 20 ≤ 255 := bt_range s 20 (by omega)
  have b1 : 0 ≤ bt s 1 ∧ bt s 1 ≤ 255 := bt_range s 1 (by omega)
  have w1 : ∀ i : Nat, i < s.size → wrap64 (bt s (i : Int)) = bt s (i : Int) := fun i hi => by have := bt_range s i hi; exact wrap_id (by omega) (by omega)
  have w21 : wrap64 (bt s 21) = bt s 21 := w1 21 (by omega)
  have w1' : wrap64 (bt s 1) = bt s 1 := w1 1 (by omega)
  have wn : wrap64 (22 + bt s 21) = 22 + bt s 21 := wrap_id (by have := b21; omega) (by have := b21; omega)
  rw [if_neg (by omega), if_pos (by omega), w21, wn]
  by_cases h2 : (s.size : Int) < 22 + bt s 21
  · rw [decide_eq_true h2, dhcp_Decode.j0, if_pos rfl, if_pos (.inr h2)]; rfl
  rw [decide_eq_false h2, if_neg (show ¬ (s.size < 22 ∨ (s.size : Int) < 22 + bt s 21) from fun e => e.elim h1 h2), dhcp_Decode.j0, if_neg Bool.false_ne_true, w21, wn, w1']
  rw [if_pos (by omega), if_pos (by decide), if_pos (by omega), num36 _ (by rw [size_sub s 2 6 (by omega)]; decide) (k + 1) (by omega), Option.bind_some]
  rw [if_pos (by decide), if_pos (by omega), num36 _ (by rw [size_sub s 6 8 (by omega)]; decide) (k + 1) (by omega), Option.bind_some]
  rw [if_pos (by omega), if_pos (by omega), if_pos (by have := b21; omega), if_pos (by omega), if_pos (by decide), if_pos (by omega), read36 _ (by rw [size_sub s 8 12 (by omega)]) (k + 1) (by omega), Option.bind_some]
  rw [if_pos (by decide), if_pos (by omega), read36 _ (by rw [size_sub s 12 16 (by omega)]) (k + 1) (by omega), Option.bind_some]
  rw [if_pos (by decide), if_pos (by omega), read36 _ (by rw [size_sub s 16 20 (by omega)]) (k + 1) (by omega), Option.bind_some]
  rw [operation_f _ (k + 1) (by omega), Option.bind_some]
  have hend : (22 + bt s 21).toNat = endP s := rfl
  rw [hend]
  by_cases f1 : opr (bt s 1) = 0
  · rw [if_pos f1, decj1_true, if_pos (form_no (fun h => h.1 f1))]
  rw [if_neg f1, if_pos (by omega)]
  by_cases f2 : bt s 0 = opr (bt s 1)
  case neg => rw [if_neg f2, decj1_true, if_pos (form_no (fun h => f2 h.2.1))]
  rw [if_pos f2]
  by_cases f3 : bt s 20 > 1
  · rw [if_pos f3, decj1_true, if_pos (form_no (fun h => by have := h.2.2.1; omega))]
  rw [if_neg f3, (client_f (s.extract 22 (endP s)) (k + 1) (by omega)).1, Option.bind_some]
  by_cases f4 : bt s 20 = 1
  · rw [if_pos f4]
    by_cases f5 : cli (s.extract 22 (endP s)) = true
    · rw [f5, Bool.not_true, decj1 s hs k (by omega) (by omega) (by omega), if_neg (form_yes ⟨f1, f2, by omega, .inl f4, f5⟩)]; rfl
    · rw [if_pos (form_no (fun h => f5 h.2.2.2.2))]
      rw [Bool.not_eq_true] at f5
      rw [f5, Bool.not_false, decj1_true]
  · rw [if_neg f4, ne_zeroA ⟨false, 0, ((foldN (L (s.extract 16 20)) 0 : Nat) : Int)⟩]
    by_cases f6 : zeroA ⟨false, 0, ((foldN (L (s.extract 16 20)) 0 : Nat) : Int)⟩
    · rw [decide_eq_true f6, Bool.not_true, if_neg Bool.false_ne_true]
      by_cases f5 : cli (s.extract 22 (endP s)) = true
      · rw [f5, Bool.not_true, decj1 s hs k (by omega) (by omega) (by omega), if_neg (form_yes ⟨f1, f2, by omega, .inr f6, f5⟩)]; rfl
      · rw [if_pos (form_no (fun h => f5 h.2.2.2.2))]
        rw [Bool.not_eq_true] at f5
        rw [f5, Bool.not_false, decj1_true]
    · rw [decide_eq_false f6, Bool.not_false, if_pos rfl, decj1_true, if_pos (form_no (fun h => h.2.2.2.1.elim f4 f6))]
end Go.Proofs.YtcoekgnbncocnaaDoor.PK


namespace Go.Proofs.YtcoekgnbncocnaaDoor.PK
open Go Go.RowKit Go.Proofs.YtcoekgnbncocnaaDoorW.PrintWords Go.Proofs.YtcoekgnbncocnaaDoorW.PrintLast Go.Proofs.YtcoekgnbncocnaaDoorW.PrintMore Go.Proofs.YtcoekgnbncocnaaDoor.DN Go.Proofs.YtcoekgnbncocnaaDoor.OPT Go.Proofs.YtcoekgnbncocnaaDoor.ADR Go.Proofs.YtcoekgnbncocnaaDoor.Pa
set_option linter.unusedVariables false
set_option linter.unusedSimpArgs false

theorem nP_bound (s : ByteArray) (a b : Nat) (h : b ≤ s.size) (h4 : b ≤ a + 4) : 0 ≤ nP s a b ∧ nP s a b < 4294967296 := by
  have e : (L (s.extract a b)).length ≤ 4 := by rw [L_len, size_sub s a b h]; omega
  have h1 := fold_bound (L (s.extract a b)) 0
  have h2 : 256 ^ (L (s.extract a b)).length ≤ 256 ^ 4 := Nat.pow_le_pow_right (by decide) e
  unfold nP
  have : (256 : Nat) ^ 4 = 4294967296 := by decide
  omega
theorem nP_two (s : ByteArray) (a b : Nat) (h : b ≤ s.size) (h4 : b ≤ a + 2) : nP s a b < 65536 := by
  have e : (L (s.extract a b)).length ≤ 2 := by rw [L_len, size_sub s a b h]; omega
  have h1 := fold_bound (L (s.extract a b)) 0
  have h2 : 256 ^ (L (s.extract a b)).length ≤ 256 ^ 2 := Nat.pow_le_pow_right (by decide) e
  unfold nP
  have : (256 : Nat) ^ 2 = 65536 := by decide
  omega
/-- the head of the bytes as a message without options -/
def hdP (s : ByteArray) : Bool := vhd (bt s 1) (nP s 2 6) (nP s 6 8) (s.extract 22 (endP s)) ⟨false, 0, nP s 8 12⟩ ⟨false, 0, nP s 12 16⟩ ⟨false, 0, nP s 16 20⟩ (bt s 20 == 1)
theorem hdP_eq (s : ByteArray) (h : 22 ≤ s.size) (hk : 1 ≤ bt s 1 ∧ bt s 1 ≤ 8) : hdP s = decide ((bt s 20 = 1 ∨ zeroA ⟨false, 0, nP s 16 20⟩) ∧ cli (s.extract 22 (endP s)) = true) := by
  unfold hdP vhd
  have n1 := nP_bound s 2 6 (by omega) (by omega)
  have n2 := nP_bound s 6 8 (by omega) (by omega)
  have n2' := nP_two s 6 8 (by omega) (by omega)
  have n3 := nP_bound s 8 12 (by omega) (by omega)
  have n4 := nP_bound s 12 16 (by omega) (by omega)
  have n5 := nP_bound s 16 20 (by omega) (by omega)
  refine decide_eq_decide.2 ⟨fun h => ⟨?_, h.2.2.2.1⟩, fun h => ⟨hk, n1, ⟨n2.1, n2'⟩, h.2, ⟨rfl, rfl, by show nP s 8 12 ≤ _; omega⟩, ⟨rfl, rfl, by show nP s 12 16 ≤ _; omega⟩, ⟨rfl, rfl, by show nP s 16 20 ≤ _; omega⟩, ?_⟩⟩
  · rcases h.2.2.2.2.2.2.2 with h | h
    · exact .inl (by simpa using h)
    · exact .inr h
  · rcases h.1 with h | h
    · exact .inl (by simpa using h)
    · exact .inr h
end Go.Proofs.YtcoekgnbncocnaaDoor.PK


namespace Go.Proofs.YtcoekgnbncocnaaDoor.PK
open Go Go.RowKit Go.Proofs.YtcoekgnbncocnaaDoorW.PrintWords Go.Proofs.YtcoekgnbncocnaaDoorW.PrintLast Go.Proofs.YtcoekgnbncocnaaDoorW.PrintMore Go.Proofs.YtcoekgnbncocnaaDoor.DN Go.Proofs.YtcoekgnbncocnaaDoor.OPT Go.Proofs.YtcoekgnbncocnaaDoor.ADR Go.Proofs.YtcoekgnbncocnaaDoor.Pa
set_option linter.unusedVariables false
set_option linter.unusedSimpArgs false

def byt (n : Int) : UInt8 := UInt8.ofNat (n % 256).toNat
def two (n : Int) : List UInt8 := [byt (n / 256), byt n]
def hd36 (a0 a1 a2 : Int) (a3 : ByteArray) (x y z : S24) (a13 : Bool) : List UInt8 :=
  byt (opr a0) :: byt a0 :: (word a1 ++ (two a2 ++ (word x.f2 ++ (word y.f2 ++ (word z.f2 ++ ((if a13 = true then 1 else 0) :: byt a3.size :: L a3))))))
def encP (a0 a1 a2 : Int) (a3 : ByteArray) (x y z : S24) (a13 : Bool) (l : List S61) : ByteArray × Int :=
  if vpk a0 a1 a2 a3 x y z a13 l = true then (B (hd36 a0 a1 a2 a3 x y z a13 ++ enc (ab l)), 0) else (⟨#[]⟩, 1)
theorem encL_len : ∀ (l : List O), (encL l).length ≤ 3 * sz l + 2 * l.length
  | [] => by simp [encL]
  | o :: l => by
    rw [encL, List.length_append]
    have h1 := encL_len l
    have h2 := enc_length_le o.2.length (UInt8.ofNat o.1.toNat) o.2 (Nat.le_refl _)
    have h3 : sz (o :: l) = o.2.length + sz l := by simp [sz]
    rw [h3, List.length_cons]; omega
theorem enc_small {l : List O} (h : vld l) : (enc l).length ≤ 13000 := by
  unfold enc; rw [List.length_append, List.length_singleton]
  have := encL_len l
  have h1 := h.1.1
  have h2 := h.1.2.1
  omega
theorem map_bytesOf (s : ByteArray) : (bytesOf s).map (fun n : Int => UInt8.ofNat n.toNat) = L s := by
  unfold bytesOf
  rw [List.map_map]
  refine (List.map_congr_left (fun b _ => ?_)).trans (List.map_id _)
  simp
theorem wrapu8 (n : Int) : IntKind.u8.wrap n = n % 256 := by rw [IntKind.wrap_u8]
theorem L_hdr (op a0 a1 a2 : Int) : (hdr op a0 a1 a2).map (fun n : Int => UInt8.ofNat n.toNat) = UInt8.ofNat op.toNat :: byt a0 :: (word a1 ++ two a2) := by
  unfold hdr
  simp only [wrapu8]
  rfl
theorem opr_byt (n : Int) : UInt8.ofNat (opr n).toNat = byt (opr n) := by
  unfold byt opr
  split
  · rfl
  · split <;> rfl
theorem enc36_f (a0 a1 a2 : Int) (a3 : ByteArray) (x y z : S24) (a13 : Bool) (l : List S61) (hx : 0 ≤ x.f2) (hy : 0 ≤ y.f2) (hz : 0 ≤ z.f2) (hl : ∀ o ∈ l, o.f1.size ≤ 140737488351232) (k : Nat) (hk : 200 < k) :
    dhcp_Encode.f k a0 a1 a2 a3 x.f0 x.f1 x.f2 y.f0 y.f1 y.f2 z.f0 z.f1 z.f2 a13 l = some (encP a0 a1 a2 a3 x y z a13 l) := by
  unfold dhcp_Encode.f
  rw [dvalid_f a0 a1 a2 a3 x y z a13 l hx hy hz hl k hk, Option.bind_some]
  unfold encP
  by_cases hv : vpk a0 a1 a2 a3 x y z a13 l = true
  case neg => rw [if_neg hv, if_neg hv]
  obtain ⟨⟨h0, h1, h2, hc, hx', hy', hz', h13⟩, hvl⟩ := vpk_parts hv
  have hcs := cli_size hc
  have hes := enc_small hvl
  rw [if_pos hv, if_pos hv, operation_f a0 k (by omega), Option.bind_some, wire_ok hx' k (by omega), Option.bind_some, wire_ok hy' k (by omega), Option.bind_some, wire_ok hz' k (by omega), Option.bind_some]
  rw [show option_Encode.f l = some (encA (ab l)) by unfold option_Encode.f; rw [if_pos (List.all_eq_true.2 fun x hx => decide_eq_true (hl x hx))], Option.bind_some]
  unfold encA
  rw [if_pos hvl, if_pos (by refine ⟨by rw [B_size]; show 4 ≤ 1000; decide, by rw [B_size]; show 4 ≤ 1000; decide, by rw [B_size]; show 4 ≤ 1000; decide, by omega, by rw [B_size]; omega⟩), if_pos rfl]
  refine congrArg (fun b => some (b, (0 : Int))) (L_inj ?_)
  rw [L_append, L_nums, L_B, L_B]
  simp only [List.map_append, List.map_cons, List.map_nil, map_bytesOf, L_hdr, L_B]
  rw [opr_byt]
  unfold hd36
  simp only [List.append_assoc, List.cons_append, List.nil_append]
  cases a13 <;> rfl

end Go.Proofs.YtcoekgnbncocnaaDoor.PK


namespace Go.Proofs.YtcoekgnbncocnaaDoor.PK
open Go Go.RowKit Go.Proofs.YtcoekgnbncocnaaDoorW.PrintWords Go.Proofs.YtcoekgnbncocnaaDoorW.PrintLast Go.Proofs.YtcoekgnbncocnaaDoorW.PrintMore Go.Proofs.YtcoekgnbncocnaaDoor.DN Go.Proofs.YtcoekgnbncocnaaDoor.OPT Go.Proofs.YtcoekgnbncocnaaDoor.ADR Go.Proofs.YtcoekgnbncocnaaDoor.Pa
set_option linter.unusedVariables false
set_option linter.unusedSimpArgs false

theorem dec_more (t : List UInt8) (ht : t.all (· == 0) = false) : ∀ (n : Nat) (s : List UInt8) (l : List O), s.length ≤ n → (dec l s).2 = 0 → (dec l (s ++ t)).2 = 8 := by
  intro n
  induction n with
  | zero =>
    intro s l hs h
    have : s = [] := List.length_eq_zero_iff.1 (by omega)
    subst this; rw [dec_nil] at h; exact absurd h (by show ¬ (7 : Int) = 0; decide)
  | succ n ih =>
    intro s l hs h
    match s, hs, h with
    | [], hs, h => rw [dec_nil] at h; exact absurd h (by show ¬ (7 : Int) = 0; decide)
    | c :: r, hs, h =>
      rw [List.cons_append]
      by_cases h0 : c = 0
      · subst h0
        rw [dec_zero] at h ⊢
        exact ih r l (by simp at hs; omega) h
      by_cases h1 : c = 255
      · subst h1
        rw [dec_end, if_neg (by rw [List.all_append, ht, Bool.and_false]; decide)]
      match r, hs, h with
      | [], hs, h => rw [dec_short l h0 h1] at h; exact absurd h (by show ¬ (6 : Int) = 0; decide)
      | k :: q, hs, h =>
        rw [List.cons_append]
        rw [dec_part l q h0 h1] at h
        rw [dec_part l (q ++ t) h0 h1]
        by_cases hq : q.length < k.toNat
        · rw [if_pos hq] at h; exact absurd h (by show ¬ (6 : Int) = 0; decide)
        rw [if_neg hq] at h
        rw [if_neg (by rw [List.length_append]; omega), List.take_append_of_le_length (by omega), List.drop_append_of_le_length (by omega)]
        by_cases hn : no (ad l c.toNat (q.take k.toNat))
        · rw [if_pos hn] at h ⊢
          exact ih (q.drop k.toNat) _ (by simp at hs ⊢; omega) h
        · rw [if_neg hn] at h; exact absurd h (by show ¬ (9 : Int) = 0; decide)
theorem dec_cut {l : List O} (h : vld l) (j : Nat) (hj : j < (enc l).length) : (dec [] ((enc l).take j)).2 ≠ 0 := by
  intro h0
  have hl : (enc l).length = (encL l).length + 1 := by unfold enc; simp
  have e1 : (enc l).drop j = (encL l).drop j ++ [255] := by unfold enc; rw [List.drop_append_of_le_length (by omega)]
  have := dec_more ((enc l).drop j) (by rw [e1, List.all_append]; simp) _ _ [] (Nat.le_refl _) h0
  rw [List.take_append_drop, dec_enc h] at this
  exact absurd this (by show ¬ (0 : Int) = 8; decide)

theorem byt_val {n : Int} (h0 : 0 ≤ n) (h1 : n ≤ 255) : (((byt n).toNat : Nat) : Int) = n := by
  unfold byt; rw [UInt8.toNat_ofNat']; omega
theorem bt_at' {s : ByteArray} (i : Nat) {c : UInt8} (h : (L s)[i]? = some c) : bt s (i : Int) = ((c.toNat : Nat) : Int) := by
  obtain ⟨hi, e⟩ := List.getElem?_eq_some_iff.1 h
  rw [bt_L s i hi, e]
theorem nP_of {s : ByteArray} {a b : Nat} {v : List UInt8} (h : ((L s).drop a).take (b - a) = v) : nP s a b = ((foldN v 0 : Nat) : Int) := by
  unfold nP; rw [L_extract, h]
theorem fold_word {n : Int} (h0 : 0 ≤ n) (h1 : n ≤ 4294967295) : ((foldN (word n) 0 : Nat) : Int) = n := by
  refine Eq.trans ?_ (word_val h0 h1)
  unfold word foldN val4
  simp
theorem fold_two {n : Int} (h0 : 0 ≤ n) (h1 : n < 65536) : ((foldN (two n) 0 : Nat) : Int) = n := by
  show ((((0 * 256 + (byt (n / 256)).toNat) * 256 + (byt n).toNat : Nat)) : Int) = n
  have a1 : (((byt (n / 256)).toNat : Nat) : Int) = n / 256 := byt_val (by omega) (by omega)
  have a2 : (((byt n).toNat : Nat) : Int) = n % 256 := by unfold byt; rw [UInt8.toNat_ofNat']; omega
  omega
theorem L_eq_of {s t : ByteArray} (h : L s = L t) : s = t := by rw [← B_L s, h, B_L]
theorem opr_small {n : Int} (h : 1 ≤ n ∧ n ≤ 8) : opr n ≠ 0 ∧ 0 ≤ opr n ∧ opr n ≤ 255 := by
  refine ⟨fun e => (opr_zero n).1 e h, ?_, ?_⟩ <;> (unfold opr; split <;> (try split) <;> decide)
theorem hd36_len (a0 a1 a2 : Int) (a3 : ByteArray) (x y z : S24) (a13 : Bool) : (hd36 a0 a1 a2 a3 x y z a13).length = 22 + a3.size := by
  unfold hd36; simp [word, two, L_len]; omega
theorem drop_hd (a0 a1 a2 : Int) (a3 : ByteArray) (x y z : S24) (a13 : Bool) (r : List UInt8) : (hd36 a0 a1 a2 a3 x y z a13 ++ r).drop 22 = L a3 ++ r := rfl
/-- what the bytes tell whose head is a message's head -/
theorem head_of {s : ByteArray} {r : List UInt8} {a0 a1 a2 : Int} {a3 : ByteArray} {x y z : S24} {a13 : Bool} (hs : L s = hd36 a0 a1 a2 a3 x y z a13 ++ r)
    (h0 : 1 ≤ a0 ∧ a0 ≤ 8) (h1 : 0 ≤ a1 ∧ a1 < 4294967296) (h2 : 0 ≤ a2 ∧ a2 < 65536) (hc : cli a3 = true) (hx : okA x ∧ 0 ≤ x.f2) (hy : okA y ∧ 0 ≤ y.f2) (hz : okA z ∧ 0 ≤ z.f2) (h13 : a13 = true ∨ zeroA z) :
    bt s 1 = a0 ∧ bt s 0 = opr a0 ∧ bt s 20 = (if a13 = true then 1 else 0) ∧ bt s 21 = a3.size ∧ nP s 2 6 = a1 ∧ nP s 6 8 = a2 ∧ nP s 8 12 = x.f2 ∧ nP s 12 16 = y.f2 ∧ nP s 16 20 = z.f2 ∧ endP s = 22 + a3.size ∧ s.extract 22 (22 + a3.size) = a3 ∧ formP s = true ∧
      L (s.extract (22 + a3.size) s.size) = r ∧ s.size = 22 + a3.size + r.length := by
  have hcs := cli_size hc
  have ho := opr_small h0
  have b1 : bt s 1 = a0 := by rw [show (1 : Int) = ((1 : Nat) : Int) from rfl, bt_at' 1 (c := byt a0) (by rw [hs]; rfl)]; exact byt_val (by omega) (by omega)
  have b0 : bt s 0 = opr a0 := by rw [show (0 : Int) = ((0 : Nat) : Int) from rfl, bt_at' 0 (c := byt (opr a0)) (by rw [hs]; rfl)]; exact byt_val ho.2.1 ho.2.2
  have b20 : bt s 20 = (if a13 = true then 1 else 0) := by
    rw [show (20 : Int) = ((20 : Nat) : Int) from rfl, bt_at' 20 (c := if a13 = true then 1 else 0) (by rw [hs]; rfl)]; cases a13 <;> rfl
  have b21 : bt s 21 = a3.size := by rw [show (21 : Int) = ((21 : Nat) : Int) from rfl, bt_at' 21 (c := byt a3.size) (by rw [hs]; rfl)]; exact byt_val (by omega) (by omega)
  have n1 : nP s 2 6 = a1 := by rw [nP_of (v := word a1) (by rw [hs]; rfl)]; exact fold_word (by omega) (by omega)
  have n2 : nP s 6 8 = a2 := by rw [nP_of (v := two a2) (by rw [hs]; rfl)]; exact fold_two (by omega) (by omega)
  have n3 : nP s 8 12 = x.f2 := by rw [nP_of (v := word x.f2) (by rw [hs]; rfl)]; exact fold_word hx.2 hx.1.2.2
  have n4 : nP s 12 16 = y.f2 := by rw [nP_of (v := word y.f2) (by rw [hs]; rfl)]; exact fold_word hy.2 hy.1.2.2
  have n5 : nP s 16 20 = z.f2 := by rw [nP_of (v := word z.f2) (by rw [hs]; rfl)]; exact fold_word hz.2 hz.1.2.2
  have he : endP s = 22 + a3.size := by unfold endP; rw [b21]; omega
  have hsz : s.size = 22 + a3.size + r.length := by rw [← L_len, hs, List.length_append, hd36_len]
  have hcl : s.extract 22 (22 + a3.size) = a3 := by
    refine L_eq_of ?_
    rw [L_extract, hs, drop_hd, List.take_left' (by rw [L_len]; omega)]
  have hr : L (s.extract (22 + a3.size) s.size) = r := by
    rw [L_extract, hs, List.drop_left' (hd36_len ..), List.take_of_length_le (by omega)]
  refine ⟨b1, b0, b20, b21, n1, n2, n3, n4, n5, he, hcl, ?_, hr, hsz⟩
  unfold formP
  rw [b1, b0, b20, n5, he, hcl]
  refine decide_eq_true ⟨ho.1, rfl, by split <;> decide, ?_, hc⟩
  rcases h13 with h | h
  · exact .inl (if_pos h)
  · exact .inr ⟨rfl, rfl, h.2.2⟩
theorem dec_encP {a0 a1 a2 : Int} {a3 : ByteArray} {x y z : S24} {a13 : Bool} {l : List S61} (hv : vpk a0 a1 a2 a3 x y z a13 l = true) (hx : 0 ≤ x.f2) (hy : 0 ≤ y.f2) (hz : 0 ≤ z.f2) :
    decP (B (hd36 a0 a1 a2 a3 x y z a13 ++ enc (ab l))) = (a0, a1, a2, a3, x.f0, x.f1, x.f2, y.f0, y.f1, y.f2, z.f0, z.f1, z.f2, a13, l, 0) := by
  obtain ⟨⟨h0, h1, h2, hc, hx', hy', hz', h13⟩, hvl⟩ := vpk_parts hv
  obtain ⟨b1, b0, b20, b21, n1, n2, n3, n4, n5, he, hcl, hf, hr, hsz⟩ := head_of (s := B (hd36 a0 a1 a2 a3 x y z a13 ++ enc (ab l))) (L_B _) h0 h1 h2 hc ⟨hx', hx⟩ ⟨hy', hy⟩ ⟨hz', hz⟩ h13
  generalize B (hd36 a0 a1 a2 a3 x y z a13 ++ enc (ab l)) = s at *
  unfold decP
  rw [if_neg (by rw [b21]; omega), hf, if_neg (by decide), he, hr, dec_enc hvl, if_neg (by simp), if_pos hvl, b1, n1, n2, n3, n4, n5, hcl, b20, un_ab]
  refine Prod.ext rfl (Prod.ext rfl (Prod.ext rfl (Prod.ext rfl (Prod.ext hx'.1.symm (Prod.ext hx'.2.1.symm (Prod.ext rfl (Prod.ext hy'.1.symm (Prod.ext hy'.2.1.symm (Prod.ext rfl (Prod.ext hz'.1.symm (Prod.ext hz'.2.1.symm (Prod.ext rfl (Prod.ext ?_ rfl)))))))))))))
  cases a13 <;> rfl
theorem errP_err (e : Int) : (errP e).2.2.2.2.2.2.2.2.2.2.2.2.2.2.2 = e := rfl
theorem dec_cutP {a0 a1 a2 : Int} {a3 : ByteArray} {x y z : S24} {a13 : Bool} {l : List S61} (hv : vpk a0 a1 a2 a3 x y z a13 l = true) (hx : 0 ≤ x.f2) (hy : 0 ≤ y.f2) (hz : 0 ≤ z.f2) (n : Nat)
    (hn : n < (B (hd36 a0 a1 a2 a3 x y z a13 ++ enc (ab l))).size) :
    (decP ((B (hd36 a0 a1 a2 a3 x y z a13 ++ enc (ab l))).extract 0 n)).2.2.2.2.2.2.2.2.2.2.2.2.2.2.2 ≠ 0 := by
  obtain ⟨⟨h0, h1, h2, hc, hx', hy', hz', h13⟩, hvl⟩ := vpk_parts hv
  have hL : L ((B (hd36 a0 a1 a2 a3 x y z a13 ++ enc (ab l))).extract 0 n) = (hd36 a0 a1 a2 a3 x y z a13 ++ enc (ab l)).take n := by rw [L_extract, L_B]; rfl
  have hS : ((B (hd36 a0 a1 a2 a3 x y z a13 ++ enc (ab l))).extract 0 n).size = n := by rw [ByteArray.size_extract]; omega
  have hN : n < 22 + a3.size + (enc (ab l)).length := by rw [B_size, List.length_append, hd36_len] at hn; exact hn
  generalize (B (hd36 a0 a1 a2 a3 x y z a13 ++ enc (ab l))).extract 0 n = s at hL hS
  by_cases hA : n < 22 + a3.size
  · have : s.size < 22 ∨ (s.size : Int) < 22 + bt s 21 := by
      by_cases h22 : n < 22
      · exact .inl (by omega)
      · right
        have hcs := cli_size hc
        have b21 : bt s 21 = a3.size := by
          rw [show (21 : Int) = ((21 : Nat) : Int) from rfl, bt_at' 21 (c := byt a3.size) (by rw [hL, List.getElem?_take_of_lt (by omega)]; rfl)]; exact byt_val (by omega) (by omega)
        rw [b21]; omega
    unfold decP
    rw [if_pos this, errP_err]
    decide
  · have hL2 : L s = hd36 a0 a1 a2 a3 x y z a13 ++ (enc (ab l)).take (n - (22 + a3.size)) := by
      rw [hL, List.take_append, hd36_len, List.take_of_length_le (by rw [hd36_len]; omega)]
    obtain ⟨b1, b0, b20, b21, n1, n2, n3, n4, n5, he, hcl, hf, hr, hsz⟩ := head_of hL2 h0 h1 h2 hc ⟨hx', hx⟩ ⟨hy', hy⟩ ⟨hz', hz⟩ h13
    have hd := dec_cut hvl (n - (22 + a3.size)) (by omega)
    unfold decP
    rw [if_neg (by rw [b21]; omega), hf, if_neg (by decide), he, hr, if_pos hd, errP_err]
    exact hd
theorem decP_cases (s : ByteArray) : (∃ e, e ≠ 0 ∧ decP s = errP e) ∨ ∃ (a0 a1 a2 : Int) (a3 : ByteArray) (x y z : S24) (a13 : Bool) (l : List S61),
    decP s = (a0, a1, a2, a3, x.f0, x.f1, x.f2, y.f0, y.f1, y.f2, z.f0, z.f1, z.f2, a13, l, 0) ∧ vpk a0 a1 a2 a3 x y z a13 l = true ∧ 0 ≤ x.f2 ∧ 0 ≤ y.f2 ∧ 0 ≤ z.f2 := by
  unfold decP
  by_cases h1 : s.size < 22 ∨ (s.size : Int) < 22 + bt s 21
  · rw [if_pos h1]; exact .inl ⟨6, by decide, rfl⟩
  rw [if_neg h1]
  by_cases h2 : formP s = false
  · rw [if_pos h2]; exact .inl ⟨7, by decide, rfl⟩
  rw [if_neg h2]
  by_cases h3 : (dec [] (L (s.extract (endP s) s.size))).2 ≠ 0
  · rw [if_pos h3]; exact .inl ⟨_, h3, rfl⟩
  rw [if_neg h3]
  by_cases h4 : vld (dec [] (L (s.extract (endP s) s.size))).1
  · rw [if_pos h4]
    have h22 : 22 ≤ s.size := by
      rcases Nat.lt_or_ge s.size 22 with h | h
      · exact absurd (.inl h) h1
      · exact h
    have n3 := nP_bound s 8 12 (by omega) (by omega)
    have n4 := nP_bound s 12 16 (by omega) (by omega)
    have n5 := nP_bound s 16 20 (by omega) (by omega)
    have hf : opr (bt s 1) ≠ 0 ∧ bt s 0 = opr (bt s 1) ∧ bt s 20 ≤ 1 ∧ (bt s 20 = 1 ∨ zeroA ⟨false, 0, nP s 16 20⟩) ∧ cli (s.extract 22 (endP s)) = true := by
      rw [Bool.not_eq_false] at h2
      exact of_decide_eq_true h2
    have hk : 1 ≤ bt s 1 ∧ bt s 1 ≤ 8 := by
      rcases Decidable.em (1 ≤ bt s 1 ∧ bt s 1 ≤ 8) with h | h
      · exact h
      · exact absurd ((opr_zero _).2 h) hf.1
    have hh := hdP_eq s h22 hk
    rw [decide_eq_true (show _ ∧ _ from ⟨hf.2.2.2.1, hf.2.2.2.2⟩)] at hh
    refine .inr ⟨bt s 1, nP s 2 6, nP s 6 8, s.extract 22 (endP s), ⟨false, 0, nP s 8 12⟩, ⟨false, 0, nP s 12 16⟩, ⟨false, 0, nP s 16 20⟩, bt s 20 == 1, un (dec [] (L (s.extract (endP s) s.size))).1, rfl, ?_, n3.1, n4.1, n5.1⟩
    unfold vpk
    rw [show vhd (bt s 1) (nP s 2 6) (nP s 6 8) (s.extract 22 (endP s)) ⟨false, 0, nP s 8 12⟩ ⟨false, 0, nP s 12 16⟩ ⟨false, 0, nP s 16 20⟩ (bt s 20 == 1) = true from hh, ab_un, decide_eq_true h4]
    rfl
  · rw [if_neg h4]; exact .inl ⟨7, by decide, rfl⟩
theorem vpk_sizes {a0 a1 a2 : Int} {a3 : ByteArray} {x y z : S24} {a13 : Bool} {l : List S61} (hv : vpk a0 a1 a2 a3 x y z a13 l = true) : l.length ≤ 32 ∧ (∀ o ∈ l, o.f1.size ≤ 140737488351232) ∧ 22 ≤ (B (hd36 a0 a1 a2 a3 x y z a13 ++ enc (ab l))).size ∧ (B (hd36 a0 a1 a2 a3 x y z a13 ++ enc (ab l))).size ≤ 100000 := by
  obtain ⟨⟨h0, h1, h2, hc, hx', hy', hz', h13⟩, hvl⟩ := vpk_parts hv
  have hz := no_sizes hvl.1
  have hcs := cli_size hc
  have hes := enc_small hvl
  refine ⟨hz.1, fun o ho => by have := hz.2 o ho; omega, ?_, ?_⟩ <;> (rw [B_size, List.length_append, hd36_len]; omega)
end Go.Proofs.YtcoekgnbncocnaaDoor.PK


namespace Go.Proofs.YtcoekgnbncocnaaDoor.PK
open Go Go.RowKit Go.Proofs.YtcoekgnbncocnaaDoorW.PrintWords Go.Proofs.YtcoekgnbncocnaaDoorW.PrintLast Go.Proofs.YtcoekgnbncocnaaDoorW.PrintMore Go.Proofs.YtcoekgnbncocnaaDoor.DN Go.Proofs.YtcoekgnbncocnaaDoor.OPT Go.Proofs.YtcoekgnbncocnaaDoor.ADR Go.Proofs.YtcoekgnbncocnaaDoor.Pa
set_option linter.unusedVariables false
set_option linter.unusedSimpArgs false

def cutO (x : S61) : S61 := ⟨x.f0, x.f1.extract 0 (min x.f1.size 1100)⟩
def shl (l : List S61) : List S61 := (l.take 40).map cutO
theorem mn_nat (a b : Nat) : mn (a : Int) (b : Int) = ((min a b : Nat) : Int) := by unfold mn; split <;> omega
theorem mn_1100 (a : Nat) : mn (a : Int) 1100 = ((min a 1100 : Nat) : Int) := mn_nat a 1100
theorem mn_100 (a : Nat) : mn (a : Int) 100 = ((min a 100 : Nat) : Int) := mn_nat a 100
theorem cutO_size (x : S61) : (cutO x).f1.size ≤ 1100 := by
  unfold cutO; simp only [ByteArray.size_extract]; omega
theorem opts_l (l : List S61) (hl : l.length ≤ 5864062014805) : ∀ (n k i : Nat), 40 - i ≤ n → n < k → i ≤ 40 → i ≤ l.length →
    ddiref36_options.l0 k l ((l.take i).map cutO) (i : Int) = some (shl l) := by
  intro n
  induction n with
  | zero =>
    intro k i hn hk hi hil
    obtain ⟨k, rfl⟩ : ∃ q, k = q + 1 := ⟨k - 1, by omega⟩
    obtain rfl : i = 40 := by omega
    rw [ddiref36_options.l0]
    by_cases h : 40 < l.length
    · rw [if_pos (by omega), if_neg (by omega)]; rfl
    · rw [if_neg (by omega)]; rfl
  | succ n ih =>
    intro k i hn hk hi hil
    obtain ⟨k, rfl⟩ : ∃ q, k = q + 1 := ⟨k - 1, by omega⟩
    rw [ddiref36_options.l0]
    by_cases h1 : i < l.length
    · rw [if_pos (by omega)]
      by_cases h2 : i < 40
      · have h3 : ((l.take i).map cutO).length ≤ 40 := by rw [List.length_map, List.length_take]; omega
        rw [if_pos (by omega), if_pos (by omega), rd_at h1, mn_1100, if_pos (by omega), if_pos (by omega), if_pos (by omega), Int.toNat_natCast, wsucc (by omega)]
        have h4 : (l.take (i + 1)).map cutO = (l.take i).map cutO ++ [(⟨l[i].f0, l[i].f1.extract 0 (min l[i].f1.size 1100)⟩ : S61)] := by
          rw [List.take_succ_eq_append_getElem h1, List.map_append]; rfl
        rw [← h4]
        exact ih k (i + 1) (by omega) (by omega) (by omega) (by omega)
      · rw [if_neg (by omega)]
        obtain rfl : i = 40 := by omega
        rfl
    · rw [if_neg (by omega)]
      obtain rfl : i = l.length := by omega
      unfold shl
      rw [List.take_length, List.take_of_length_le hi]
theorem opts_f (l : List S61) (hl : l.length ≤ 5864062014805) (k : Nat) (hk : 100 < k) : ddiref36_options.f k l = some (shl l) := by
  have := opts_l l hl 40 k 0 (by omega) (by omega) (by omega) (by omega)
  simpa [ddiref36_options.f] using this
theorem short_f (a0 a1 a2 : Int) (a3 : ByteArray) (a4 : Bool) (a5 a6 : Int) (a7 : Bool) (a8 a9 : Int) (a10 : Bool) (a11 a12 : Int) (a13 : Bool) (l : List S61) (hl : l.length ≤ 5864062014805) (k : Nat) (hk : 100 < k) :
    ddiref36_Short.f k a0 a1 a2 a3 a4 a5 a6 a7 a8 a9 a10 a11 a12 a13 l = some (a0, a1, a2, a3.extract 0 (min a3.size 100), a4, a5, a6, a7, a8, a9, a10, a11, a12, a13, shl l) := by
  unfold ddiref36_Short.f
  rw [mn_100, if_pos (by omega), if_pos (by omega), opts_f l hl k hk, Option.bind_some, Int.toNat_natCast]
theorem shl_length (l : List S61) : (shl l).length ≤ 40 := by unfold shl; rw [List.length_map, List.length_take]; omega
theorem shl_size (l : List S61) : ∀ x ∈ shl l, x.f1.size ≤ 1100 := by
  intro x hx
  obtain ⟨y, _, rfl⟩ := List.mem_map.1 hx
  exact cutO_size y
theorem eqA (b : Bool) (h l : Int) : (!(b == b) || (!(h == h) || (!(l == l)))) = false := by simp
theorem same_l (a0 a1 a2 : Int) (a3 : ByteArray) (a4 : Bool) (a5 a6 : Int) (a7 : Bool) (a8 a9 : Int) (a10 : Bool) (a11 a12 : Int) (a13 : Bool) (b0 b1 b2 : Int) (b3 : ByteArray) (b4 : Bool) (b5 b6 : Int) (b7 : Bool) (b8 b9 : Int) (b10 : Bool) (b11 b12 : Int) (b13 : Bool) (l : List S61) (hl : l.length ≤ 5864062014805) : ∀ (n k i : Nat), l.length - i ≤ n → n < k → i ≤ l.length →
    ddiref36_Same.l0 k (i : Int) a0 a1 a2 a3 a4 a5 a6 a7 a8 a9 a10 a11 a12 a13 l b0 b1 b2 b3 b4 b5 b6 b7 b8 b9 b10 b11 b12 b13 l = some true := by
  intro n
  induction n with
  | zero =>
    intro k i hn hk hi
    obtain ⟨k, rfl⟩ : ∃ q, k = q + 1 := ⟨k - 1, by omega⟩
    rw [ddiref36_Same.l0, if_neg (by omega)]
  | succ n ih =>
    intro k i hn hk hi
    obtain ⟨k, rfl⟩ : ∃ q, k = q + 1 := ⟨k - 1, by omega⟩
    rw [ddiref36_Same.l0]
    by_cases h1 : i < l.length
    · have := ih k (i + 1) (by omega) (by omega) (by omega)
      rw [← wsucc (by omega)] at this
      simp only [if_pos (show (i : Int) < (l.length : Int) by omega), if_pos (show (0 : Int) ≤ (i : Int) by omega)]
      simpa using this
    · rw [if_neg (by omega)]
theorem same_f (a0 a1 a2 : Int) (a3 : ByteArray) (a4 : Bool) (a5 a6 : Int) (a7 : Bool) (a8 a9 : Int) (a10 : Bool) (a11 a12 : Int) (a13 : Bool) (l : List S61) (hl : l.length ≤ 5864062014805) (k : Nat) (hk : l.length < k) :
    ddiref36_Same.f k a0 a1 a2 a3 a4 a5 a6 a7 a8 a9 a10 a11 a12 a13 l a0 a1 a2 a3 a4 a5 a6 a7 a8 a9 a10 a11 a12 a13 l = some true := by
  unfold ddiref36_Same.f
  rw [if_pos rfl, if_pos rfl, if_pos rfl, if_pos rfl, eqA, eqA, eqA, if_neg Bool.false_ne_true, if_neg Bool.false_ne_true, if_neg Bool.false_ne_true, show (a13 != a13) = false by simp, if_neg Bool.false_ne_true, if_pos rfl]
  exact same_l a0 a1 a2 a3 a4 a5 a6 a7 a8 a9 a10 a11 a12 a13 a0 a1 a2 a3 a4 a5 a6 a7 a8 a9 a10 a11 a12 a13 l hl l.length k 0 (by omega) hk (by omega)
end Go.Proofs.YtcoekgnbncocnaaDoor.PK


namespace Go.Proofs.YtcoekgnbncocnaaDoor.PK
open Go Go.RowKit Go.Proofs.YtcoekgnbncocnaaDoorW.PrintWords Go.Proofs.YtcoekgnbncocnaaDoorW.PrintLast Go.Proofs.YtcoekgnbncocnaaDoorW.PrintMore Go.Proofs.YtcoekgnbncocnaaDoor.DN Go.Proofs.YtcoekgnbncocnaaDoor.OPT Go.Proofs.YtcoekgnbncocnaaDoor.ADR Go.Proofs.YtcoekgnbncocnaaDoor.Pa
set_option linter.unusedVariables false
set_option linter.unusedSimpArgs false
theorem awake36_f (k : Nat) (hk : 100 ≤ k) : ddilaw36_awake.f k = some true := by
  refine up (fun k => ddilaw36_awake.mono k) hk ?_
  kernel_rfl
theorem wf_u64 {n : Int} (h : (Lit.int .u64 n).wf = true) : 0 ≤ n ∧ n ≤ 18446744073709551615 := by
  have e1 : IntKind.u64.min = 0 := rfl
  have e2 : IntKind.u64.max = 18446744073709551615 := rfl
  simp [Lit.wf, e1, e2] at h
  exact h
end Go.Proofs.YtcoekgnbncocnaaDoor.PK


namespace Go.Proofs.YtcoekgnbncocnaaDoor.Pure
open Go Go.RowKit Go.Proofs.YtcoekgnbncocnaaDoorW.PrintWords Go.Proofs.YtcoekgnbncocnaaDoorW.PrintLast Go.Proofs.YtcoekgnbncocnaaDoorW.PrintMore Go.Proofs.YtcoekgnbncocnaaDoor.DN Go.Proofs.YtcoekgnbncocnaaDoor.OPT Go.Proofs.YtcoekgnbncocnaaDoor.ADR Go.Proofs.YtcoekgnbncocnaaDoor.PK Go.Proofs.YtcoekgnbncocnaaDoor.Pa
set_option linter.unusedVariables false
set_option linter.unusedSimpArgs false
theorem mn_3000b (a : Nat) : mn (a : Int) 3000 = ((min a 3000 : Nat) : Int) := mn_nat a 3000
theorem back_tail (s : ByteArray) (hs : s.size ≤ 100000) (k : Nat) (hk : 300000 < k) : ddilaw36_DhcpBack.j0 (k + 1) s = some true := by
  rw [ddilaw36_DhcpBack.j0, dec36_f s hs k (by omega), Option.bind_some]
  rcases decP_cases s with ⟨e, he, h⟩ | ⟨a0, a1, a2, a3, x, y, z, a13, l, h, hv, hx, hy, hz⟩
  · rw [h]
    unfold errP
    dsimp only
    rw [if_neg he, same_f 0 0 0 ⟨#[]⟩ false 0 0 false 0 0 false 0 0 false [] (by decide) k (by show 0 < k; omega), Option.bind_some, if_pos rfl, awake36_f k (by omega)]
    rfl
  · obtain ⟨hl, hsz, h22, hbig⟩ := vpk_sizes hv
    have e1 := enc36_f a0 a1 a2 a3 x y z a13 l hx hy hz hsz k (by omega)
    have e2 := dvalid_f a0 a1 a2 a3 x y z a13 l hx hy hz hsz k (by omega)
    have e3 : encP a0 a1 a2 a3 x y z a13 l = (B (hd36 a0 a1 a2 a3 x y z a13 ++ enc (ab l)), 0) := by unfold encP; rw [if_pos hv]
    have e4 := dec36_f _ hbig k (by omega)
    rw [dec_encP hv hx hy hz] at e4
    rw [e3] at e1
    rw [hv] at e2
    rw [h]
    dsimp only
    rw [if_pos rfl, e1, Option.bind_some, e4, Option.bind_some, e2, Option.bind_some, if_pos rfl, if_pos rfl]
    dsimp only
    rw [if_pos rfl, same_f a0 a1 a2 a3 x.f0 x.f1 x.f2 y.f0 y.f1 y.f2 z.f0 z.f1 z.f2 a13 l (by omega) k (by omega), Option.bind_some, if_pos rfl, awake36_f k (by omega)]
    rfl
theorem tmod_cut {a s : Int} (h0 : 0 ≤ a) (hs : 0 < s) (hb : s ≤ 100000) : wrap64 (Int.tmod a s) = ((a % s).toNat : Int) ∧ (a % s).toNat < s := by
  have e : Int.tmod a s = a % s := Int.tmod_eq_emod_of_nonneg h0
  have h1 := Int.emod_nonneg a (show s ≠ 0 by omega)
  have h2 := Int.emod_lt_of_pos a hs
  rw [e, wrap_id (by omega) (by omega)]
  omega
theorem DhcpBack : ∀ (a0_0 : Int) (a0_1 : Int) (a0_2 : Int) (a0_3 : ByteArray) (a0_4 : Bool) (a0_5 : Int) (a0_6 : Int) (a0_7 : Bool) (a0_8 : Int) (a0_9 : Int) (a0_10 : Bool) (a0_11 : Int) (a0_12 : Int) (a0_13 : Bool) (l0_14 : List S61) (a1 : ByteArray) (a2 : Int), (Lit.int .i64 a0_0).wf = true → (Lit.int .i64 a0_1).wf = true → (Lit.int .i64 a0_2).wf = true → a0_3.size ≤ 140737488351232 → (Lit.int .u64 a0_5).wf = true → (Lit.int .u64 a0_6).wf = true → (Lit.int .u64 a0_8).wf = true → (Lit.int .u64 a0_9).wf = true → (Lit.int .u64 a0_11).wf = true → (Lit.int .u64 a0_12).wf = true → l0_14.length * 24 ≤ 140737488351232 → (∀ y ∈ l0_14, Wf61 y) → a1.size ≤ 140737488351232 → (Lit.int .i64 a2).wf = true → ∃ k, ddilaw36_DhcpBack.f k a0_0 a0_1 a0_2 a0_3 a0_4 a0_5 a0_6 a0_7 a0_8 a0_9 a0_10 a0_11 a0_12 a0_13 l0_14 a1 a2 = some true := by
  intro a0_0 a0_1 a0_2 a0_3 a0_4 a0_5 a0_6 a0_7 a0_8 a0_9 a0_10 a0_11 a0_12 a0_13 l0_14 a1 a2 w0 w1 w2 w3 w5 w6 w8 w9 w11 w12 hl hwf hs1 hw2
  have hx := (wf_u64 w6).1
  have hy := (wf_u64 w9).1
  have hz := (wf_u64 w12).1
  obtain ⟨a3, h3⟩ : ∃ a3, a3 = a0_3.extract 0 (min a0_3.size 100) := ⟨_, rfl⟩
  have hs := short_f a0_0 a0_1 a0_2 a0_3 a0_4 a0_5 a0_6 a0_7 a0_8 a0_9 a0_10 a0_11 a0_12 a0_13 l0_14 (by omega) 400000 (by omega)
  rw [← h3] at hs
  have hl1 := shl_length l0_14
  have hl2 := shl_size l0_14
  generalize shl l0_14 = l at hs hl1 hl2
  refine ⟨400000, ?_⟩
  have htail := back_tail (a1.extract 0 (min a1.size 3000)) (by rw [ByteArray.size_extract]; omega) 399999 (by decide)
  have htail2 := back_tail (a1.extract 0 (min a1.size 3000)) (by rw [ByteArray.size_extract]; omega) 400000 (by decide)
  have hl3 : ∀ o ∈ l, o.f1.size ≤ 140737488351232 := fun o ho => by have := hl2 o ho; omega
  have e1 := enc36_f a0_0 a0_1 a0_2 a3 ⟨a0_4, a0_5, a0_6⟩ ⟨a0_7, a0_8, a0_9⟩ ⟨a0_10, a0_11, a0_12⟩ a0_13 l hx hy hz hl3 400000 (by omega)
  have e3 := dvalid_f a0_0 a0_1 a0_2 a3 ⟨a0_4, a0_5, a0_6⟩ ⟨a0_7, a0_8, a0_9⟩ ⟨a0_10, a0_11, a0_12⟩ a0_13 l hx hy hz hl3 400000 (by omega)
  dsimp only at e1 e3
  unfold ddilaw36_DhcpBack.f
  rw [hs, Option.bind_some]
  dsimp only
  rw [mn_3000b, if_pos (by omega), if_pos (by omega), Int.toNat_natCast, e1, Option.bind_some, e3, Option.bind_some]
  by_cases hv : vpk a0_0 a0_1 a0_2 a3 ⟨a0_4, a0_5, a0_6⟩ ⟨a0_7, a0_8, a0_9⟩ ⟨a0_10, a0_11, a0_12⟩ a0_13 l = true
  · obtain ⟨hll, hsz, h22, hbig⟩ := vpk_sizes hv
    have e2 : encP a0_0 a0_1 a0_2 a3 ⟨a0_4, a0_5, a0_6⟩ ⟨a0_7, a0_8, a0_9⟩ ⟨a0_10, a0_11, a0_12⟩ a0_13 l = (B (hd36 a0_0 a0_1 a0_2 a3 ⟨a0_4, a0_5, a0_6⟩ ⟨a0_7, a0_8, a0_9⟩ ⟨a0_10, a0_11, a0_12⟩ a0_13 ++ enc (ab l)), 0) := by unfold encP; rw [if_pos hv]
    have hc := dec_cutP hv hx hy hz
    have hd := dec_encP hv hx hy hz
    dsimp only at hd
    rw [e2, hv]
    dsimp only
    generalize B (hd36 a0_0 a0_1 a0_2 a3 ⟨a0_4, a0_5, a0_6⟩ ⟨a0_7, a0_8, a0_9⟩ ⟨a0_10, a0_11, a0_12⟩ a0_13 ++ enc (ab l)) = s at *
    have hu : IntKind.u64.wrap (s.size : Int) = (s.size : Int) := by show (s.size : Int) % 18446744073709551616 = _; omega
    have hn : 0 ≤ IntKind.u64.wrap a2 := by show 0 ≤ a2 % 18446744073709551616; omega
    obtain ⟨hw, hlt⟩ := tmod_cut hn (show (0 : Int) < (s.size : Int) by omega) (show (s.size : Int) ≤ 100000 by omega)
    rw [if_neg (by decide), if_pos rfl, if_neg (by omega), dec36_f s hbig 400000 (by decide), Option.bind_some, hd, hu, if_neg (by omega), hw]
    generalize (IntKind.u64.wrap a2 % (s.size : Int)).toNat = n at *
    have hcn := hc n (by omega)
    rw [if_pos (by omega), if_pos (by omega), Int.toNat_natCast, dec36_f (s.extract 0 n) (by rw [ByteArray.size_extract]; omega) 400000 (by decide), Option.bind_some]
    dsimp only
    rw [same_f a0_0 a0_1 a0_2 a3 a0_4 a0_5 a0_6 a0_7 a0_8 a0_9 a0_10 a0_11 a0_12 a0_13 l (by omega) 400000 (by omega), Option.bind_some, if_pos rfl, if_pos rfl]
    rw [if_neg hcn]
    exact htail
  · have e2 : encP a0_0 a0_1 a0_2 a3 ⟨a0_4, a0_5, a0_6⟩ ⟨a0_7, a0_8, a0_9⟩ ⟨a0_10, a0_11, a0_12⟩ a0_13 l = (⟨#[]⟩, 1) := by unfold encP; rw [if_neg hv]
    rw [Bool.not_eq_true] at hv
    rw [e2, hv]
    dsimp only
    rw [if_neg (by decide), if_neg (by decide)]
    exact htail
end Go.Proofs.YtcoekgnbncocnaaDoor.Pure

