/- Addresses as bytes: what addr.Wire, addr.Read and the reference's Wire and Read answer for four bytes; option.Value, option.Addrs and the reference's. option.Addrs and the reference's Addrs, and the law's addrs: over lists of bytes. option.Number, option.Bytes and the reference's: they answer alike. The plain statement of the law OptionNumbers, for strings of at most 1048576 bytes (the second form). -/
import Derived.Test.YtkojlapefmcjnaaDoorBytes
import Derived.Laws.Bits64b
import Derived.Test.YtkojlapefmcjnaaDoorPax31
import Derived.Test.YtkojlapefmcjnaaDoorPax38
import Derived.Test.YtkojlapefmcjnaaDoorPax32
import Derived.Test.YtkojlapefmcjnaaDoorPax33
import Derived.Test.YtkojlapefmcjnaaDoorPax39
import Derived.Test.YtkojlapefmcjnaaDoorPax15
import Derived.Test.YtkojlapefmcjnaaDoorPax16
import Derived.Test.YtkojlapefmcjnaaDoorPax35
import Derived.Test.YtkojlapefmcjnaaDoorPax36
import Derived.Test.YtkojlapefmcjnaaDoorPax37
import Derived.Test.YtkojlapefmcjnaaDoorRefs
import Derived.Test.YtkojlapefmcjnaaDoorPax40
namespace Go.Proofs.YtkojlapefmcjnaaDoor.ADR
open Go Go.RowKit Go.Proofs.YtkojlapefmcjnaaDoorW.PrintWords Go.Proofs.YtkojlapefmcjnaaDoorW.PrintLast Go.Proofs.YtkojlapefmcjnaaDoorW.PrintMore Go.Proofs.YtkojlapefmcjnaaDoor.DN Go.Proofs.YtkojlapefmcjnaaDoor.Pa
set_option linter.unusedVariables false
set_option linter.unusedSimpArgs false

theorem up {α : Type} {f : Nat → Option α} (h : ∀ k, LeO (f k) (f (k + 1))) {K k : Nat} {r : α} (hk : K ≤ k) (hr : f K = some r) : f k = some r := by
  obtain ⟨d, rfl⟩ := Nat.exists_eq_add_of_le hk
  clear hk
  induction d with
  | zero => exact hr
  | succ d ih => exact h _ _ ih
theorem or_add (n b : Nat) (hb : b < 256) : (n * 256) ||| b = n * 256 + b := by
  have := Nat.two_pow_add_eq_or_of_lt (i := 8) hb n
  rw [show 2 ^ 8 * n = n * 256 by omega] at this
  exact this.symm
set_option maxRecDepth 100000 in
theorem or_u64 (n b : Nat) (hb : b < 256) (hn : n * 256 + b < 18446744073709551616) : bits .or .u64 ((n * 256 : Nat) : Int) ((b : Nat) : Int) = ((n * 256 + b : Nat) : Int) := by
  rw [bits_or_u64_nat _ _ (by omega) (by omega), or_add n b hb]
set_option maxRecDepth 100000 in
theorem or_i64 (n b : Nat) (hb : b < 256) (hn : n * 256 + b < 9223372036854775808) : bits .or .i64 ((n * 256 : Nat) : Int) ((b : Nat) : Int) = ((n * 256 + b : Nat) : Int) := by
  have h1 : (BitVec.ofInt 64 ((n * 256 : Nat) : Int)).toNat = n * 256 := by
    rw [BitVec.ofInt_natCast, BitVec.toNat_ofNat]; exact Nat.mod_eq_of_lt (by omega)
  have h2 : (BitVec.ofInt 64 (b : Int)).toNat = b := by
    rw [BitVec.ofInt_natCast, BitVec.toNat_ofNat]; exact Nat.mod_eq_of_lt (by omega)
  show IntKind.i64.wrap ((BitVec.ofInt 64 ((n * 256 : Nat) : Int) ||| BitVec.ofInt 64 (b : Int)).toNat : Int) = _
  rw [BitVec.toNat_or, h1, h2, or_add n b hb, i64_w, wrap_id (by omega) (by omega)]
theorem wu {x : Int} (h0 : 0 ≤ x) (h1 : x < 18446744073709551616) : IntKind.u64.wrap x = x := by rw [IntKind.wrap_u64]; omega

def val4 (a b c d : UInt8) : Nat := ((a.toNat * 256 + b.toNat) * 256 + c.toNat) * 256 + d.toNat
theorem val4_lt (a b c d : UInt8) : val4 a b c d < 4294967296 := by
  have := a.toNat_lt; have := b.toNat_lt; have := c.toNat_lt; have := d.toNat_lt
  unfold val4; omega
theorem value4 (a b c d : UInt8) (k : Nat) (hk : 20 ≤ k) : addr_value.f k (B [a, b, c, d]) = some (val4 a b c d : Int) := by
  refine up (fun k => addr_value.mono _ k) hk ?_
  have h : addr_value.f 20 (B [a, b, c, d]) = some (bits .or .u64 (IntKind.u64.wrap (bits .or .u64 (IntKind.u64.wrap (bits .or .u64 (IntKind.u64.wrap (bits .or .u64 (IntKind.u64.wrap (0 * 256)) (IntKind.u64.wrap (a.toNat : Int)) * 256)) (IntKind.u64.wrap (b.toNat : Int)) * 256)) (IntKind.u64.wrap (c.toNat : Int)) * 256)) (IntKind.u64.wrap (d.toNat : Int))) := by kernel_rfl
  have ha := a.toNat_lt; have hb := b.toNat_lt; have hc := c.toNat_lt; have hd := d.toNat_lt
  rw [h, wu (x := (a.toNat : Int)) (by omega) (by omega), wu (x := (b.toNat : Int)) (by omega) (by omega), wu (x := (c.toNat : Int)) (by omega) (by omega), wu (x := (d.toNat : Int)) (by omega) (by omega)]
  rw [show IntKind.u64.wrap (0 * 256) = ((0 * 256 : Nat) : Int) from rfl, or_u64 0 a.toNat ha (by omega)]
  have s : ∀ n : Nat, n * 256 < 18446744073709551616 → IntKind.u64.wrap ((n : Int) * 256) = ((n * 256 : Nat) : Int) := fun n hn => by rw [wu (by omega) (by omega)]; omega
  rw [s _ (by omega), or_u64 _ b.toNat hb (by omega), s _ (by omega), or_u64 _ c.toNat hc (by omega), s _ (by omega), or_u64 _ d.toNat hd (by omega)]
  unfold val4
  rw [show 0 * 256 + a.toNat = a.toNat by omega]
theorem rvalue4 (a b c d : UInt8) (k : Nat) (hk : 20 ≤ k) : ddiref02_value.f k (B [a, b, c, d]) = some (val4 a b c d : Int) := by
  refine up (fun k => ddiref02_value.mono _ k) hk ?_
  have h : ddiref02_value.f 20 (B [a, b, c, d]) = some (IntKind.u64.wrap (IntKind.u64.wrap (IntKind.u64.wrap (IntKind.u64.wrap (IntKind.u64.wrap (IntKind.u64.wrap (IntKind.u64.wrap (IntKind.u64.wrap (0 * 256) + IntKind.u64.wrap (a.toNat : Int)) * 256) + IntKind.u64.wrap (b.toNat : Int)) * 256) + IntKind.u64.wrap (c.toNat : Int)) * 256) + IntKind.u64.wrap (d.toNat : Int))) := by kernel_rfl
  have ha := a.toNat_lt; have hb := b.toNat_lt; have hc := c.toNat_lt; have hd := d.toNat_lt
  rw [h, wu (x := (a.toNat : Int)) (by omega) (by omega), wu (x := (b.toNat : Int)) (by omega) (by omega), wu (x := (c.toNat : Int)) (by omega) (by omega), wu (x := (d.toNat : Int)) (by omega) (by omega)]
  rw [show IntKind.u64.wrap (0 * 256) = 0 from rfl]
  rw [wu (x := 0 + (a.toNat : Int)) (by omega) (by omega)]
  rw [wu (x := (0 + (a.toNat : Int)) * 256) (by omega) (by omega)]
  rw [wu (x := (0 + (a.toNat : Int)) * 256 + (b.toNat : Int)) (by omega) (by omega)]
  rw [wu (x := ((0 + (a.toNat : Int)) * 256 + (b.toNat : Int)) * 256) (by omega) (by omega)]
  rw [wu (x := ((0 + (a.toNat : Int)) * 256 + (b.toNat : Int)) * 256 + (c.toNat : Int)) (by omega) (by omega)]
  rw [wu (x := (((0 + (a.toNat : Int)) * 256 + (b.toNat : Int)) * 256 + (c.toNat : Int)) * 256) (by omega) (by omega)]
  rw [wu (x := (((0 + (a.toNat : Int)) * 256 + (b.toNat : Int)) * 256 + (c.toNat : Int)) * 256 + (d.toNat : Int)) (by omega) (by omega)]
  unfold val4
  refine congrArg some ?_
  omega
theorem four_of {s : ByteArray} (h : s.size = 4) : ∃ a b c d, s = B [a, b, c, d] := by
  have hl : (L s).length = 4 := by rw [L_len, h]
  match hs : L s, hl with
  | [a, b, c, d], _ => exact ⟨a, b, c, d, by rw [← hs, B_L]⟩
theorem read4 (a b c d : UInt8) (k : Nat) (hk : 20 ≤ k) : addr_Read.f k (B [a, b, c, d]) = some (false, 0, (val4 a b c d : Int), 0) := by
  unfold addr_Read.f
  rw [if_pos (by rw [B_size]; rfl), value4 a b c d k hk]; rfl
theorem rread4 (a b c d : UInt8) (k : Nat) (hk : 20 ≤ k) : ddiref02_Read.f k (B [a, b, c, d]) = some (false, 0, (val4 a b c d : Int), 0) := by
  unfold ddiref02_Read.f
  rw [if_neg (by rw [B_size]; simp only [List.length_cons, List.length_nil]; omega), if_neg (by rw [B_size]; simp only [List.length_cons, List.length_nil]; omega), if_pos (by rw [B_size]; rfl), rvalue4 a b c d k hk]; rfl

def word (n : Int) : List UInt8 := [UInt8.ofNat (n / 16777216 % 256).toNat, UInt8.ofNat (n / 65536 % 256).toNat, UInt8.ofNat (n / 256 % 256).toNat, UInt8.ofNat (n % 256).toNat]
theorem word_val {n : Int} (h0 : 0 ≤ n) (h1 : n ≤ 4294967295) : (val4 (UInt8.ofNat (n / 16777216 % 256).toNat) (UInt8.ofNat (n / 65536 % 256).toNat) (UInt8.ofNat (n / 256 % 256).toNat) (UInt8.ofNat (n % 256).toNat) : Int) = n := by
  have e : ∀ x : Nat, x < 256 → (UInt8.ofNat x).toNat = x := fun x hx => by rw [UInt8.toNat_ofNat']; omega
  unfold val4
  rw [e _ (by omega), e _ (by omega), e _ (by omega), e _ (by omega)]
  omega
theorem L_nums (l : List Int) : L (strOfNums l) = l.map fun n => UInt8.ofNat n.toNat := rfl
theorem nums_size (l : List Int) : (strOfNums l).size = l.length := by rw [← L_len, L_nums, List.length_map]
theorem rdA {l : List S49} {i : Nat} (h : i < l.length) : rd_T49 l (i : Int) = l[i] := by unfold rd_T49; simp [h]
theorem wsc {i : Nat} (h : i < 9223372036854775806) : wrap64 ((i : Int) + 1) = ((i + 1 : Nat) : Int) := by rw [wrap_id (by omega) (by omega)]; rfl
theorem dropA {α : Type} {l : List α} {i : Nat} (h : i < l.length) : l.drop i = l[i] :: l.drop (i + 1) := by rw [List.drop_eq_getElem_cons h]
end Go.Proofs.YtkojlapefmcjnaaDoor.ADR

namespace Go.Proofs.YtkojlapefmcjnaaDoor.ADR
open Go Go.RowKit Go.Proofs.YtkojlapefmcjnaaDoorW.PrintWords Go.Proofs.YtkojlapefmcjnaaDoorW.PrintLast Go.Proofs.YtkojlapefmcjnaaDoorW.PrintMore Go.Proofs.YtkojlapefmcjnaaDoor.DN Go.Proofs.YtkojlapefmcjnaaDoor.Pa
set_option linter.unusedVariables false
set_option linter.unusedSimpArgs false

def adrs : List UInt8 → List S49
  | a :: b :: c :: d :: r => ⟨false, 0, (val4 a b c d : Int)⟩ :: adrs r
  | _ => []
theorem adrs_len : ∀ (n : Nat) (l : List UInt8), l.length ≤ n → (adrs l).length ≤ l.length / 4
  | 0, l, h => by have : l = [] := List.length_eq_zero_iff.1 (by omega); subst this; simp [adrs]
  | n + 1, l, h => by
    match l with
    | [] => simp [adrs]
    | [_] => simp [adrs]
    | [_, _] => simp [adrs]
    | [_, _, _] => simp [adrs]
    | a :: b :: c :: d :: r => have := adrs_len n r (by simp at h; omega); simp only [adrs, List.length_cons]; omega
theorem cut4 (s : ByteArray) (i : Nat) (h : i + 4 ≤ s.size) : ∃ a b c d, s.extract i (i + 4) = B [a, b, c, d] ∧ (L s).drop i = a :: b :: c :: d :: (L s).drop (i + 4) := by
  obtain ⟨a, b, c, d, e⟩ := four_of (s := s.extract i (i + 4)) (by rw [ByteArray.size_extract]; omega)
  refine ⟨a, b, c, d, e, ?_⟩
  have h1 : ((L s).drop i).take 4 = [a, b, c, d] := by
    have := congrArg L e
    rw [L_extract, L_B, show i + 4 - i = 4 by omega] at this; exact this
  have h2 := List.take_append_drop 4 ((L s).drop i)
  rw [h1, List.drop_drop] at h2
  exact h2.symm
theorem w4 {i : Nat} (h : i < 9223372036854775800) : wrap64 ((i : Int) + 4) = ((i + 4 : Nat) : Int) := by rw [wrap_id (by omega) (by omega)]; rfl
theorem addrs_l (s : ByteArray) (hs : s.size ≤ 20000000000000) : ∀ (n k i : Nat) (acc : List S49), s.size - i ≤ 4 * n → n + 40 < k → i ≤ s.size → (s.size - i) % 4 = 0 → acc.length * 4 ≤ i →
    option_Addrs.l0 k s acc (i : Int) = some (acc ++ adrs ((L s).drop i), true) := by
  intro n
  induction n with
  | zero =>
    intro k i acc hn hk hi hm ha
    obtain ⟨k, rfl⟩ : ∃ q, k = q + 1 := ⟨k - 1, by omega⟩
    rw [option_Addrs.l0, if_neg (by omega), List.drop_eq_nil_of_le (by rw [L_len]; omega)]; simp [adrs]
  | succ n ih =>
    intro k i acc hn hk hi hm ha
    obtain ⟨k, rfl⟩ : ∃ q, k = q + 1 := ⟨k - 1, by omega⟩
    by_cases hlt : i < s.size
    · obtain ⟨a, b, c, d, e1, e2⟩ := cut4 s i (by omega)
      rw [option_Addrs.l0, if_pos (by omega), if_pos (by omega), w4 (by omega), if_pos (by omega), if_pos (by omega), Int.toNat_natCast, Int.toNat_natCast, e1, read4 a b c d k (by omega), Option.bind_some, if_pos rfl]
      rw [if_pos (by omega), ih k (i + 4) _ (by omega) (by omega) (by omega) (by omega) (by simp; omega), e2, adrs]; simp
    · rw [option_Addrs.l0, if_neg (by omega), List.drop_eq_nil_of_le (by rw [L_len]; omega)]; simp [adrs]
theorem addrs_f (s : ByteArray) (hs : s.size ≤ 20000000000000) (k : Nat) (hk : s.size + 100 < k) : option_Addrs.f k s = some (if s.size = 0 ∨ s.size % 4 ≠ 0 then ([], false) else (adrs (L s), true)) := by
  obtain ⟨k, rfl⟩ : ∃ q, k = q + 1 := ⟨k - 1, by omega⟩
  unfold option_Addrs.f
  by_cases h0 : s.size = 0
  · rw [if_pos (by rw [toList_L]; exact List.length_eq_zero_iff.1 (by rw [L_len]; exact h0)), option_Addrs.j0, if_pos rfl, if_pos (.inl h0)]
  rw [if_neg (by rw [toList_L]; intro e; apply h0; rw [← L_len, e]; rfl), option_Addrs.j0]
  by_cases h1 : s.size % 4 = 0
  · rw [if_neg (by simp; omega), if_neg (by omega)]
    have := addrs_l s hs s.size k 0 [] (by omega) (by omega) (by omega) (by omega) (by simp)
    simpa using this
  · rw [if_pos (by simp; omega), if_pos (.inr h1)]
theorem raddrs_l (s : ByteArray) (hs : s.size ≤ 20000000000000) : ∀ (n k i : Nat) (acc : List S49), s.size - i ≤ 4 * n → n + 40 < k → i ≤ s.size → (s.size - i) % 4 = 0 → acc.length * 4 ≤ i →
    ddiref35_Addrs.l0 k s acc (i : Int) = some (acc ++ adrs ((L s).drop i), true) := by
  intro n
  induction n with
  | zero =>
    intro k i acc hn hk hi hm ha
    obtain ⟨k, rfl⟩ : ∃ q, k = q + 1 := ⟨k - 1, by omega⟩
    rw [ddiref35_Addrs.l0, if_neg (by omega), List.drop_eq_nil_of_le (by rw [L_len]; omega)]; simp [adrs]
  | succ n ih =>
    intro k i acc hn hk hi hm ha
    obtain ⟨k, rfl⟩ : ∃ q, k = q + 1 := ⟨k - 1, by omega⟩
    by_cases hlt : i < s.size
    · obtain ⟨a, b, c, d, e1, e2⟩ := cut4 s i (by omega)
      rw [ddiref35_Addrs.l0, if_pos (by omega), if_pos (by omega), w4 (by omega), if_pos (by omega), if_pos (by omega), Int.toNat_natCast, Int.toNat_natCast, e1, rread4 a b c d k (by omega), Option.bind_some]
      rw [if_pos (by omega), ih k (i + 4) _ (by omega) (by omega) (by omega) (by omega) (by simp; omega), e2, adrs]; simp
    · rw [ddiref35_Addrs.l0, if_neg (by omega), List.drop_eq_nil_of_le (by rw [L_len]; omega)]; simp [adrs]
theorem raddrs_f (s : ByteArray) (hs : s.size ≤ 20000000000000) (k : Nat) (hk : s.size + 100 < k) : ddiref35_Addrs.f k s = some (if s.size = 0 ∨ s.size % 4 ≠ 0 then ([], false) else (adrs (L s), true)) := by
  obtain ⟨k, rfl⟩ : ∃ q, k = q + 1 := ⟨k - 1, by omega⟩
  unfold ddiref35_Addrs.f
  by_cases h0 : s.size = 0
  · rw [if_pos (by omega), ddiref35_Addrs.j0, if_pos rfl, if_pos (.inl h0)]
  rw [if_neg (by omega), ddiref35_Addrs.j0]
  by_cases h1 : s.size % 4 = 0
  · rw [if_neg (by simp; omega), if_neg (by omega)]
    have := raddrs_l s hs s.size k 0 [] (by omega) (by omega) (by omega) (by omega) (by simp)
    simpa using this
  · rw [if_pos (by simp; omega), if_pos (.inr h1)]
theorem laddrs_l (l : List S49) (hl : l.length ≤ 5864062014900) : ∀ (n k i : Nat), l.length - i ≤ n → n < k → i ≤ l.length → ddilaw35_addrs.l0 k l l (i : Int) = some true := by
  intro n
  induction n with
  | zero =>
    intro k i hn hk hi
    obtain ⟨k, rfl⟩ : ∃ q, k = q + 1 := ⟨k - 1, by omega⟩
    rw [ddilaw35_addrs.l0, if_neg (by omega)]
  | succ n ih =>
    intro k i hn hk hi
    obtain ⟨k, rfl⟩ : ∃ q, k = q + 1 := ⟨k - 1, by omega⟩
    by_cases hlt : i < l.length
    · rw [ddilaw35_addrs.l0, if_pos (by omega), if_pos (by omega), if_pos (by omega), if_neg (by simp), wsc (by omega)]
      exact ih k (i + 1) (by omega) (by omega) (by omega)
    · rw [ddilaw35_addrs.l0, if_neg (by omega)]
theorem laddrs_f (l : List S49) (hl : l.length ≤ 5864062014900) (k : Nat) (hk : l.length < k) : ddilaw35_addrs.f k l l = some true := by
  unfold ddilaw35_addrs.f
  rw [if_pos rfl]
  exact laddrs_l l hl l.length k 0 (by omega) hk (by omega)
end Go.Proofs.YtkojlapefmcjnaaDoor.ADR

namespace Go.Proofs.YtkojlapefmcjnaaDoor.ADR
open Go Go.RowKit Go.Proofs.YtkojlapefmcjnaaDoorW.PrintWords Go.Proofs.YtkojlapefmcjnaaDoorW.PrintLast Go.Proofs.YtkojlapefmcjnaaDoorW.PrintMore Go.Proofs.YtkojlapefmcjnaaDoor.DN Go.Proofs.YtkojlapefmcjnaaDoor.Pa
set_option linter.unusedVariables false
set_option linter.unusedSimpArgs false

theorem wbt (c : UInt8) : wrap64 ((c.toNat : Nat) : Int) = ((c.toNat : Nat) : Int) := by have := c.toNat_lt; exact wrap_id (by omega) (by omega)
theorem wm {n : Nat} (h : n * 256 < 9223372036854775807) : wrap64 ((n : Int) * 256) = ((n * 256 : Nat) : Int) := by rw [wrap_id (by omega) (by omega)]; omega
theorem wma {n b : Nat} (h : n * 256 + b < 9223372036854775807) : wrap64 (wrap64 (256 * (n : Int)) + (b : Int)) = ((n * 256 + b : Nat) : Int) := by
  rw [show wrap64 (256 * (n : Int)) = 256 * (n : Int) from wrap_id (by omega) (by omega), wrap_id (by omega) (by omega)]; omega
def foldN (l : List UInt8) (n : Nat) : Nat := l.foldl (fun n b => n * 256 + b.toNat) n
theorem dropN {α : Type} {l : List α} {i : Nat} (h : i < l.length) : l.drop i = l[i] :: l.drop (i + 1) := by rw [List.drop_eq_getElem_cons h]
theorem num_l (s : ByteArray) (hs : s.size ≤ 4) : ∀ (n k i acc : Nat), s.size - i ≤ n → n < k → i ≤ s.size → (acc + 1) * 256 ^ (s.size - i) ≤ 4294967296 →
    option_Number.l0 k s (acc : Int) (i : Int) = some (((foldN ((L s).drop i) acc : Nat) : Int), true)
    ∧ ddiref35_Number.l0 k s (acc : Int) (i : Int) = some (((foldN ((L s).drop i) acc : Nat) : Int), true) := by
  intro n
  induction n with
  | zero =>
    intro k i acc hn hk hi hb
    obtain ⟨k, rfl⟩ : ∃ q, k = q + 1 := ⟨k - 1, by omega⟩
    rw [option_Number.l0, if_neg (by omega), ddiref35_Number.l0, if_neg (by omega), List.drop_eq_nil_of_le (by rw [L_len]; omega)]; exact ⟨rfl, rfl⟩
  | succ n ih =>
    intro k i acc hn hk hi hb
    obtain ⟨k, rfl⟩ : ∃ q, k = q + 1 := ⟨k - 1, by omega⟩
    by_cases hlt : i < s.size
    · have hL : i < (L s).length := by rw [L_len]; exact hlt
      obtain ⟨c, hc⟩ : ∃ c, c = (L s)[i] := ⟨_, rfl⟩
      have hclt := c.toNat_lt
      obtain ⟨d, hd⟩ : ∃ d, s.size - i = d + 1 := ⟨s.size - i - 1, by omega⟩
      have hp : 256 ^ (s.size - i) = 256 * 256 ^ (s.size - (i + 1)) := by rw [hd, show s.size - (i + 1) = d by omega, Nat.pow_succ, Nat.mul_comm]
      have hpos : 0 < 256 ^ (s.size - (i + 1)) := Nat.pow_pos (by decide)
      have hacc : (acc + 1) * 256 ≤ 4294967296 := by
        rw [hp, ← Nat.mul_assoc] at hb
        exact Nat.le_trans (Nat.le_mul_of_pos_right _ hpos) hb
      have hb2 : (acc * 256 + c.toNat + 1) * 256 ^ (s.size - (i + 1)) ≤ 4294967296 := by
        rw [hp, ← Nat.mul_assoc] at hb
        exact Nat.le_trans (Nat.mul_le_mul_right _ (by omega)) hb
      have := ih k (i + 1) (acc * 256 + c.toNat) (by omega) (by omega) (by omega) hb2
      rw [option_Number.l0, if_pos (by omega), if_pos (by omega), ddiref35_Number.l0, if_pos (by omega), if_pos (by omega), bt_L s i hL, dropN hL, ← hc, wbt, wm (by omega), or_i64 acc c.toNat hclt (by omega), wma (by omega), wsc (by omega), show foldN (c :: (L s).drop (i + 1)) acc = foldN ((L s).drop (i + 1)) (acc * 256 + c.toNat) from rfl]
      exact this
    · rw [option_Number.l0, if_neg (by omega), ddiref35_Number.l0, if_neg (by omega), List.drop_eq_nil_of_le (by rw [L_len]; omega)]; exact ⟨rfl, rfl⟩
theorem isSize_f (n : Int) : option_isSize.f n = some (decide (n = 1 ∨ n = 2 ∨ n = 4)) := by
  unfold option_isSize.f
  by_cases h1 : n = 1
  · rw [if_pos h1, decide_eq_true (.inl h1)]
  rw [if_neg h1]
  by_cases h2 : n = 2
  · rw [if_pos h2, decide_eq_true (.inr (.inl h2))]
  rw [if_neg h2]
  congr 1
  rw [Bool.eq_iff_iff, decide_eq_true_iff]
  simp [h1, h2]
theorem num_alike (s : ByteArray) (k : Nat) (hk : 100 < k) : ∃ r, option_Number.f k s = some r ∧ ddiref35_Number.f k s = some r := by
  obtain ⟨k, rfl⟩ : ∃ q, k = q + 1 := ⟨k - 1, by omega⟩
  by_cases h : s.size = 1 ∨ s.size = 2 ∨ s.size = 4
  · have hp : (0 + 1) * 256 ^ (s.size - 0) ≤ 4294967296 := by rcases h with h | h | h <;> rw [h] <;> decide
    have h0 : (1 : Nat) ≤ s.size ∧ s.size ≤ 4 := by omega
    have a := num_l s h0.2 s.size (k + 1) 0 0 (by omega) (by omega) (by omega) hp
    have b := num_l s h0.2 s.size k 0 0 (by omega) (by omega) (by omega) hp
    refine ⟨(((foldN ((L s).drop 0) 0 : Nat) : Int), true), ?_, ?_⟩
    · unfold option_Number.f
      rw [isSize_f, Option.bind_some, if_pos (decide_eq_true (by omega))]
      exact a.1
    · unfold ddiref35_Number.f
      rcases h with h | h | h
      · rw [if_pos (by omega), ddiref35_Number.j0, if_neg (by decide)]; exact b.2
      · rw [if_neg (by omega), if_pos (by omega), ddiref35_Number.j0, if_neg (by decide)]; exact b.2
      · rw [if_neg (by omega), if_neg (by omega), ddiref35_Number.j0, if_neg (by rw [h]; decide)]; exact b.2
  · refine ⟨(0, false), ?_, ?_⟩
    · unfold option_Number.f
      rw [isSize_f, Option.bind_some, if_neg (by rw [decide_eq_false (by omega)]; decide)]
    · unfold ddiref35_Number.f
      rw [if_neg (by omega), if_neg (by omega), ddiref35_Number.j0, if_pos (by simp; omega)]

theorem bytes_alike (n z : Int) (h0 : -9223372036854775808 ≤ n) (h1 : n ≤ 9223372036854775807) (hz0 : -9223372036854775808 ≤ z) (hz1 : z ≤ 9223372036854775807) (k : Nat) (hk : 100 < k) : ∃ r, option_Bytes.f k n z = some r ∧ ddiref35_Bytes.f k n z = some r := by
  by_cases hz : z = 1 ∨ z = 2 ∨ z = 4
  · by_cases hn : n < 0
    · refine ⟨(⟨#[]⟩, false), ?_, ?_⟩
      · obtain ⟨k, rfl⟩ : ∃ q, k = q + 1 := ⟨k - 1, by omega⟩
        unfold option_Bytes.f
        rw [isSize_f, Option.bind_some, if_pos (decide_eq_true hz), if_pos hn, option_Bytes.j0, if_pos rfl]
      · obtain ⟨k, rfl⟩ : ∃ q, k = q + 1 := ⟨k - 1, by omega⟩
        unfold ddiref35_Bytes.f
        rw [decide_eq_true hn]
        rcases hz with rfl | rfl | rfl
        · rw [if_pos rfl, ddiref35_Bytes.j0, if_pos rfl]
        · rw [if_neg (by decide), if_pos rfl, ddiref35_Bytes.j0, if_pos rfl]
        · rw [if_neg (by decide), if_neg (by decide), if_pos rfl, ddiref35_Bytes.j0, if_pos rfl]
    · have d1 : wrap64 (Int.tdiv n 256) = n / 256 := by rw [Int.tdiv_eq_ediv_of_nonneg (by omega), wrap_id (by omega) (by omega)]
      have d2 : wrap64 (Int.tdiv (n / 256) 256) = n / 65536 := by rw [Int.tdiv_eq_ediv_of_nonneg (by omega), wrap_id (by omega) (by omega)]; omega
      have d3 : wrap64 (Int.tdiv (n / 65536) 256) = n / 16777216 := by rw [Int.tdiv_eq_ediv_of_nonneg (by omega), wrap_id (by omega) (by omega)]; omega
      have d4 : wrap64 (Int.tdiv (n / 16777216) 256) = n / 4294967296 := by rw [Int.tdiv_eq_ediv_of_nonneg (by omega), wrap_id (by omega) (by omega)]; omega
      have tm : ∀ x : Int, 0 ≤ x → Int.tmod x 256 % 256 = x % 256 := fun x hx => by rw [Int.tmod_eq_emod_of_nonneg hx]; omega
      have key : ∀ {f : Nat → Option (ByteArray × Bool)} {g : Nat → Option (ByteArray × Bool)} {r}, (∀ k, LeO (f k) (f (k + 1))) → (∀ k, LeO (g k) (g (k + 1))) → f 40 = some r → g 40 = some r → ∃ r, f k = some r ∧ g k = some r :=
        fun hf hg h1 h2 => ⟨_, up hf (by omega) h1, up hg (by omega) h2⟩
      have hs1 : shl .i64 1 (IntKind.u64.wrap (wrap64 (8 * 1))) = 256 := by decide +kernel
      have hs2 : shl .i64 1 (IntKind.u64.wrap (wrap64 (8 * 2))) = 65536 := by decide +kernel
      rcases hz with rfl | rfl | rfl
      · by_cases hb : n < 256
        · refine key (r := (B [UInt8.ofNat (n % 256).toNat], true)) (fun k => option_Bytes.mono _ _ k) (fun k => ddiref35_Bytes.mono _ _ k) ?_ ?_
          · unfold option_Bytes.f
            rw [isSize_f, Option.bind_some, if_pos (by decide), if_neg hn, if_pos (by decide +kernel), show decide (n ≥ shl .i64 1 (IntKind.u64.wrap (wrap64 (8 * 1)))) = false from decide_eq_false (by rw [hs1]; omega)]
            have : option_Bytes.j0 40 n 1 false = some (strOfNums [n / 1 % 256], true) := by kernel_rfl
            rw [this, Int.ediv_one]; rfl
          · unfold ddiref35_Bytes.f
            rw [if_pos rfl, decide_eq_false hn]
            have : ddiref35_Bytes.j0 40 n 1 false = if wrap64 (Int.tdiv n 256) > 0 then some (⟨#[]⟩, false) else some (strOfNums [Int.tmod n 256 % 256] ++ ⟨#[]⟩, true) := by kernel_rfl
            rw [this, d1, if_neg (by omega), tm n (by omega)]
            refine congrArg (fun z => some (z, true)) (L_inj ?_)
            rw [L_append, L_nums, L_B]; rfl
        · refine key (r := (⟨#[]⟩, false)) (fun k => option_Bytes.mono _ _ k) (fun k => ddiref35_Bytes.mono _ _ k) ?_ ?_
          · unfold option_Bytes.f
            rw [isSize_f, Option.bind_some, if_pos (by decide), if_neg hn, if_pos (by decide +kernel), show decide (n ≥ shl .i64 1 (IntKind.u64.wrap (wrap64 (8 * 1)))) = true from decide_eq_true (by rw [hs1]; omega)]
            rfl
          · unfold ddiref35_Bytes.f
            rw [if_pos rfl, decide_eq_false hn]
            have : ddiref35_Bytes.j0 40 n 1 false = if wrap64 (Int.tdiv n 256) > 0 then some (⟨#[]⟩, false) else some (strOfNums [Int.tmod n 256 % 256] ++ ⟨#[]⟩, true) := by kernel_rfl
            rw [this, d1, if_pos (by omega)]
      · by_cases hb : n < 65536
        · refine key (r := (B [UInt8.ofNat (n / 256 % 256).toNat, UInt8.ofNat (n % 256).toNat], true)) (fun k => option_Bytes.mono _ _ k) (fun k => ddiref35_Bytes.mono _ _ k) ?_ ?_
          · unfold option_Bytes.f
            rw [isSize_f, Option.bind_some, if_pos (by decide), if_neg hn, if_pos (by decide +kernel), show decide (n ≥ shl .i64 1 (IntKind.u64.wrap (wrap64 (8 * 2)))) = false from decide_eq_false (by rw [hs2]; omega)]
            have : option_Bytes.j0 40 n 2 false = some (strOfNums [n / 256 % 256, n / 1 % 256], true) := by kernel_rfl
            rw [this, Int.ediv_one]; rfl
          · unfold ddiref35_Bytes.f
            rw [if_neg (by decide), if_pos rfl, decide_eq_false hn]
            have : ddiref35_Bytes.j0 40 n 2 false = if wrap64 (Int.tdiv (wrap64 (Int.tdiv n 256)) 256) > 0 then some (⟨#[]⟩, false) else some (strOfNums [Int.tmod (wrap64 (Int.tdiv n 256)) 256 % 256] ++ (strOfNums [Int.tmod n 256 % 256] ++ ⟨#[]⟩), true) := by kernel_rfl
            rw [this, d1, d2, if_neg (by omega), tm n (by omega), tm (n / 256) (by omega)]
            refine congrArg (fun z => some (z, true)) (L_inj ?_)
            rw [L_append, L_append, L_nums, L_nums, L_B]; rfl
        · refine key (r := (⟨#[]⟩, false)) (fun k => option_Bytes.mono _ _ k) (fun k => ddiref35_Bytes.mono _ _ k) ?_ ?_
          · unfold option_Bytes.f
            rw [isSize_f, Option.bind_some, if_pos (by decide), if_neg hn, if_pos (by decide +kernel), show decide (n ≥ shl .i64 1 (IntKind.u64.wrap (wrap64 (8 * 2)))) = true from decide_eq_true (by rw [hs2]; omega)]
            rfl
          · unfold ddiref35_Bytes.f
            rw [if_neg (by decide), if_pos rfl, decide_eq_false hn]
            have : ddiref35_Bytes.j0 40 n 2 false = if wrap64 (Int.tdiv (wrap64 (Int.tdiv n 256)) 256) > 0 then some (⟨#[]⟩, false) else some (strOfNums [Int.tmod (wrap64 (Int.tdiv n 256)) 256 % 256] ++ (strOfNums [Int.tmod n 256 % 256] ++ ⟨#[]⟩), true) := by kernel_rfl
            rw [this, d1, d2, if_pos (by omega)]
      · have hs4 : shl .i64 1 (IntKind.u64.wrap (wrap64 (8 * 4))) = 4294967296 := by decide +kernel
        have hr : ddiref35_Bytes.j0 40 n 4 false = if wrap64 (Int.tdiv (wrap64 (Int.tdiv (wrap64 (Int.tdiv (wrap64 (Int.tdiv n 256)) 256)) 256)) 256) > 0 then some (⟨#[]⟩, false) else some (strOfNums [Int.tmod (wrap64 (Int.tdiv (wrap64 (Int.tdiv (wrap64 (Int.tdiv n 256)) 256)) 256)) 256 % 256] ++ (strOfNums [Int.tmod (wrap64 (Int.tdiv (wrap64 (Int.tdiv n 256)) 256)) 256 % 256] ++ (strOfNums [Int.tmod (wrap64 (Int.tdiv n 256)) 256 % 256] ++ (strOfNums [Int.tmod n 256 % 256] ++ ⟨#[]⟩))), true) := by kernel_rfl
        by_cases hb : n < 4294967296
        · refine key (r := (B (word n), true)) (fun k => option_Bytes.mono _ _ k) (fun k => ddiref35_Bytes.mono _ _ k) ?_ ?_
          · unfold option_Bytes.f
            rw [isSize_f, Option.bind_some, if_pos (by decide), if_neg hn, if_pos (by decide +kernel), show decide (n ≥ shl .i64 1 (IntKind.u64.wrap (wrap64 (8 * 4)))) = false from decide_eq_false (by rw [hs4]; omega)]
            have : option_Bytes.j0 40 n 4 false = some (strOfNums [n / 16777216 % 256, n / 65536 % 256, n / 256 % 256, n / 1 % 256], true) := by kernel_rfl
            rw [this, Int.ediv_one]; rfl
          · unfold ddiref35_Bytes.f
            rw [if_neg (by decide), if_neg (by decide), if_pos rfl, decide_eq_false hn, hr, d1, d2, d3, d4, if_neg (by omega), tm n (by omega), tm (n / 256) (by omega), tm (n / 65536) (by omega), tm (n / 16777216) (by omega)]
            refine congrArg (fun z => some (z, true)) (L_inj ?_)
            rw [L_append, L_append, L_append, L_append, L_nums, L_nums, L_nums, L_nums, L_B]; rfl
        · refine key (r := (⟨#[]⟩, false)) (fun k => option_Bytes.mono _ _ k) (fun k => ddiref35_Bytes.mono _ _ k) ?_ ?_
          · unfold option_Bytes.f
            rw [isSize_f, Option.bind_some, if_pos (by decide), if_neg hn, if_pos (by decide +kernel), show decide (n ≥ shl .i64 1 (IntKind.u64.wrap (wrap64 (8 * 4)))) = true from decide_eq_true (by rw [hs4]; omega)]
            rfl
          · unfold ddiref35_Bytes.f
            rw [if_neg (by decide), if_neg (by decide), if_pos rfl, decide_eq_false hn, hr, d1, d2, d3, d4, if_pos (by omega)]
  · refine ⟨(⟨#[]⟩, false), ?_, ?_⟩
    · obtain ⟨k, rfl⟩ : ∃ q, k = q + 1 := ⟨k - 1, by omega⟩
      unfold option_Bytes.f
      rw [isSize_f, Option.bind_some, if_neg (by rw [decide_eq_false hz]; decide), option_Bytes.j0, if_pos rfl]
    · obtain ⟨k, rfl⟩ : ∃ q, k = q + 1 := ⟨k - 1, by omega⟩
      unfold ddiref35_Bytes.f
      rw [if_neg (fun h => hz (.inl h)), if_neg (fun h => hz (.inr (.inl h))), if_neg (fun h => hz (.inr (.inr h))), ddiref35_Bytes.j0, if_pos rfl]
end Go.Proofs.YtkojlapefmcjnaaDoor.ADR

namespace Go.Proofs.YtkojlapefmcjnaaDoor.Pa
open Go Go.RowKit Go.Proofs.YtkojlapefmcjnaaDoorW.PrintWords Go.Proofs.YtkojlapefmcjnaaDoor.DN Go.Proofs.YtkojlapefmcjnaaDoor.OPT Go.Proofs.YtkojlapefmcjnaaDoor.ADR
set_option linter.unusedVariables false
set_option linter.unusedSimpArgs false
theorem OptionNumbers_pure (s : ByteArray) (n z : Int) (hs : s.size ≤ 1048576) (h0 : -9223372036854775808 ≤ n) (h1 : n ≤ 9223372036854775807) (hz0 : -9223372036854775808 ≤ z) (hz1 : z ≤ 9223372036854775807) : ∃ k, ddilaw35_OptionNumbers.f k s n z = some true := by
  refine ⟨s.size + 1000, ?_⟩
  obtain ⟨r, hr1, hr2⟩ := num_alike s (s.size + 1000) (by omega)
  obtain ⟨q, hq1, hq2⟩ := bytes_alike n z h0 h1 hz0 hz1 (s.size + 1000) (by omega)
  obtain ⟨x, hx⟩ : ∃ x, x = (if s.size = 0 ∨ s.size % 4 ≠ 0 then (([] : List S49), false) else (adrs (L s), true)) := ⟨_, rfl⟩
  have hxl : x.1.length ≤ s.size := by
    rw [hx]; split
    · simp
    · have := adrs_len _ (L s) (Nat.le_refl _)
      rw [L_len] at this
      show (adrs (L s)).length ≤ s.size
      omega
  unfold ddilaw35_OptionNumbers.f
  rw [hr1, Option.bind_some, hr2, Option.bind_some, hq1, Option.bind_some, hq2, Option.bind_some, addrs_f s (by omega) _ (by omega), Option.bind_some, raddrs_f s (by omega) _ (by omega), Option.bind_some, ← hx,
    if_pos rfl, if_pos (by simp), if_pos rfl, if_pos (by simp), laddrs_f x.1 (by omega) _ (by omega), Option.bind_some, if_pos rfl, if_pos (by simp), awake_f _ (by omega)]
  rfl
end Go.Proofs.YtkojlapefmcjnaaDoor.Pa
namespace Go.Proofs.YtkojlapefmcjnaaDoor.Pure
open Go Go.RowKit Go.Proofs.YtkojlapefmcjnaaDoor.Pa
theorem OptionNumbers : ∀ (a0 : ByteArray) (a1 : Int) (a2 : Int), a0.size ≤ 1048576 → (Lit.int .i64 a1).wf = true → (Lit.int .i64 a2).wf = true → ∃ k, ddilaw35_OptionNumbers.f k a0 a1 a2 = some true := fun s n z h hn hz => by
  have e1 : IntKind.i64.min = -9223372036854775808 := rfl
  have e2 : IntKind.i64.max = 9223372036854775807 := rfl
  simp [Lit.wf, e1, e2] at hn hz
  exact OptionNumbers_pure s n z h hn.1 hn.2 hz.1 hz.2
end Go.Proofs.YtkojlapefmcjnaaDoor.Pure
