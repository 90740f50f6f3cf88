/- Addresses as bytes: what addr.Wire, addr.Read and the reference's Wire and Read answer for four bytes; option.Value, option.Addrs and the reference's. option.Addrs and the reference's Addrs, and the law's addrs: over lists of bytes. The plain statement of the law OptionValues. -/
import Derived.Test.YtkojlapefmcjnaaDoorBytes
import Derived.Laws.Bits64b
import Derived.Test.YtkojlapefmcjnaaDoorPax12
import Derived.Test.YtkojlapefmcjnaaDoorPax13
import Derived.Test.YtkojlapefmcjnaaDoorPax14
import Derived.Test.YtkojlapefmcjnaaDoorPax28
import Derived.Test.YtkojlapefmcjnaaDoorPax29
import Derived.Test.YtkojlapefmcjnaaDoorPax30
import Derived.Test.YtkojlapefmcjnaaDoorPax31
import Derived.Test.YtkojlapefmcjnaaDoorPax38
import Derived.Test.YtkojlapefmcjnaaDoorPax32
import Derived.Test.YtkojlapefmcjnaaDoorPax33
import Derived.Test.YtkojlapefmcjnaaDoorPax39
import Derived.Test.YtkojlapefmcjnaaDoorRefs
import Derived.Test.YtkojlapefmcjnaaDoorPax34
namespace Go.Proofs.YtkojlapefmcjnaaDoor.ADR
open Go Go.RowKit Go.Proofs.YtkojlapefmcjnaaDoorW.PrintWords Go.Proofs.YtkojlapefmcjnaaDoorW.PrintLast Go.Proofs.YtkojlapefmcjnaaDoorW.PrintMore Go.Proofs.YtkojlapefmcjnaaDoor.DN Go.Proofs.YtkojlapefmcjnaaDoor.Pa
set_option linter.unusedVariables false
set_option linter.unusedSimpArgs false

theorem up {α : Type} {f : Nat → Option α} (h : ∀ k, LeO (f k) (f (k + 1))) {K k : Nat} {r : α} (hk : K ≤ k) (hr : f K = some r) : f k = some r := by
  obtain ⟨d, rfl⟩ := Nat.exists_eq_add_of_le hk
  clear hk
  induction d with
  | zero => exact hr
  | succ d ih => exact h _ _ ih
theorem or_add (n b : Nat) (hb : b < 256) : (n * 256) ||| b = n * 256 + b := by
  have := Nat.two_pow_add_eq_or_of_lt (i := 8) hb n
  rw [show 2 ^ 8 * n = n * 256 by omega] at this
  exact this.symm
set_option maxRecDepth 100000 in
theorem or_u64 (n b : Nat) (hb : b < 256) (hn : n * 256 + b < 18446744073709551616) : bits .or .u64 ((n * 256 : Nat) : Int) ((b : Nat) : Int) = ((n * 256 + b : Nat) : Int) := by
  rw [bits_or_u64_nat _ _ (by omega) (by omega), or_add n b hb]
set_option maxRecDepth 100000 in
theorem or_i64 (n b : Nat) (hb : b < 256) (hn : n * 256 + b < 9223372036854775808) : bits .or .i64 ((n * 256 : Nat) : Int) ((b : Nat) : Int) = ((n * 256 + b : Nat) : Int) := by
  have h1 : (BitVec.ofInt 64 ((n * 256 : Nat) : Int)).toNat = n * 256 := by
    rw [BitVec.ofInt_natCast, BitVec.toNat_ofNat]; exact Nat.mod_eq_of_lt (by omega)
  have h2 : (BitVec.ofInt 64 (b : Int)).toNat = b := by
    rw [BitVec.ofInt_natCast, BitVec.toNat_ofNat]; exact Nat.mod_eq_of_lt (by omega)
  show IntKind.i64.wrap ((BitVec.ofInt 64 ((n * 256 : Nat) : Int) ||| BitVec.ofInt 64 (b : Int)).toNat : Int) = _
  rw [BitVec.toNat_or, h1, h2, or_add n b hb, i64_w, wrap_id (by omega) (by omega)]
theorem wu {x : Int} (h0 : 0 ≤ x) (h1 : x < 18446744073709551616) : IntKind.u64.wrap x = x := by rw [IntKind.wrap_u64]; omega

def val4 (a b c d : UInt8) : Nat := ((a.toNat * 256 + b.toNat) * 256 + c.toNat) * 256 + d.toNat
theorem val4_lt (a b c d : UInt8) : val4 a b c d < 4294967296 := by
  have := a.toNat_lt; have := b.toNat_lt; have := c.toNat_lt; have := d.toNat_lt
  unfold val4; omega
theorem value4 (a b c d : UInt8) (k : Nat) (hk : 20 ≤ k) : addr_value.f k (B [a, b, c, d]) = some (val4 a b c d : Int) := by
  refine up (fun k => addr_value.mono _ k) hk ?_
  have h : addr_value.f 20 (B [a, b, c, d]) = some (bits .or .u64 (IntKind.u64.wrap (bits .or .u64 (IntKind.u64.wrap (bits .or .u64 (IntKind.u64.wrap (bits .or .u64 (IntKind.u64.wrap (0 * 256)) (IntKind.u64.wrap (a.toNat : Int)) * 256)) (IntKind.u64.wrap (b.toNat : Int)) * 256)) (IntKind.u64.wrap (c.toNat : Int)) * 256)) (IntKind.u64.wrap (d.toNat : Int))) := by kernel_rfl
  have ha := a.toNat_lt; have hb := b.toNat_lt; have hc := c.toNat_lt; have hd := d.toNat_lt
  rw [h, wu (x := (a.toNat : Int)) (by omega) (by omega), wu (x := (b.toNat : Int)) (by omega) (by omega), wu (x := (c.toNat : Int)) (by omega) (by omega), wu (x := (d.toNat : Int)) (by omega) (by omega)]
  rw [show IntKind.u64.wrap (0 * 256) = ((0 * 256 : Nat) : Int) from rfl, or_u64 0 a.toNat ha (by omega)]
  have s : ∀ n : Nat, n * 256 < 18446744073709551616 → IntKind.u64.wrap ((n : Int) * 256) = ((n * 256 : Nat) : Int) := fun n hn => by rw [wu (by omega) (by omega)]; omega
  rw [s _ (by omega), or_u64 _ b.toNat hb (by omega), s _ (by omega), or_u64 _ c.toNat hc (by omega), s _ (by omega), or_u64 _ d.toNat hd (by omega)]
  unfold val4
  rw [show 0 * 256 + a.toNat = a.toNat by omega]
theorem rvalue4 (a b c d : UInt8) (k : Nat) (hk : 20 ≤ k) : ddiref02_value.f k (B [a, b, c, d]) = some (val4 a b c d : Int) := by
  refine up (fun k => ddiref02_value.mono _ k) hk ?_
  have h : ddiref02_value.f 20 (B [a, b, c, d]) = some (IntKind.u64.wrap (IntKind.u64.wrap (IntKind.u64.wrap (IntKind.u64.wrap (IntKind.u64.wrap (IntKind.u64.wrap (IntKind.u64.wrap (IntKind.u64.wrap (0 * 256) + IntKind.u64.wrap (a.toNat : Int)) * 256) + IntKind.u64.wrap (b.toNat : Int)) * 256) + IntKind.u64.wrap (c.toNat : Int)) * 256) + IntKind.u64.wrap (d.toNat : Int))) := by kernel_rfl
  have ha := a.toNat_lt; have hb := b.toNat_lt; have hc := c.toNat_lt; have hd := d.toNat_lt
  rw [h, wu (x := (a.toNat : Int)) (by omega) (by omega), wu (x := (b.toNat : Int)) (by omega) (by omega), wu (x := (c.toNat : Int)) (by omega) (by omega), wu (x := (d.toNat : Int)) (by omega) (by omega)]
  rw [show IntKind.u64.wrap (0 * 256) = 0 from rfl]
  rw [wu (x := 0 + (a.toNat : Int)) (by omega) (by omega)]
  rw [wu (x := (0 + (a.toNat : Int)) * 256) (by omega) (by omega)]
  rw [wu (x := (0 + (a.toNat : Int)) * 256 + (b.toNat : Int)) (by omega) (by omega)]
  rw [wu (x := ((0 + (a.toNat : Int)) * 256 + (b.toNat : Int)) * 256) (by omega) (by omega)]
  rw [wu (x := ((0 + (a.toNat : Int)) * 256 + (b.toNat : Int)) * 256 + (c.toNat : Int)) (by omega) (by omega)]
  rw [wu (x := (((0 + (a.toNat : Int)) * 256 + (b.toNat : Int)) * 256 + (c.toNat : Int)) * 256) (by omega) (by omega)]
  rw [wu (x := (((0 + (a.toNat : Int)) * 256 + (b.toNat : Int)) * 256 + (c.toNat : Int)) * 256 + (d.toNat : Int)) (by omega) (by omega)]
  unfold val4
  refine congrArg some ?_
  omega
theorem four_of {s : ByteArray} (h : s.size = 4) : ∃ a b c d, s = B [a, b, c, d] := by
  have hl : (L s).length = 4 := by rw [L_len, h]
  match hs : L s, hl with
  | [a, b, c, d], _ => exact ⟨a, b, c, d, by rw [← hs, B_L]⟩
theorem read4 (a b c d : UInt8) (k : Nat) (hk : 20 ≤ k) : addr_Read.f k (B [a, b, c, d]) = some (false, 0, (val4 a b c d : Int), 0) := by
  unfold addr_Read.f
  rw [if_pos (by rw [B_size]; rfl), value4 a b c d k hk]; rfl
theorem rread4 (a b c d : UInt8) (k : Nat) (hk : 20 ≤ k) : ddiref02_Read.f k (B [a, b, c, d]) = some (false, 0, (val4 a b c d : Int), 0) := by
  unfold ddiref02_Read.f
  rw [if_neg (by rw [B_size]; simp only [List.length_cons, List.length_nil]; omega), if_neg (by rw [B_size]; simp only [List.length_cons, List.length_nil]; omega), if_pos (by rw [B_size]; rfl), rvalue4 a b c d k hk]; rfl

def word (n : Int) : List UInt8 := [UInt8.ofNat (n / 16777216 % 256).toNat, UInt8.ofNat (n / 65536 % 256).toNat, UInt8.ofNat (n / 256 % 256).toNat, UInt8.ofNat (n % 256).toNat]
theorem word_val {n : Int} (h0 : 0 ≤ n) (h1 : n ≤ 4294967295) : (val4 (UInt8.ofNat (n / 16777216 % 256).toNat) (UInt8.ofNat (n / 65536 % 256).toNat) (UInt8.ofNat (n / 256 % 256).toNat) (UInt8.ofNat (n % 256).toNat) : Int) = n := by
  have e : ∀ x : Nat, x < 256 → (UInt8.ofNat x).toNat = x := fun x hx => by rw [UInt8.toNat_ofNat']; omega
  unfold val4
  rw [e _ (by omega), e _ (by omega), e _ (by omega), e _ (by omega)]
  omega
theorem bytes8 (n : Int) (k : Nat) (hk : 20 ≤ k) : addr_bytes.f k n = some [n / 72057594037927936 % 256, n / 281474976710656 % 256, n / 1099511627776 % 256, n / 4294967296 % 256, n / 16777216 % 256, n / 65536 % 256, n / 256 % 256, n / 1 % 256] := by
  refine up (fun k => addr_bytes.mono _ k) hk ?_
  kernel_rfl
theorem L_nums (l : List Int) : L (strOfNums l) = l.map fun n => UInt8.ofNat n.toNat := rfl
theorem nums_size (l : List Int) : (strOfNums l).size = l.length := by rw [← L_len, L_nums, List.length_map]
def dv (n : Int) : Nat → Int
  | 0 => n
  | i + 1 => IntKind.u64.wrap (Int.tdiv (dv n i) 256)
theorem octets4 (n : Int) (k : Nat) (hk : 100 ≤ k) : ddiref02_octets.f k n 4 = some (strOfNums [Int.tmod (dv n 3) 256 % 256, Int.tmod (dv n 2) 256 % 256, Int.tmod (dv n 1) 256 % 256, Int.tmod (dv n 0) 256 % 256]) := by
  refine up (fun k => ddiref02_octets.mono _ _ k) hk ?_
  kernel_rfl
theorem octets8 (n : Int) (k : Nat) (hk : 100 ≤ k) : ddiref02_octets.f k n 8 = some (strOfNums [Int.tmod (dv n 7) 256 % 256, Int.tmod (dv n 6) 256 % 256, Int.tmod (dv n 5) 256 % 256, Int.tmod (dv n 4) 256 % 256, Int.tmod (dv n 3) 256 % 256, Int.tmod (dv n 2) 256 % 256, Int.tmod (dv n 1) 256 % 256, Int.tmod (dv n 0) 256 % 256]) := by
  refine up (fun k => ddiref02_octets.mono _ _ k) hk ?_
  kernel_rfl
theorem dv_nn {n : Int} (h0 : 0 ≤ n) (h1 : n < 18446744073709551616) : ∀ i, 0 ≤ dv n i ∧ dv n i ≤ n ∧ dv n (i + 1) = dv n i / 256
  | 0 => ⟨h0, Int.le_refl _, by show IntKind.u64.wrap (Int.tdiv n 256) = _; rw [Int.tdiv_eq_ediv_of_nonneg h0, wu (by omega) (by omega)]; rfl⟩
  | i + 1 => by
    obtain ⟨a, b, c⟩ := dv_nn h0 h1 i
    have d0 : 0 ≤ dv n (i + 1) := by rw [c]; omega
    have d1 : dv n (i + 1) ≤ n := by rw [c]; omega
    refine ⟨d0, d1, ?_⟩
    show IntKind.u64.wrap (Int.tdiv (dv n (i + 1)) 256) = _
    rw [Int.tdiv_eq_ediv_of_nonneg d0, wu (by omega) (by omega)]
theorem octets_word {n : Int} (h0 : 0 ≤ n) (h1 : n < 18446744073709551616) (k : Nat) (hk : 100 ≤ k) : ddiref02_octets.f k n 4 = some (B (word n)) := by
  rw [octets4 n k hk]
  refine congrArg some (L_inj ?_)
  have a0 := dv_nn h0 h1 0
  have a1 := dv_nn h0 h1 1
  have a2 := dv_nn h0 h1 2
  have a3 := dv_nn h0 h1 3
  have e0 : dv n 0 = n := rfl
  have e1 : dv n 1 = n / 256 := by rw [a0.2.2, e0]
  have e2 : dv n 2 = n / 256 / 256 := by rw [a1.2.2, e1]
  have e3 : dv n 3 = n / 256 / 256 / 256 := by rw [a2.2.2, e2]
  rw [L_nums, L_B]
  simp only [List.map_cons, List.map_nil, word]
  rw [Int.tmod_eq_emod_of_nonneg a3.1, Int.tmod_eq_emod_of_nonneg a2.1, Int.tmod_eq_emod_of_nonneg a1.1, Int.tmod_eq_emod_of_nonneg a0.1, e0, e1, e2, e3]
  rw [show n / 256 / 256 / 256 % 256 % 256 = n / 16777216 % 256 by omega, show n / 256 / 256 % 256 % 256 = n / 65536 % 256 by omega, show n / 256 % 256 % 256 = n / 256 % 256 by omega, show n % 256 % 256 = n % 256 by omega]

def okA (x : S49) : Prop := x.f0 = false ∧ x.f1 = 0 ∧ x.f2 ≤ 4294967295
instance (x : S49) : Decidable (okA x) := inferInstanceAs (Decidable (_ ∧ _ ∧ _))
theorem wire_ok {x : S49} (h : okA x) (k : Nat) (hk : 100 ≤ k) : addr_Wire.f k x.f0 x.f1 x.f2 = some (B (word x.f2), 0) := by
  unfold addr_Wire.f addr_Valid.f
  obtain ⟨h1, h2, h3⟩ := h
  rw [h1, h2, if_neg (by decide), if_pos rfl, Option.bind_some, if_pos (decide_eq_true h3), if_neg (by decide), bytes8 _ k (by omega), Option.bind_some, if_pos (by simp)]
  refine congrArg (fun z => some (z, (0 : Int))) (L_inj ?_)
  rw [L_nums, L_B]
  simp [word]
theorem wire_no {x : S49} (h : ¬ okA x) (hf : x.f0 = false) (k : Nat) (hk : 100 ≤ k) : addr_Wire.f k x.f0 x.f1 x.f2 = some (⟨#[]⟩, 3) := by
  unfold addr_Wire.f addr_Valid.f
  rw [hf, if_neg (by decide)]
  by_cases h1 : x.f1 = 0
  · rw [if_pos h1, Option.bind_some, if_neg (by intro h2; exact h ⟨hf, h1, of_decide_eq_true h2⟩)]
  · rw [if_neg h1, Option.bind_some, if_neg (by decide)]
theorem wire_six {x : S49} (hf : x.f0 = true) (k : Nat) (hk : 100 ≤ k) : ∃ b, addr_Wire.f k x.f0 x.f1 x.f2 = some (b, 0) := by
  unfold addr_Wire.f addr_Valid.f
  rw [hf, if_pos rfl, Option.bind_some, if_pos rfl, if_pos rfl, bytes8 _ k (by omega), Option.bind_some, bytes8 _ k (by omega), Option.bind_some, if_pos (by rw [nums_size, nums_size]; simp only [List.length_cons, List.length_nil]; omega)]
  exact ⟨_, rfl⟩
theorem rwire_ok {x : S49} (h : okA x) (h0 : 0 ≤ x.f2) (k : Nat) (hk : 100 ≤ k) : ddiref02_Wire.f k x.f0 x.f1 x.f2 = some (B (word x.f2), 0) := by
  unfold ddiref02_Wire.f ddiref02_Valid.f
  obtain ⟨h1, h2, h3⟩ := h
  rw [h1, h2, if_neg (by decide), if_pos rfl, Option.bind_some, if_pos (decide_eq_true (by omega)), if_neg (by decide), octets_word h0 (by omega) k hk, Option.bind_some]
theorem rwire_no {x : S49} (h : ¬ okA x) (hf : x.f0 = false) (k : Nat) (hk : 100 ≤ k) : ddiref02_Wire.f k x.f0 x.f1 x.f2 = some (⟨#[]⟩, 3) := by
  unfold ddiref02_Wire.f ddiref02_Valid.f
  rw [hf, if_neg (by decide)]
  by_cases h1 : x.f1 = 0
  · rw [if_pos h1, Option.bind_some, if_neg (by intro h2; exact h ⟨hf, h1, by have := of_decide_eq_true h2; omega⟩)]
  · rw [if_neg h1, Option.bind_some, if_neg (by decide)]
theorem rwire_six {x : S49} (hf : x.f0 = true) (k : Nat) (hk : 100 ≤ k) : ∃ b, ddiref02_Wire.f k x.f0 x.f1 x.f2 = some (b, 0) := by
  unfold ddiref02_Wire.f ddiref02_Valid.f
  rw [hf, if_pos rfl, Option.bind_some, if_pos rfl, if_pos rfl, octets8 _ k (by omega), Option.bind_some, octets8 _ k (by omega), Option.bind_some, if_pos (by rw [nums_size, nums_size]; simp only [List.length_cons, List.length_nil]; omega)]
  exact ⟨_, rfl⟩

theorem rdA {l : List S49} {i : Nat} (h : i < l.length) : rd_T49 l (i : Int) = l[i] := by unfold rd_T49; simp [h]
theorem wsc {i : Nat} (h : i < 9223372036854775806) : wrap64 ((i : Int) + 1) = ((i + 1 : Nat) : Int) := by rw [wrap_id (by omega) (by omega)]; rfl
theorem dropA {α : Type} {l : List α} {i : Nat} (h : i < l.length) : l.drop i = l[i] :: l.drop (i + 1) := by rw [List.drop_eq_getElem_cons h]
def vals (l : List S49) : List UInt8 := l.flatMap fun x => word x.f2
theorem vals_length (l : List S49) : (vals l).length = 4 * l.length := by
  induction l with
  | nil => rfl
  | cons x l ih => simp only [vals, List.flatMap_cons, List.length_append, List.length_cons] at ih ⊢; rw [ih]; simp [word]; omega
def valA (l : List S49) : ByteArray × Bool := if 1 ≤ l.length ∧ l.length ≤ 60 ∧ ∀ x ∈ l, okA x then (B (vals l), true) else (⟨#[]⟩, false)
theorem val_l (l : List S49) (hl : l.length ≤ 60) : ∀ (n k i : Nat) (out : ByteArray), l.length - i ≤ n → n + 101 < k → i ≤ l.length → out.size ≤ 4 * i →
    option_Value.l0 k out l (l.length : Int) (i : Int) = some (if ∀ x ∈ l.drop i, okA x then (out ++ B (vals (l.drop i)), true) else (⟨#[]⟩, false)) := by
  intro n
  have hend : ∀ (k : Nat) (out : ByteArray), 0 < k → option_Value.l0 k out l (l.length : Int) (l.length : Int) = some (if ∀ x ∈ l.drop l.length, okA x then (out ++ B (vals (l.drop l.length)), true) else (⟨#[]⟩, false)) := by
    intro k out hk
    obtain ⟨k, rfl⟩ : ∃ q, k = q + 1 := ⟨k - 1, by omega⟩
    rw [option_Value.l0, if_neg (by omega), List.drop_length, if_pos (by simp)]
    refine congrArg (fun z => some (z, true)) (L_inj ?_)
    rw [L_append, L_B]; simp [vals]
  induction n with
  | zero =>
    intro k i out hn hk hi ho
    obtain rfl : i = l.length := by omega
    exact hend k out (by omega)
  | succ n ih =>
    intro k i out hn hk hi ho
    by_cases hlt : i < l.length
    · obtain ⟨k, rfl⟩ : ∃ q, k = q + 1 := ⟨k - 1, by omega⟩
      rw [option_Value.l0, if_pos (by omega), if_pos (by omega), if_pos (by omega), rdA hlt, dropA hlt]
      obtain ⟨x, hx⟩ : ∃ x, x = l[i] := ⟨_, rfl⟩
      rw [← hx]
      by_cases hf : x.f0 = true
      · obtain ⟨b, hb⟩ := wire_six hf k (by omega)
        rw [hb, Option.bind_some, if_pos rfl, if_pos hf, if_neg (by intro h; have := (h x (by simp)).1; rw [hf] at this; cases this)]
      · have hf2 : x.f0 = false := by simpa using hf
        by_cases hx2 : okA x
        · rw [wire_ok hx2 k (by omega), Option.bind_some, if_pos rfl, if_neg hf, if_pos (by rw [B_size]; simp only [word, List.length_cons, List.length_nil]; omega), wsc (by omega), ih k (i + 1) _ (by omega) (by omega) (by omega) (by rw [ByteArray.size_append, B_size]; simp only [word, List.length_cons, List.length_nil]; omega)]
          by_cases hr : ∀ y ∈ l.drop (i + 1), okA y
          · rw [if_pos hr, if_pos (by intro y hy; rcases List.mem_cons.1 hy with rfl | hy; exact hx2; exact hr y hy)]
            refine congrArg (fun z => some (z, true)) (L_inj ?_)
            rw [L_append, L_append, L_append, L_B, L_B, L_B]; simp [vals]
          · rw [if_neg hr, if_neg (by intro h; exact hr fun y hy => h y (by simp [hy]))]
        · rw [wire_no hx2 hf2 k (by omega), Option.bind_some, if_neg (by decide), if_neg (by intro h; exact hx2 (h x (by simp)))]
    · obtain rfl : i = l.length := by omega
      exact hend k out (by omega)
theorem val_f (l : List S49) (k : Nat) (hk : 200 < k) : option_Value.f k l = some (valA l) := by
  obtain ⟨k, rfl⟩ : ∃ q, k = q + 1 := ⟨k - 1, by omega⟩
  unfold option_Value.f valA
  by_cases h1 : (l.length : Int) < 1
  · rw [if_pos h1, option_Value.j0, if_pos rfl, if_neg (by omega)]
  rw [if_neg h1, option_Value.j0]
  by_cases h2 : (l.length : Int) > 60
  · rw [if_pos (decide_eq_true h2), if_neg (by omega)]
  rw [if_neg (by rw [decide_eq_false h2]; decide)]
  have := val_l l (by omega) l.length k 0 ⟨#[]⟩ (by omega) (by omega) (by omega) (Nat.zero_le _)
  rw [List.drop_zero] at this
  refine Eq.trans this ?_
  by_cases h3 : ∀ x ∈ l, okA x
  · rw [if_pos h3, if_pos ⟨by omega, by omega, h3⟩]
    refine congrArg (fun z => some (z, true)) (L_inj ?_)
    rw [L_append]; rfl
  · rw [if_neg h3, if_neg (by rintro ⟨_, _, h⟩; exact h3 h)]
theorem rval_l (l : List S49) (hl : l.length ≤ 60) (hw : ∀ x ∈ l, 0 ≤ x.f2) : ∀ (n k i : Nat) (out : ByteArray), l.length - i ≤ n → n + 101 < k → i ≤ l.length → out.size ≤ 4 * i →
    ddiref35_Value.l0 k l out (i : Int) = some (if ∀ x ∈ l.drop i, okA x then (out ++ B (vals (l.drop i)), true) else (⟨#[]⟩, false)) := by
  intro n
  have hend : ∀ (k : Nat) (out : ByteArray), 0 < k → ddiref35_Value.l0 k l out (l.length : Int) = some (if ∀ x ∈ l.drop l.length, okA x then (out ++ B (vals (l.drop l.length)), true) else (⟨#[]⟩, false)) := by
    intro k out hk
    obtain ⟨k, rfl⟩ : ∃ q, k = q + 1 := ⟨k - 1, by omega⟩
    rw [ddiref35_Value.l0, if_neg (by omega), List.drop_length, if_pos (by simp)]
    refine congrArg (fun z => some (z, true)) (L_inj ?_)
    rw [L_append, L_B]; simp [vals]
  induction n with
  | zero =>
    intro k i out hn hk hi ho
    obtain rfl : i = l.length := by omega
    exact hend k out (by omega)
  | succ n ih =>
    intro k i out hn hk hi ho
    by_cases hlt : i < l.length
    · obtain ⟨k, rfl⟩ : ∃ q, k = q + 1 := ⟨k - 1, by omega⟩
      have hw0 := hw l[i] (List.getElem_mem hlt)
      rw [ddiref35_Value.l0, if_pos (by omega), if_pos (by omega), rdA hlt, dropA hlt]
      obtain ⟨x, hx⟩ : ∃ x, x = l[i] := ⟨_, rfl⟩
      rw [← hx] at hw0 ⊢
      by_cases hf : x.f0 = true
      · obtain ⟨b, hb⟩ := rwire_six hf k (by omega)
        rw [hb, Option.bind_some, if_pos rfl, if_pos hf, if_neg (by intro h; have := (h x (by simp)).1; rw [hf] at this; cases this)]
      · have hf2 : x.f0 = false := by simpa using hf
        by_cases hx2 : okA x
        · rw [rwire_ok hx2 hw0 k (by omega), Option.bind_some, if_pos rfl, if_neg hf, if_pos (by rw [B_size]; simp only [word, List.length_cons, List.length_nil]; omega), wsc (by omega), ih k (i + 1) _ (by omega) (by omega) (by omega) (by rw [ByteArray.size_append, B_size]; simp only [word, List.length_cons, List.length_nil]; omega)]
          by_cases hr : ∀ y ∈ l.drop (i + 1), okA y
          · rw [if_pos hr, if_pos (by intro y hy; rcases List.mem_cons.1 hy with rfl | hy; exact hx2; exact hr y hy)]
            refine congrArg (fun z => some (z, true)) (L_inj ?_)
            rw [L_append, L_append, L_append, L_B, L_B, L_B]; simp [vals]
          · rw [if_neg hr, if_neg (by intro h; exact hr fun y hy => h y (by simp [hy]))]
        · rw [rwire_no hx2 hf2 k (by omega), Option.bind_some, if_neg (by decide), if_neg (by intro h; exact hx2 (h x (by simp)))]
    · obtain rfl : i = l.length := by omega
      exact hend k out (by omega)
theorem rval_f (l : List S49) (hw : ∀ x ∈ l, 0 ≤ x.f2) (k : Nat) (hk : 200 < k) : ddiref35_Value.f k l = some (valA l) := by
  obtain ⟨k, rfl⟩ : ∃ q, k = q + 1 := ⟨k - 1, by omega⟩
  unfold ddiref35_Value.f valA
  by_cases h1 : (l.length : Int) < 1
  · rw [if_pos h1, ddiref35_Value.j0, if_pos rfl, if_neg (by omega)]
  rw [if_neg h1, ddiref35_Value.j0]
  by_cases h2 : (l.length : Int) > 60
  · rw [if_pos (decide_eq_true h2), if_neg (by omega)]
  rw [if_neg (by rw [decide_eq_false h2]; decide)]
  have := rval_l l (by omega) hw l.length k 0 ⟨#[]⟩ (by omega) (by omega) (by omega) (Nat.zero_le _)
  rw [List.drop_zero] at this
  refine Eq.trans this ?_
  by_cases h3 : ∀ x ∈ l, okA x
  · rw [if_pos h3, if_pos ⟨by omega, by omega, h3⟩]
    refine congrArg (fun z => some (z, true)) (L_inj ?_)
    rw [L_append]; rfl
  · rw [if_neg h3, if_neg (by rintro ⟨_, _, h⟩; exact h3 h)]
end Go.Proofs.YtkojlapefmcjnaaDoor.ADR

namespace Go.Proofs.YtkojlapefmcjnaaDoor.ADR
open Go Go.RowKit Go.Proofs.YtkojlapefmcjnaaDoorW.PrintWords Go.Proofs.YtkojlapefmcjnaaDoorW.PrintLast Go.Proofs.YtkojlapefmcjnaaDoorW.PrintMore Go.Proofs.YtkojlapefmcjnaaDoor.DN Go.Proofs.YtkojlapefmcjnaaDoor.Pa
set_option linter.unusedVariables false
set_option linter.unusedSimpArgs false

def adrs : List UInt8 → List S49
  | a :: b :: c :: d :: r => ⟨false, 0, (val4 a b c d : Int)⟩ :: adrs r
  | _ => []
theorem adrs_len : ∀ (n : Nat) (l : List UInt8), l.length ≤ n → (adrs l).length ≤ l.length / 4
  | 0, l, h => by have : l = [] := List.length_eq_zero_iff.1 (by omega); subst this; simp [adrs]
  | n + 1, l, h => by
    match l with
    | [] => simp [adrs]
    | [_] => simp [adrs]
    | [_, _] => simp [adrs]
    | [_, _, _] => simp [adrs]
    | a :: b :: c :: d :: r => have := adrs_len n r (by simp at h; omega); simp only [adrs, List.length_cons]; omega
theorem cut4 (s : ByteArray) (i : Nat) (h : i + 4 ≤ s.size) : ∃ a b c d, s.extract i (i + 4) = B [a, b, c, d] ∧ (L s).drop i = a :: b :: c :: d :: (L s).drop (i + 4) := by
  obtain ⟨a, b, c, d, e⟩ := four_of (s := s.extract i (i + 4)) (by rw [ByteArray.size_extract]; omega)
  refine ⟨a, b, c, d, e, ?_⟩
  have h1 : ((L s).drop i).take 4 = [a, b, c, d] := by
    have := congrArg L e
    rw [L_extract, L_B, show i + 4 - i = 4 by omega] at this; exact this
  have h2 := List.take_append_drop 4 ((L s).drop i)
  rw [h1, List.drop_drop] at h2
  exact h2.symm
theorem w4 {i : Nat} (h : i < 9223372036854775800) : wrap64 ((i : Int) + 4) = ((i + 4 : Nat) : Int) := by rw [wrap_id (by omega) (by omega)]; rfl
theorem addrs_l (s : ByteArray) (hs : s.size ≤ 20000000000000) : ∀ (n k i : Nat) (acc : List S49), s.size - i ≤ 4 * n → n + 40 < k → i ≤ s.size → (s.size - i) % 4 = 0 → acc.length * 4 ≤ i →
    option_Addrs.l0 k s acc (i : Int) = some (acc ++ adrs ((L s).drop i), true) := by
  intro n
  induction n with
  | zero =>
    intro k i acc hn hk hi hm ha
    obtain ⟨k, rfl⟩ : ∃ q, k = q + 1 := ⟨k - 1, by omega⟩
    rw [option_Addrs.l0, if_neg (by omega), List.drop_eq_nil_of_le (by rw [L_len]; omega)]; simp [adrs]
  | succ n ih =>
    intro k i acc hn hk hi hm ha
    obtain ⟨k, rfl⟩ : ∃ q, k = q + 1 := ⟨k - 1, by omega⟩
    by_cases hlt : i < s.size
    · obtain ⟨a, b, c, d, e1, e2⟩ := cut4 s i (by omega)
      rw [option_Addrs.l0, if_pos (by omega), if_pos (by omega), w4 (by omega), if_pos (by omega), if_pos (by omega), Int.toNat_natCast, Int.toNat_natCast, e1, read4 a b c d k (by omega), Option.bind_some, if_pos rfl]
      rw [if_pos (by omega), ih k (i + 4) _ (by omega) (by omega) (by omega) (by omega) (by simp; omega), e2, adrs]; simp
    · rw [option_Addrs.l0, if_neg (by omega), List.drop_eq_nil_of_le (by rw [L_len]; omega)]; simp [adrs]
theorem addrs_f (s : ByteArray) (hs : s.size ≤ 20000000000000) (k : Nat) (hk : s.size + 100 < k) : option_Addrs.f k s = some (if s.size = 0 ∨ s.size % 4 ≠ 0 then ([], false) else (adrs (L s), true)) := by
  obtain ⟨k, rfl⟩ : ∃ q, k = q + 1 := ⟨k - 1, by omega⟩
  unfold option_Addrs.f
  by_cases h0 : s.size = 0
  · rw [if_pos (by rw [toList_L]; exact List.length_eq_zero_iff.1 (by rw [L_len]; exact h0)), option_Addrs.j0, if_pos rfl, if_pos (.inl h0)]
  rw [if_neg (by rw [toList_L]; intro e; apply h0; rw [← L_len, e]; rfl), option_Addrs.j0]
  by_cases h1 : s.size % 4 = 0
  · rw [if_neg (by simp; omega), if_neg (by omega)]
    have := addrs_l s hs s.size k 0 [] (by omega) (by omega) (by omega) (by omega) (by simp)
    simpa using this
  · rw [if_pos (by simp; omega), if_pos (.inr h1)]
theorem raddrs_l (s : ByteArray) (hs : s.size ≤ 20000000000000) : ∀ (n k i : Nat) (acc : List S49), s.size - i ≤ 4 * n → n + 40 < k → i ≤ s.size → (s.size - i) % 4 = 0 → acc.length * 4 ≤ i →
    ddiref35_Addrs.l0 k s acc (i : Int) = some (acc ++ adrs ((L s).drop i), true) := by
  intro n
  induction n with
  | zero =>
    intro k i acc hn hk hi hm ha
    obtain ⟨k, rfl⟩ : ∃ q, k = q + 1 := ⟨k - 1, by omega⟩
    rw [ddiref35_Addrs.l0, if_neg (by omega), List.drop_eq_nil_of_le (by rw [L_len]; omega)]; simp [adrs]
  | succ n ih =>
    intro k i acc hn hk hi hm ha
    obtain ⟨k, rfl⟩ : ∃ q, k = q + 1 := ⟨k - 1, by omega⟩
    by_cases hlt : i < s.size
    · obtain ⟨a, b, c, d, e1, e2⟩ := cut4 s i (by omega)
      rw [ddiref35_Addrs.l0, if_pos (by omega), if_pos (by omega), w4 (by omega), if_pos (by omega), if_pos (by omega), Int.toNat_natCast, Int.toNat_natCast, e1, rread4 a b c d k (by omega), Option.bind_some]
      rw [if_pos (by omega), ih k (i + 4) _ (by omega) (by omega) (by omega) (by omega) (by simp; omega), e2, adrs]; simp
    · rw [ddiref35_Addrs.l0, if_neg (by omega), List.drop_eq_nil_of_le (by rw [L_len]; omega)]; simp [adrs]
theorem raddrs_f (s : ByteArray) (hs : s.size ≤ 20000000000000) (k : Nat) (hk : s.size + 100 < k) : ddiref35_Addrs.f k s = some (if s.size = 0 ∨ s.size % 4 ≠ 0 then ([], false) else (adrs (L s), true)) := by
  obtain ⟨k, rfl⟩ : ∃ q, k = q + 1 := ⟨k - 1, by omega⟩
  unfold ddiref35_Addrs.f
  by_cases h0 : s.size = 0
  · rw [if_pos (by omega), ddiref35_Addrs.j0, if_pos rfl, if_pos (.inl h0)]
  rw [if_neg (by omega), ddiref35_Addrs.j0]
  by_cases h1 : s.size % 4 = 0
  · rw [if_neg (by simp; omega), if_neg (by omega)]
    have := raddrs_l s hs s.size k 0 [] (by omega) (by omega) (by omega) (by omega) (by simp)
    simpa using this
  · rw [if_pos (by simp; omega), if_pos (.inr h1)]
theorem laddrs_l (l : List S49) (hl : l.length ≤ 5864062014900) : ∀ (n k i : Nat), l.length - i ≤ n → n < k → i ≤ l.length → ddilaw35_addrs.l0 k l l (i : Int) = some true := by
  intro n
  induction n with
  | zero =>
    intro k i hn hk hi
    obtain ⟨k, rfl⟩ : ∃ q, k = q + 1 := ⟨k - 1, by omega⟩
    rw [ddilaw35_addrs.l0, if_neg (by omega)]
  | succ n ih =>
    intro k i hn hk hi
    obtain ⟨k, rfl⟩ : ∃ q, k = q + 1 := ⟨k - 1, by omega⟩
    by_cases hlt : i < l.length
    · rw [ddilaw35_addrs.l0, if_pos (by omega), if_pos (by omega), if_pos (by omega), if_neg (by simp), wsc (by omega)]
      exact ih k (i + 1) (by omega) (by omega) (by omega)
    · rw [ddilaw35_addrs.l0, if_neg (by omega)]
theorem laddrs_f (l : List S49) (hl : l.length ≤ 5864062014900) (k : Nat) (hk : l.length < k) : ddilaw35_addrs.f k l l = some true := by
  unfold ddilaw35_addrs.f
  rw [if_pos rfl]
  exact laddrs_l l hl l.length k 0 (by omega) hk (by omega)
theorem adrs_vals : ∀ (l : List S49), (∀ x ∈ l, okA x) → (∀ x ∈ l, 0 ≤ x.f2) → adrs (vals l) = l
  | [], _, _ => rfl
  | x :: l, h, hw => by
    have hx := h x (by simp)
    have e : vals (x :: l) = UInt8.ofNat (x.f2 / 16777216 % 256).toNat :: UInt8.ofNat (x.f2 / 65536 % 256).toNat :: UInt8.ofNat (x.f2 / 256 % 256).toNat :: UInt8.ofNat (x.f2 % 256).toNat :: vals l := rfl
    rw [e, adrs, word_val (hw x (by simp)) hx.2.2, adrs_vals l (fun y hy => h y (by simp [hy])) (fun y hy => hw y (by simp [hy]))]
    obtain ⟨f0, f1, f2⟩ := x
    obtain ⟨h1, h2, _⟩ := hx
    simp only at h1 h2
    rw [h1, h2]
end Go.Proofs.YtkojlapefmcjnaaDoor.ADR

namespace Go.Proofs.YtkojlapefmcjnaaDoor.Pa
open Go Go.RowKit Go.Proofs.YtkojlapefmcjnaaDoorW.PrintWords Go.Proofs.YtkojlapefmcjnaaDoor.DN Go.Proofs.YtkojlapefmcjnaaDoor.OPT Go.Proofs.YtkojlapefmcjnaaDoor.ADR
set_option linter.unusedVariables false
set_option linter.unusedSimpArgs false
/-- what a row tells of an address -/
def Wf49 (x : S49) : Prop := (True) ∧ ((Lit.int .u64 x.f1).wf = true) ∧ ((Lit.int .u64 x.f2).wf = true)
theorem OptionValues_pure (l : List S49) (h1 : ∀ y ∈ l, Wf49 y) : ∃ k, ddilaw35_OptionValues.f k l = some true := by
  have hw : ∀ x ∈ l, 0 ≤ x.f2 := fun x hx => by
    have h := (h1 x hx).2.2
    have e1 : IntKind.u64.min = 0 := rfl
    have e2 : IntKind.u64.max = 18446744073709551615 := rfl
    simp [Lit.wf, e1, e2] at h
    omega
  refine ⟨10001, ?_⟩
  unfold ddilaw35_OptionValues.f
  rw [val_f l _ (by decide), Option.bind_some, rval_f l hw _ (by decide), Option.bind_some, if_pos rfl, show ((valA l).2 != (valA l).2) = false by simp, ddilaw35_OptionValues.j0, if_neg (by decide)]
  by_cases hok : 1 ≤ l.length ∧ l.length ≤ 60 ∧ ∀ x ∈ l, okA x
  · have hv : valA l = (B (vals l), true) := if_pos hok
    have hsz : (B (vals l)).size = 4 * l.length := by rw [B_size, vals_length]
    rw [hv, show option_Addrs.f 10000 (B (vals l), true).1 = some (adrs (vals l), true) from by rw [show (B (vals l), true).1 = B (vals l) from rfl, addrs_f _ (by omega) _ (by omega), if_neg (by omega), L_B], Option.bind_some, if_pos rfl, if_pos rfl, adrs_vals l hok.2.2 hw, laddrs_f l (by omega) _ (by omega), Option.bind_some, if_pos rfl,
      if_pos (show (0 : Int) < (l.length : Int) by omega)]
    have h0 : 0 < l.length := by omega
    have hr : rd_T49 l 0 = l[0] := rdA h0
    have ha := hok.2.2 l[0] (List.getElem_mem h0)
    have hav : addr_Valid.f l[0].f0 l[0].f1 l[0].f2 = some true := by
      unfold addr_Valid.f
      obtain ⟨a, b, c⟩ := ha
      rw [a, b, if_neg (by decide), if_pos rfl, decide_eq_true c]
    dsimp only
    rw [hr, hav, Option.bind_some, if_pos rfl, awake_f _ (by decide)]
    rfl
  · have hv : valA l = (⟨#[]⟩, false) := if_neg hok
    rw [hv, show option_Addrs.f 10000 ((⟨#[]⟩ : ByteArray), false).1 = some ([], false) from by rw [addrs_f _ (by decide) _ (by decide)]; rfl, Option.bind_some, if_neg (by decide), if_pos (show (⟨#[]⟩ : ByteArray).toList = [] by rw [toList_L]), if_neg (by decide), awake_f _ (by decide)]
    rfl
end Go.Proofs.YtkojlapefmcjnaaDoor.Pa
namespace Go.Proofs.YtkojlapefmcjnaaDoor.Pure
open Go Go.RowKit Go.Proofs.YtkojlapefmcjnaaDoor.Pa
theorem OptionValues : ∀ (l0 : List S49), l0.length * 24 ≤ 140737488351232 → (∀ y ∈ l0, Wf49 y) → ∃ k, ddilaw35_OptionValues.f k l0 = some true := fun l _ h => OptionValues_pure l h
end Go.Proofs.YtkojlapefmcjnaaDoor.Pure
