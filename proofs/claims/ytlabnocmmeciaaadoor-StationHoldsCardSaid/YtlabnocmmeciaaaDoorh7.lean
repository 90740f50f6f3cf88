/- Parts of the proof of this claim's statement (joined by a program of this session): NewP, Pln, J, Aw0, Awk, Lp0, Hn0, Hna, Hnb, Hnc, Hnt, Wfs. -/
import Derived.Test.YtlabnocmmeciaaaDoorh5
import Derived.Test.YtlabnocmmeciaaaDoorh1
import Derived.Test.YtlabnocmmeciaaaDoorh6
import Derived.Test.YtlabnocmmeciaaaDoorh2
import Derived.Laws.Bits64b
import Derived.Test.YtlabnocmmeciaaaDoorh3
namespace Go.Proofs.YtlabnocmmeciaaaDoor.Pa
open Go.RowKit Go.Proofs.YtlabnocmmeciaaaDoorW.PrintWords Go.Proofs.YtlabnocmmeciaaaDoorW.PrintLast Go.Proofs.YtlabnocmmeciaaaDoor.DN
set_option linter.unusedVariables false
set_option linter.unusedSimpArgs false
theorem rd_at (x : List ByteArray) (i : Nat) (h : i < x.length) : rdOf ByteArray.empty x (i : Int) = x[i] := by simp [rdOf, List.getElem?_eq_getElem h]
def vis (b : UInt8) : Bool := decide (33 ≤ b.toNat ∧ b.toNat ≤ 126)
def cli (s : ByteArray) : Bool := decide (1 ≤ s.size ∧ s.size ≤ 32) && (L s).all vis
theorem wsucc' {i : Nat} (h : i < 9223372036854775806) : wrap64 ((i : Int) + 1) = ((i + 1 : Nat) : Int) := by rw [wrap_id (by omega) (by omega)]; rfl
theorem drop_at' {α : Type} {l : List α} {i : Nat} (h : i < l.length) : l.drop i = l[i] :: l.drop (i + 1) := by rw [List.drop_eq_getElem_cons h]
theorem stc_l (s : ByteArray) (hs : s.size ≤ 140737488351232) : ∀ (n k i : Nat), s.size - i ≤ n → n < k → i ≤ s.size → station_isClient.l0 k s (i : Int) = some (((L s).drop i).all vis && decide (1 ≤ s.size ∧ s.size ≤ 32)) := by
  have he : (if (s.size : Int) ≥ 1 then (some (decide ((s.size : Int) ≤ 32))) else (some false)) = some (decide (1 ≤ s.size ∧ s.size ≤ 32)) := by
    by_cases h1 : 1 ≤ s.size
    · rw [if_pos (by omega)]; congr 1; exact decide_eq_decide.mpr (by omega)
    · rw [if_neg (by omega), decide_eq_false (by omega)]
  intro n
  induction n with
  | zero =>
    intro k i hn hk hi
    obtain ⟨k, rfl⟩ : ∃ q, k = q + 1 := ⟨k - 1, by omega⟩
    rw [station_isClient.l0, if_neg (by omega), List.drop_eq_nil_of_le (by rw [L_len]; omega), he]; rfl
  | succ n ih =>
    intro k i hn hk hi
    obtain ⟨k, rfl⟩ : ∃ q, k = q + 1 := ⟨k - 1, by omega⟩
    by_cases hlt : i < s.size
    · have hL : i < (L s).length := by rw [L_len]; exact hlt
      rw [station_isClient.l0, if_pos (by omega), if_pos (by omega), bt_L s i hL, drop_at' hL, List.all_cons]
      by_cases h1 : (L s)[i].toNat < 33
      · rw [if_pos (by omega), show vis (L s)[i] = false from decide_eq_false (by omega)]; rfl
      · rw [if_neg (by omega)]
        by_cases h2 : 126 < (L s)[i].toNat
        · rw [if_pos (by omega), show vis (L s)[i] = false from decide_eq_false (by omega)]; rfl
        · rw [if_neg (by omega), show vis (L s)[i] = true from decide_eq_true (by omega), Bool.true_and, wsucc' (by omega)]
          exact ih k (i + 1) (by omega) (by omega) (by omega)
    · rw [station_isClient.l0, if_neg (by omega), List.drop_eq_nil_of_le (by rw [L_len]; omega), he]; rfl
theorem stclient_f (s : ByteArray) (hs : s.size ≤ 140737488351232) (k : Nat) (hk : s.size < k) : station_isClient.f k s = some (cli s) := by
  unfold station_isClient.f cli
  rw [show station_isClient.l0 k s 0 = _ from stc_l s hs s.size k 0 (by omega) hk (by omega), List.drop_zero, Bool.and_comm]
def hostOk (h : ByteArray) : Bool := (h.toList == ([] : List UInt8)) || (decide ((joinL [h]).2 = 0) && !(h.toList == ([42] : List UInt8)))
abbrev NewT := ByteArray × ByteArray × Int × Int × Int × Bool × Int × Int × Int × Int × Int × Int × Int × Int
def newL (c h : ByteArray) : NewT :=
  if cli c = true then (if hostOk h = true then (c, h, 0, 0, 0, false, 0, 0, 0, 0, 0, 0, 0, 0) else ((⟨#[]⟩ : ByteArray), (⟨#[]⟩ : ByteArray), 0, 0, 0, false, 0, 0, 0, 0, 0, 0, 0, 2))
  else ((⟨#[]⟩ : ByteArray), (⟨#[]⟩ : ByteArray), 0, 0, 0, false, 0, 0, 0, 0, 0, 0, 0, 1)
theorem new_f (c h : ByteArray) (hc : c.size ≤ 140737488351232) (hh : h.size ≤ 140737488351232) (k : Nat) (hk : c.size < k) : station_New.f k c h = some (newL c h) := by
  unfold station_New.f newL
  rw [stclient_f c hc k hk, Option.bind_some]
  by_cases h1 : cli c = true
  · rw [if_pos h1, if_pos h1, show dname_Join.f [h] = some (joinL [h]) from by unfold dname_Join.f; rw [if_pos (by simpa using hh)], Option.bind_some]
    unfold hostOk
    by_cases h2 : h.toList = []
    · rw [if_pos h2, h2]; rfl
    · rw [if_neg h2, show (h.toList == ([] : List UInt8)) = false from beq_eq_false_iff_ne.mpr h2, Bool.false_or]
      by_cases h3 : (joinL [h]).2 = 0
      · rw [if_pos h3, decide_eq_true h3, Bool.true_and]
        by_cases h4 : h.toList = ([42] : List UInt8)
        · rw [if_pos h4, h4]; rfl
        · rw [if_neg h4, show (h.toList == ([42] : List UInt8)) = false from beq_eq_false_iff_ne.mpr h4]; rfl
      · rw [if_neg h3, decide_eq_false h3]; rfl
  · rw [if_neg h1, if_neg h1]
end Go.Proofs.YtlabnocmmeciaaaDoor.Pa


namespace Go.Proofs.YtlabnocmmeciaaaDoor.PLN
open Go Go.RowKit Go.Proofs.YtlabnocmmeciaaaDoorW.PrintWords Go.Proofs.YtlabnocmmeciaaaDoorW.PrintLast Go.Proofs.YtlabnocmmeciaaaDoorW.PrintMore Go.Proofs.YtlabnocmmeciaaaDoor.DN Go.Proofs.YtlabnocmmeciaaaDoor.OPT Go.Proofs.YtlabnocmmeciaaaDoor.Pa Go.Proofs.YtlabnocmmeciaaaDoor.BQ
set_option linter.unusedVariables false
set_option linter.unusedSimpArgs false
theorem up {α : Type} {f : Nat → Option α} (h : ∀ k, LeO (f k) (f (k + 1))) {K k : Nat} {r : α} (hk : K ≤ k) (hr : f K = some r) : f k = some r := by
  obtain ⟨d, rfl⟩ := Nat.exists_eq_add_of_le hk
  clear hk
  induction d with
  | zero => exact hr
  | succ d ih => exact h _ _ ih
theorem or_add (n b : Nat) (hb : b < 256) : (n * 256) ||| b = n * 256 + b := by
  have := Nat.two_pow_add_eq_or_of_lt (i := 8) hb n
  rw [show 2 ^ 8 * n = n * 256 by omega] at this
  exact this.symm
set_option maxRecDepth 100000 in
theorem or_i64 (n b : Nat) (hb : b < 256) (hn : n * 256 + b < 9223372036854775808) : bits .or .i64 ((n * 256 : Nat) : Int) ((b : Nat) : Int) = ((n * 256 + b : Nat) : Int) := by
  have h1 : (BitVec.ofInt 64 ((n * 256 : Nat) : Int)).toNat = n * 256 := by
    rw [BitVec.ofInt_natCast, BitVec.toNat_ofNat]; exact Nat.mod_eq_of_lt (by omega)
  have h2 : (BitVec.ofInt 64 (b : Int)).toNat = b := by
    rw [BitVec.ofInt_natCast, BitVec.toNat_ofNat]; exact Nat.mod_eq_of_lt (by omega)
  show IntKind.i64.wrap ((BitVec.ofInt 64 ((n * 256 : Nat) : Int) ||| BitVec.ofInt 64 (b : Int)).toNat : Int) = _
  rw [BitVec.toNat_or, h1, h2, or_add n b hb, i64_w, wrap_id (by omega) (by omega)]
def word (n : Int) : List UInt8 := [UInt8.ofNat (n / 16777216 % 256).toNat, UInt8.ofNat (n / 65536 % 256).toNat, UInt8.ofNat (n / 256 % 256).toNat, UInt8.ofNat (n % 256).toNat]
theorem L_nums (l : List Int) : L (strOfNums l) = l.map fun n => UInt8.ofNat n.toNat := rfl
theorem nums_size (l : List Int) : (strOfNums l).size = l.length := by rw [← L_len, L_nums, List.length_map]
theorem rdA {l : List S24} {i : Nat} (h : i < l.length) : rd_T24 l (i : Int) = l[i] := by unfold rd_T24; simp [h]
theorem wsc {i : Nat} (h : i < 9223372036854775806) : wrap64 ((i : Int) + 1) = ((i + 1 : Nat) : Int) := by rw [wrap_id (by omega) (by omega)]; rfl
theorem dropA {α : Type} {l : List α} {i : Nat} (h : i < l.length) : l.drop i = l[i] :: l.drop (i + 1) := by rw [List.drop_eq_getElem_cons h]
theorem bytes8 (n : Int) (k : Nat) (hk : 20 ≤ k) : addr_bytes.f k n = some [n / 72057594037927936 % 256, n / 281474976710656 % 256, n / 1099511627776 % 256, n / 4294967296 % 256, n / 16777216 % 256, n / 65536 % 256, n / 256 % 256, n / 1 % 256] := by
  refine up (fun k => addr_bytes.mono _ k) hk ?_
  kernel_rfl
def okA (x : S24) : Prop := x.f0 = false ∧ x.f1 = 0 ∧ x.f2 ≤ 4294967295
instance (x : S24) : Decidable (okA x) := inferInstanceAs (Decidable (_ ∧ _ ∧ _))
theorem wire_ok {x : S24} (h : okA x) (k : Nat) (hk : 100 ≤ k) : addr_Wire.f k x.f0 x.f1 x.f2 = some (B (word x.f2), 0) := by
  unfold addr_Wire.f addr_Valid.f
  obtain ⟨h1, h2, h3⟩ := h
  rw [h1, h2, if_neg (by decide), if_pos rfl, Option.bind_some, if_pos (decide_eq_true h3), if_neg (by decide), bytes8 _ k (by omega), Option.bind_some, if_pos (by simp)]
  refine congrArg (fun z => some (z, (0 : Int))) (L_inj ?_)
  rw [L_nums, L_B]
  simp [word]
theorem wire_no {x : S24} (h : ¬ okA x) (hf : x.f0 = false) (k : Nat) (hk : 100 ≤ k) : addr_Wire.f k x.f0 x.f1 x.f2 = some (⟨#[]⟩, 3) := by
  unfold addr_Wire.f addr_Valid.f
  rw [hf, if_neg (by decide)]
  by_cases h1 : x.f1 = 0
  · rw [if_pos h1, Option.bind_some, if_neg (by intro h2; exact h ⟨hf, h1, of_decide_eq_true h2⟩)]
  · rw [if_neg h1, Option.bind_some, if_neg (by decide)]
theorem wire_six {x : S24} (hf : x.f0 = true) (k : Nat) (hk : 100 ≤ k) : ∃ b, addr_Wire.f k x.f0 x.f1 x.f2 = some (b, 0) := by
  unfold addr_Wire.f addr_Valid.f
  rw [hf, if_pos rfl, Option.bind_some, if_pos rfl, if_pos rfl, bytes8 _ k (by omega), Option.bind_some, bytes8 _ k (by omega), Option.bind_some, if_pos (by rw [nums_size, nums_size]; simp only [List.length_cons, List.length_nil]; omega)]
  exact ⟨_, rfl⟩
def vals (l : List S24) : List UInt8 := l.flatMap fun x => word x.f2
theorem vals_length (l : List S24) : (vals l).length = 4 * l.length := by
  induction l with
  | nil => rfl
  | cons x l ih => simp only [vals, List.flatMap_cons, List.length_append, List.length_cons] at ih ⊢; rw [ih]; simp [word]; omega
def valA (l : List S24) : ByteArray × Bool := if 1 ≤ l.length ∧ l.length ≤ 60 ∧ ∀ x ∈ l, okA x then (B (vals l), true) else (⟨#[]⟩, false)
theorem val_l (l : List S24) (hl : l.length ≤ 60) : ∀ (n k i : Nat) (out : ByteArray), l.length - i ≤ n → n + 101 < k → i ≤ l.length → out.size ≤ 4 * i →
    option_Value.l0 k out l (l.length : Int) (i : Int) = some (if ∀ x ∈ l.drop i, okA x then (out ++ B (vals (l.drop i)), true) else (⟨#[]⟩, false)) := by
  intro n
  have hend : ∀ (k : Nat) (out : ByteArray), 0 < k → option_Value.l0 k out l (l.length : Int) (l.length : Int) = some (if ∀ x ∈ l.drop l.length, okA x then (out ++ B (vals (l.drop l.length)), true) else (⟨#[]⟩, false)) := by
    intro k out hk
    obtain ⟨k, rfl⟩ : ∃ q, k = q + 1 := ⟨k - 1, by omega⟩
    rw [option_Value.l0, if_neg (by omega), List.drop_length, if_pos (by simp)]
    refine congrArg (fun z => some (z, true)) (L_inj ?_)
    rw [L_append, L_B]; simp [vals]
  induction n with
  | zero =>
    intro k i out hn hk hi ho
    obtain rfl : i = l.length := by omega
    exact hend k out (by omega)
  | succ n ih =>
    intro k i out hn hk hi ho
    by_cases hlt : i < l.length
    · obtain ⟨k, rfl⟩ : ∃ q, k = q + 1 := ⟨k - 1, by omega⟩
      rw [option_Value.l0, if_pos (by omega), if_pos (by omega), if_pos (by omega), rdA hlt, dropA hlt]
      obtain ⟨x, hx⟩ : ∃ x, x = l[i] := ⟨_, rfl⟩
      rw [← hx]
      by_cases hf : x.f0 = true
      · obtain ⟨b, hb⟩ := wire_six hf k (by omega)
        rw [hb, Option.bind_some, if_pos rfl, if_pos hf, if_neg (by intro h; have := (h x (by simp)).1; rw [hf] at this; cases this)]
      · have hf2 : x.f0 = false := by simpa using hf
        by_cases hx2 : okA x
        · rw [wire_ok hx2 k (by omega), Option.bind_some, if_pos rfl, if_neg hf, if_pos (by rw [B_size]; simp only [word, List.length_cons, List.length_nil]; omega), wsc (by omega), ih k (i + 1) _ (by omega) (by omega) (by omega) (by rw [ByteArray.size_append, B_size]; simp only [word, List.length_cons, List.length_nil]; omega)]
          by_cases hr : ∀ y ∈ l.drop (i + 1), okA y
          · rw [if_pos hr, if_pos (by intro y hy; rcases List.mem_cons.1 hy with rfl | hy; exact hx2; exact hr y hy)]
            refine congrArg (fun z => some (z, true)) (L_inj ?_)
            rw [L_append, L_append, L_append, L_B, L_B, L_B]; simp [vals]
          · rw [if_neg hr, if_neg (by intro h; exact hr fun y hy => h y (by simp [hy]))]
        · rw [wire_no hx2 hf2 k (by omega), Option.bind_some, if_neg (by decide), if_neg (by intro h; exact hx2 (h x (by simp)))]
    · obtain rfl : i = l.length := by omega
      exact hend k out (by omega)
theorem val_f (l : List S24) (k : Nat) (hk : 200 < k) : option_Value.f k l = some (valA l) := by
  obtain ⟨k, rfl⟩ : ∃ q, k = q + 1 := ⟨k - 1, by omega⟩
  unfold option_Value.f valA
  by_cases h1 : (l.length : Int) < 1
  · rw [if_pos h1, option_Value.j0, if_pos rfl, if_neg (by omega)]
  rw [if_neg h1, option_Value.j0]
  by_cases h2 : (l.length : Int) > 60
  · rw [if_pos (decide_eq_true h2), if_neg (by omega)]
  rw [if_neg (by rw [decide_eq_false h2]; decide)]
  have := val_l l (by omega) l.length k 0 ⟨#[]⟩ (by omega) (by omega) (by omega) (Nat.zero_le _)
  rw [List.drop_zero] at this
  refine Eq.trans this ?_
  by_cases h3 : ∀ x ∈ l, okA x
  · rw [if_pos h3, if_pos ⟨by omega, by omega, h3⟩]
    refine congrArg (fun z => some (z, true)) (L_inj ?_)
    rw [L_append]; rfl
  · rw [if_neg h3, if_neg (by rintro ⟨_, _, h⟩; exact h3 h)]
theorem wbt (c : UInt8) : wrap64 ((c.toNat : Nat) : Int) = ((c.toNat : Nat) : Int) := by have := c.toNat_lt; exact wrap_id (by omega) (by omega)
theorem wm {n : Nat} (h : n * 256 < 9223372036854775807) : wrap64 ((n : Int) * 256) = ((n * 256 : Nat) : Int) := by rw [wrap_id (by omega) (by omega)]; omega
def foldN (l : List UInt8) (n : Nat) : Nat := l.foldl (fun n b => n * 256 + b.toNat) n
theorem dropN {α : Type} {l : List α} {i : Nat} (h : i < l.length) : l.drop i = l[i] :: l.drop (i + 1) := by rw [List.drop_eq_getElem_cons h]
theorem num_l (s : ByteArray) (hs : s.size ≤ 4) : ∀ (n k i acc : Nat), s.size - i ≤ n → n < k → i ≤ s.size → (acc + 1) * 256 ^ (s.size - i) ≤ 4294967296 →
    option_Number.l0 k s (acc : Int) (i : Int) = some (((foldN ((L s).drop i) acc : Nat) : Int), true) := by
  intro n
  induction n with
  | zero =>
    intro k i acc hn hk hi hb
    obtain ⟨k, rfl⟩ : ∃ q, k = q + 1 := ⟨k - 1, by omega⟩
    rw [option_Number.l0, if_neg (by omega), List.drop_eq_nil_of_le (by rw [L_len]; omega)]; rfl
  | succ n ih =>
    intro k i acc hn hk hi hb
    obtain ⟨k, rfl⟩ : ∃ q, k = q + 1 := ⟨k - 1, by omega⟩
    by_cases hlt : i < s.size
    · have hL : i < (L s).length := by rw [L_len]; exact hlt
      obtain ⟨c, hc⟩ : ∃ c, c = (L s)[i] := ⟨_, rfl⟩
      have hclt := c.toNat_lt
      obtain ⟨d, hd⟩ : ∃ d, s.size - i = d + 1 := ⟨s.size - i - 1, by omega⟩
      have hp : 256 ^ (s.size - i) = 256 * 256 ^ (s.size - (i + 1)) := by rw [hd, show s.size - (i + 1) = d by omega, Nat.pow_succ, Nat.mul_comm]
      have hpos : 0 < 256 ^ (s.size - (i + 1)) := Nat.pow_pos (by decide)
      have hacc : (acc + 1) * 256 ≤ 4294967296 := by
        rw [hp, ← Nat.mul_assoc] at hb
        exact Nat.le_trans (Nat.le_mul_of_pos_right _ hpos) hb
      have hb2 : (acc * 256 + c.toNat + 1) * 256 ^ (s.size - (i + 1)) ≤ 4294967296 := by
        rw [hp, ← Nat.mul_assoc] at hb
        exact Nat.le_trans (Nat.mul_le_mul_right _ (by omega)) hb
      have := ih k (i + 1) (acc * 256 + c.toNat) (by omega) (by omega) (by omega) hb2
      rw [option_Number.l0, if_pos (by omega), if_pos (by omega), bt_L s i hL, dropN hL, ← hc, wbt, wm (by omega), or_i64 acc c.toNat hclt (by omega), wsc (by omega), show foldN (c :: (L s).drop (i + 1)) acc = foldN ((L s).drop (i + 1)) (acc * 256 + c.toNat) from rfl]
      exact this
    · rw [option_Number.l0, if_neg (by omega), List.drop_eq_nil_of_le (by rw [L_len]; omega)]; rfl
theorem isSize_f (n : Int) : option_isSize.f n = some (decide (n = 1 ∨ n = 2 ∨ n = 4)) := by
  unfold option_isSize.f
  by_cases h1 : n = 1
  · rw [if_pos h1, decide_eq_true (.inl h1)]
  rw [if_neg h1]
  by_cases h2 : n = 2
  · rw [if_pos h2, decide_eq_true (.inr (.inl h2))]
  rw [if_neg h2]
  congr 1
  rw [Bool.eq_iff_iff, decide_eq_true_iff]
  simp [h1, h2]
def numP (s : ByteArray) : Int × Bool := if s.size = 1 ∨ s.size = 2 ∨ s.size = 4 then (((foldN (L s) 0 : Nat) : Int), true) else (0, false)
theorem foldN_lt : ∀ (l : List UInt8) (n : Nat), foldN l n < (n + 1) * 256 ^ l.length
  | [], n => by simp [foldN]
  | c :: l, n => by
    have h := foldN_lt l (n * 256 + c.toNat)
    have hc := c.toNat_lt
    show foldN l (n * 256 + c.toNat) < _
    rw [List.length_cons, Nat.pow_succ]
    refine Nat.lt_of_lt_of_le h ?_
    rw [Nat.mul_comm (256 ^ l.length) 256, ← Nat.mul_assoc]
    exact Nat.mul_le_mul_right _ (by omega)
theorem numP_range (s : ByteArray) : 0 ≤ (numP s).1 ∧ (numP s).1 < 4294967296 := by
  unfold numP
  split
  · rename_i h
    have := foldN_lt (L s) 0
    rw [L_len, Nat.zero_add, Nat.one_mul] at this
    have h2 : (256 : Nat) ^ s.size ≤ 4294967296 := by rcases h with h | h | h <;> rw [h] <;> decide
    dsimp only; omega
  · decide
theorem num_f (s : ByteArray) (k : Nat) (hk : 100 < k) : option_Number.f k s = some (numP s) := by
  obtain ⟨k, rfl⟩ : ∃ q, k = q + 1 := ⟨k - 1, by omega⟩
  unfold numP
  by_cases h : s.size = 1 ∨ s.size = 2 ∨ s.size = 4
  · rw [if_pos h]
    have hp : (0 + 1) * 256 ^ (s.size - 0) ≤ 4294967296 := by rcases h with h | h | h <;> rw [h] <;> decide
    have h0 : (1 : Nat) ≤ s.size ∧ s.size ≤ 4 := by omega
    have a := num_l s h0.2 s.size (k + 1) 0 0 (by omega) (by omega) (by omega) hp
    unfold option_Number.f
    rw [isSize_f, Option.bind_some, if_pos (decide_eq_true (by omega))]
    exact a
  · rw [if_neg h]
    unfold option_Number.f
    rw [isSize_f, Option.bind_some, if_neg (by rw [decide_eq_false (by omega)]; decide)]
theorem and7 (n : Int) (h0 : -9223372036854775808 ≤ n) (h1 : n ≤ 9223372036854775807) : Go.bits .and .i64 n 7 = n % 8 := by
  have h2 : (BitVec.ofInt 64 (7 : Int)).toNat = 7 := by decide
  have h3 : (BitVec.ofInt 64 n).toNat = (n % 18446744073709551616).toNat := by rw [BitVec.toNat_ofInt]; rfl
  show IntKind.i64.wrap ((BitVec.ofInt 64 n &&& BitVec.ofInt 64 (7 : Int)).toNat : Int) = _
  rw [BitVec.toNat_and, h2, h3, show (7 : Nat) = 2 ^ 3 - 1 from rfl, Nat.and_two_pow_sub_one_eq_mod, i64_w, wrap_id (by omega) (by omega)]
  omega
theorem most_f (n : Int) (h0 : -9223372036854775808 ≤ n) (h1 : n ≤ 9223372036854775807) : dhcp_most.f n = some (n * 7 / 8) := by
  unfold dhcp_most.f
  rw [and7 n h0 h1, wrap_id (x := n / 8 * 7) (by omega) (by omega), wrap_id (x := n % 8 * 7) (by omega) (by omega), wrap_id (by omega) (by omega)]
  congr 1; omega
theorem half_f (n : Int) : dhcp_half.f n = some (n / 2) := rfl
def timeP (l : List S60) (c o : Int) : Int × Bool := if (fndA (ab l) c).2 = true then numP (fndA (ab l) c).1 else (o, true)
theorem timeP_range (l : List S60) (c : Int) {o : Int} (h0 : 0 ≤ o) (h1 : o < 4294967296) : 0 ≤ (timeP l c o).1 ∧ (timeP l c o).1 < 4294967296 := by
  unfold timeP; split
  · exact numP_range _
  · exact ⟨h0, h1⟩
theorem span_f (a0 a1 a2 : Int) (a3 : ByteArray) (a4 : Bool) (a5 a6 : Int) (a7 : Bool) (a8 a9 : Int) (a10 : Bool) (a11 a12 : Int) (a13 : Bool) (l : List S60) (c o : Int) (hl : l.length ≤ 5864062014800) (k : Nat) (hk : 100 < k) (hk2 : l.length < k) :
    dhcp_span.f k a0 a1 a2 a3 a4 a5 a6 a7 a8 a9 a10 a11 a12 a13 l c o = some (timeP l c o) := by
  unfold dhcp_span.f timeP
  rw [find_f l c hl k hk2, Option.bind_some]
  by_cases h : (fndA (ab l) c).2 = true
  · rw [if_pos h, if_pos h, num_f _ k hk]; rfl
  · rw [if_neg h, if_neg h]
def leaseT (n : Int) (t1 t2 : Int × Bool) : Int × Int × Int × Bool :=
  if t1.2 = true then (if t2.2 = true then (if t2.1 < t1.1 then (0, 0, 0, false) else if n < t2.1 then (0, 0, 0, false) else (n, t1.1, t2.1, true)) else (0, 0, 0, false)) else (0, 0, 0, false)
def leaseP (l : List S60) : Int × Int × Int × Bool :=
  if (fndA (ab l) 51).2 = true then (if (numP (fndA (ab l) 51).1).2 = true then leaseT (numP (fndA (ab l) 51).1).1 (timeP l 58 ((numP (fndA (ab l) 51).1).1 / 2)) (timeP l 59 ((numP (fndA (ab l) 51).1).1 * 7 / 8)) else (0, 0, 0, false)) else (0, 0, 0, false)
theorem lease_end (n : Int) (t1 t2 : Int × Bool) : (if t1.2 = true then (if t2.2 = true then (if t1.1 > t2.1 then some ((0 : Int), (0 : Int), (0 : Int), false) else (if t2.1 > n then some (0, 0, 0, false) else some (n, t1.1, t2.1, true))) else some (0, 0, 0, false)) else some (0, 0, 0, false)) = some (leaseT n t1 t2) := by
  unfold leaseT
  by_cases h3 : t1.2 = true
  case neg => rw [if_neg h3, if_neg h3]
  rw [if_pos h3, if_pos h3]
  by_cases h4 : t2.2 = true
  case neg => rw [if_neg h4, if_neg h4]
  rw [if_pos h4, if_pos h4]
  by_cases h5 : t2.1 < t1.1
  · rw [if_pos h5, if_pos h5]
  rw [if_neg h5, if_neg h5]
  by_cases h6 : n < t2.1
  · rw [if_pos h6, if_pos h6]
  rw [if_neg h6, if_neg h6]
theorem lease_f (a0 a1 a2 : Int) (a3 : ByteArray) (a4 : Bool) (a5 a6 : Int) (a7 : Bool) (a8 a9 : Int) (a10 : Bool) (a11 a12 : Int) (a13 : Bool) (l : List S60) (hl : l.length ≤ 5864062014800) (k : Nat) (hk : 100 < k) (hk2 : l.length < k) :
    dhcp_Lease.f k a0 a1 a2 a3 a4 a5 a6 a7 a8 a9 a10 a11 a12 a13 l = some (leaseP l) := by
  unfold dhcp_Lease.f leaseP
  rw [find_f l 51 hl k hk2, Option.bind_some]
  by_cases h : (fndA (ab l) 51).2 = true
  case neg => rw [if_neg h, if_neg h]
  rw [if_pos h, if_pos h, num_f _ k hk, Option.bind_some]
  by_cases h2 : (numP (fndA (ab l) 51).1).2 = true
  case neg => rw [if_neg h2, if_neg h2]
  have hr := numP_range (fndA (ab l) 51).1
  rw [if_pos h2, if_pos h2, half_f, Option.bind_some, span_f _ _ _ _ _ _ _ _ _ _ _ _ _ _ l 58 _ hl k hk hk2, Option.bind_some, most_f _ (by omega) (by omega), Option.bind_some, span_f _ _ _ _ _ _ _ _ _ _ _ _ _ _ l 59 _ hl k hk hk2, Option.bind_some]
  exact lease_end _ _ _
theorem client_l (s : ByteArray) (hs : s.size ≤ 32) : ∀ (n k i : Nat), s.size - i ≤ n → n < k → i ≤ s.size → dhcp_client.l0 k s (s.size : Int) (i : Int) = some (((L s).drop i).all vis) := by
  intro n
  induction n with
  | zero =>
    intro k i hn hk hi
    obtain ⟨k, rfl⟩ : ∃ q, k = q + 1 := ⟨k - 1, by omega⟩
    rw [dhcp_client.l0, if_neg (by omega), List.drop_eq_nil_of_le (by rw [L_len]; omega)]; rfl
  | succ n ih =>
    intro k i hn hk hi
    obtain ⟨k, rfl⟩ : ∃ q, k = q + 1 := ⟨k - 1, by omega⟩
    by_cases hlt : i < s.size
    · have hL : i < (L s).length := by rw [L_len]; exact hlt
      rw [dhcp_client.l0, if_pos (by omega), if_pos (by omega), if_pos (by omega), bt_L s i hL, drop_at hL, List.all_cons]
      by_cases h1 : (L s)[i].toNat < 33
      · rw [if_pos (by omega), show vis (L s)[i] = false from decide_eq_false (by omega)]; rfl
      · rw [if_neg (by omega)]
        by_cases h2 : 126 < (L s)[i].toNat
        · rw [if_pos (by omega), show vis (L s)[i] = false from decide_eq_false (by omega)]; rfl
        · rw [if_neg (by omega), show vis (L s)[i] = true from decide_eq_true (by omega), Bool.true_and, wsucc (by omega)]
          exact ih k (i + 1) (by omega) (by omega) (by omega)
    · rw [dhcp_client.l0, if_neg (by omega), List.drop_eq_nil_of_le (by rw [L_len]; omega)]; rfl
theorem client_f (s : ByteArray) (k : Nat) (hk : 100 < k) : dhcp_client.f k s = some (cli s) := by
  obtain ⟨k, rfl⟩ : ∃ q, k = q + 1 := ⟨k - 1, by omega⟩
  unfold dhcp_client.f cli
  have he : s.toList = ([] : List UInt8) ↔ s.size = 0 := by rw [toList_L, ← L_len]; exact List.length_eq_zero_iff.symm
  by_cases h0 : s.size = 0
  · rw [if_pos (he.2 h0), dhcp_client.j0, if_pos rfl, decide_eq_false (by omega)]; rfl
  · rw [if_neg (fun e => h0 (he.1 e)), dhcp_client.j0]
    by_cases h : s.size ≤ 32
    · rw [decide_eq_false (show ¬ ((s.size : Int) > 32) by omega), if_neg (by decide), decide_eq_true (by omega), Bool.true_and]
      exact client_l s h s.size k 0 (by omega) (by omega) (by omega)
    · rw [decide_eq_true (show (s.size : Int) > 32 by omega), if_pos rfl, decide_eq_false (by omega)]; rfl
theorem ipv4_f (x : S24) (h0 : 0 ≤ x.f2) : dhcp_ipv4.f x.f0 x.f1 x.f2 = some (decide (okA x)) := by
  unfold dhcp_ipv4.f addr_Valid.f
  obtain ⟨b, hi, lo⟩ := x
  simp only at h0 ⊢
  cases b
  · by_cases h1 : hi = 0
    · subst h1
      by_cases h2 : lo ≤ 4294967295
      · have h3 : lo < 4294967296 := by omega
        simp [okA, h2, h3]
      · have h3 : ¬ lo < 4294967296 := by omega
        simp [okA, h2, h3]
    · simp [okA, h1]
  · simp [okA]
def opr (n : Int) : Int := if n = 1 ∨ n = 3 ∨ n = 4 ∨ n = 7 ∨ n = 8 then 1 else if n = 2 ∨ n = 5 ∨ n = 6 then 2 else 0
theorem operation_f (n : Int) (k : Nat) (hk : 1 ≤ k) : dhcp_operation.f k n = some (opr n) := by
  obtain ⟨k, rfl⟩ : ∃ q, k = q + 1 := ⟨k - 1, by omega⟩
  unfold dhcp_operation.f opr
  simp only [dhcp_operation.j0]
  by_cases h1 : n = 1
  · simp [h1]
  by_cases h3 : n = 3
  · simp [h3]
  by_cases h4 : n = 4
  · simp [h4]
  by_cases h7 : n = 7
  · simp [h7]
  by_cases h8 : n = 8
  · simp [h8]
  by_cases h2 : n = 2
  · simp [h2]
  by_cases h5 : n = 5
  · simp [h5]
  by_cases h6 : n = 6
  · simp [h6]
  simp [h1, h2, h3, h4, h5, h6, h7, h8]
theorem opr_zero (n : Int) : opr n = 0 ↔ ¬ (1 ≤ n ∧ n ≤ 8) := by
  unfold opr
  split
  · constructor
    · intro h; cases h
    · intro h; omega
  · split
    · constructor
      · intro h; cases h
      · intro h; omega
    · constructor
      · intro _; omega
      · intro _; rfl
def zeroA (x : S24) : Prop := x.f0 = false ∧ x.f1 = 0 ∧ x.f2 = 0
instance (x : S24) : Decidable (zeroA x) := inferInstanceAs (Decidable (_ ∧ _ ∧ _))
def vhd (a0 a1 a2 : Int) (a3 : ByteArray) (x y z : S24) (a13 : Bool) : Bool :=
  decide ((1 ≤ a0 ∧ a0 ≤ 8) ∧ (0 ≤ a1 ∧ a1 < 4294967296) ∧ (0 ≤ a2 ∧ a2 < 65536) ∧ cli a3 = true ∧ okA x ∧ okA y ∧ okA z ∧ (a13 = true ∨ zeroA z))
def vpk (a0 a1 a2 : Int) (a3 : ByteArray) (x y z : S24) (a13 : Bool) (l : List S60) : Bool := vhd a0 a1 a2 a3 x y z a13 && decide (vld (ab l))
theorem ne_zeroA (x : S24) : (x.f0 || (!(x.f1 == 0) || (!(x.f2 == 0)))) = !decide (zeroA x) := by
  obtain ⟨b, h, l⟩ := x
  cases b
  · by_cases h1 : h = 0
    · by_cases h2 : l = 0
      · subst h1; subst h2; rfl
      · subst h1; simp [zeroA, h2]
    · simp [zeroA, h1]
  · simp [zeroA]
theorem vhd_false {a0 a1 a2 : Int} {a3 : ByteArray} {x y z : S24} {a13 : Bool} {l : List S60} (h : ¬ ((1 ≤ a0 ∧ a0 ≤ 8) ∧ (0 ≤ a1 ∧ a1 < 4294967296) ∧ (0 ≤ a2 ∧ a2 < 65536) ∧ cli a3 = true ∧ okA x ∧ okA y ∧ okA z ∧ (a13 = true ∨ zeroA z))) : vpk a0 a1 a2 a3 x y z a13 l = false := by
  unfold vpk vhd; rw [decide_eq_false h]; rfl
theorem vhd_true {a0 a1 a2 : Int} {a3 : ByteArray} {x y z : S24} {a13 : Bool} {l : List S60} (h : (1 ≤ a0 ∧ a0 ≤ 8) ∧ (0 ≤ a1 ∧ a1 < 4294967296) ∧ (0 ≤ a2 ∧ a2 < 65536) ∧ cli a3 = true ∧ okA x ∧ okA y ∧ okA z ∧ (a13 = true ∨ zeroA z)) : vpk a0 a1 a2 a3 x y z a13 l = decide (vld (ab l)) := by
  unfold vpk vhd; rw [decide_eq_true h, Bool.true_and]
theorem dtail (a0 a1 a2 : Int) (a3 : ByteArray) (x y z : S24) (a13 : Bool) (l : List S60) (hx : 0 ≤ x.f2) (hy : 0 ≤ y.f2) (hz : 0 ≤ z.f2) (hl : ∀ o ∈ l, o.f1.size ≤ 140737488351232) (k : Nat) (hk : 100 < k)
    (h0 : 1 ≤ a0 ∧ a0 ≤ 8) (h1 : 0 ≤ a1 ∧ a1 < 4294967296) (h2 : 0 ≤ a2 ∧ a2 < 65536) (hc : cli a3 = true) :
    dhcp_Valid.j0 (k + 1) false a0 a1 a2 a3 x.f0 x.f1 x.f2 y.f0 y.f1 y.f2 z.f0 z.f1 z.f2 a13 l = some (vpk a0 a1 a2 a3 x y z a13 l) := by
  rw [dhcp_Valid.j0, if_neg Bool.false_ne_true, ipv4_f x hx, Option.bind_some]
  by_cases hx' : okA x
  case neg => rw [decide_eq_false hx', if_neg Bool.false_ne_true, vhd_false (fun h => hx' h.2.2.2.2.1)]
  rw [decide_eq_true hx', if_pos rfl, ipv4_f y hy, Option.bind_some]
  by_cases hy' : okA y
  case neg => rw [decide_eq_false hy', if_neg Bool.false_ne_true, vhd_false (fun h => hy' h.2.2.2.2.2.1)]
  rw [decide_eq_true hy', if_pos rfl, ipv4_f z hz, Option.bind_some]
  by_cases hz' : okA z
  case neg => rw [decide_eq_false hz', if_neg Bool.false_ne_true, vhd_false (fun h => hz' h.2.2.2.2.2.2.1)]
  rw [decide_eq_true hz', if_pos rfl, ne_zeroA z, valid_f l hl k hk]
  by_cases h13 : a13 = true
  · rw [if_pos h13]
    rw [vhd_true ⟨h0, h1, h2, hc, hx', hy', hz', .inl h13⟩]
    rfl
  · rw [if_neg h13]
    by_cases hz0 : zeroA z
    · rw [decide_eq_true hz0, Bool.not_true, if_neg Bool.false_ne_true]
      rw [vhd_true ⟨h0, h1, h2, hc, hx', hy', hz', .inr hz0⟩]
      rfl
    · rw [decide_eq_false hz0, Bool.not_false, if_pos rfl, vhd_false (fun h => h.2.2.2.2.2.2.2.elim h13 hz0)]
theorem dj_true (k : Nat) (a0 a1 a2 : Int) (a3 : ByteArray) (b4 : Bool) (a5 a6 : Int) (b7 : Bool) (a8 a9 : Int) (b10 : Bool) (a11 a12 : Int) (a13 : Bool) (l : List S60) :
    dhcp_Valid.j0 (k + 1) true a0 a1 a2 a3 b4 a5 a6 b7 a8 a9 b10 a11 a12 a13 l = some false := by rw [dhcp_Valid.j0, if_pos rfl]
theorem dvalid_f (a0 a1 a2 : Int) (a3 : ByteArray) (x y z : S24) (a13 : Bool) (l : List S60) (hx : 0 ≤ x.f2) (hy : 0 ≤ y.f2) (hz : 0 ≤ z.f2) (hl : ∀ o ∈ l, o.f1.size ≤ 140737488351232) (k : Nat) (hk : 200 < k) :
    dhcp_Valid.f k a0 a1 a2 a3 x.f0 x.f1 x.f2 y.f0 y.f1 y.f2 z.f0 z.f1 z.f2 a13 l = some (vpk a0 a1 a2 a3 x y z a13 l) := by
  obtain ⟨k, rfl⟩ : ∃ q, k = q + 1 := ⟨k - 1, by omega⟩
  unfold dhcp_Valid.f
  rw [operation_f a0 (k + 1) (by omega), Option.bind_some, client_f a3 (k + 1) (by omega), Option.bind_some]
  by_cases h0 : 1 ≤ a0 ∧ a0 ≤ 8
  case neg => rw [if_pos ((opr_zero a0).2 h0), dj_true k, vhd_false (fun h => h0 h.1)]
  rw [if_neg (fun e => (opr_zero a0).1 e h0)]
  by_cases h1 : a1 < 0
  · rw [if_pos h1, dj_true k, vhd_false (fun h => by have := h.2.1; omega)]
  rw [if_neg h1]
  by_cases h2 : a1 ≥ 4294967296
  · rw [if_pos h2, dj_true k, vhd_false (fun h => by have := h.2.1; omega)]
  rw [if_neg h2]
  by_cases h3 : a2 < 0
  · rw [if_pos h3, dj_true k, vhd_false (fun h => by have := h.2.2.1; omega)]
  rw [if_neg h3]
  by_cases h4 : a2 ≥ 65536
  · rw [if_pos (by omega), dj_true k, vhd_false (fun h => by have := h.2.2.1; omega)]
  rw [if_neg (by omega)]
  by_cases hc : cli a3 = true
  · rw [hc]; exact dtail a0 a1 a2 a3 x y z a13 l hx hy hz hl k (by omega) h0 (by omega) (by omega) hc
  · rw [Bool.not_eq_true] at hc
    rw [hc, Bool.not_false, dj_true k, vhd_false (fun h => by rw [hc] at h; cases h.2.2.2.1)]
theorem vpk_parts {a0 a1 a2 : Int} {a3 : ByteArray} {x y z : S24} {a13 : Bool} {l : List S60} (h : vpk a0 a1 a2 a3 x y z a13 l = true) :
    ((1 ≤ a0 ∧ a0 ≤ 8) ∧ (0 ≤ a1 ∧ a1 < 4294967296) ∧ (0 ≤ a2 ∧ a2 < 65536) ∧ cli a3 = true ∧ okA x ∧ okA y ∧ okA z ∧ (a13 = true ∨ zeroA z)) ∧ vld (ab l) := by
  unfold vpk vhd at h
  rw [Bool.and_eq_true] at h
  exact ⟨of_decide_eq_true h.1, of_decide_eq_true h.2⟩
end Go.Proofs.YtlabnocmmeciaaaDoor.PLN


namespace Go.Proofs.YtlabnocmmeciaaaDoor.LAW
open Go Go.RowKit Go.Proofs.YtlabnocmmeciaaaDoorW.PrintWords Go.Proofs.YtlabnocmmeciaaaDoorW.PrintLast Go.Proofs.YtlabnocmmeciaaaDoorW.PrintMore Go.Proofs.YtlabnocmmeciaaaDoor.DN Go.Proofs.YtlabnocmmeciaaaDoor.OPT Go.Proofs.YtlabnocmmeciaaaDoor.PLN Go.Proofs.YtlabnocmmeciaaaDoor.Pa Go.Proofs.YtlabnocmmeciaaaDoor.BQ Go.Proofs.YtlabnocmmeciaaaDoor.STN
set_option linter.unusedVariables false
set_option linter.unusedSimpArgs false
def okB (a : S24) : Prop := okA a ∧ 0 ≤ a.f2
structure J (c h : ByteArray) (s : Stn) : Prop where
  ec : s.c = c
  eh : s.h = h
  cli : cli c = true
  host : h.size ≤ 63
  x0 : 0 ≤ s.xid
  x1 : s.xid ≤ 4294967295
  se : 0 ≤ s.se ∧ s.se ≤ 4294967295
  t2 : 0 ≤ s.t2 ∧ s.t2 ≤ 4294967295
  un : 0 ≤ s.un ∧ s.un ≤ 4294967295
  st : 0 ≤ s.st ∧ s.st ≤ 5
  tr : s.st = 1 ∨ s.st = 2 → 1 ≤ s.tr ∧ s.tr ≤ 4
  sv : 0 ≤ s.sv ∧ s.sv < 65536
  a : okB s.a
theorem zr : (0 : Int) ≤ 0 ∧ (0 : Int) ≤ 4294967295 := by decide
theorem zs : (0 : Int) ≤ 0 ∧ (0 : Int) ≤ 5 := by decide
theorem zv : (0 : Int) ≤ 0 ∧ (0 : Int) < 65536 := by decide
theorem z12 {P : Prop} (h : (0 : Int) = 1 ∨ (0 : Int) = 2) : P := by rcases h with h | h <;> exact absurd h (by decide)
theorem t12 {P : Prop} (h : (3 : Int) = 1 ∨ (3 : Int) = 2) : P := by rcases h with h | h <;> exact absurd h (by decide)
theorem zf2 : 0 ≤ zA.f2 := by decide
def pkV (m : S39) : Bool := vpk m.f0 m.f1 m.f2 m.f3 m.f4 m.f5 m.f6 m.f7 m.f8
/-- What a message is made of, as far as its check asks. -/
structure Fit (m : S39) : Prop where
  a : 0 ≤ m.f4.f2
  b : 0 ≤ m.f5.f2
  c : 0 ≤ m.f6.f2
  o : ∀ o ∈ m.f8, o.f1.size ≤ 140737488351232
structure OkM (c : ByteArray) (x : Int) (m : S39) : Prop where
  x : m.f1 = x
  c : m.f3 = c
  v : pkV m = true
  fit : Fit m
theorem pkV_f (m : S39) (h : Fit m) (k : Nat) (hk : 200 < k) : dhcp_Valid.f k m.f0 m.f1 m.f2 m.f3 m.f4.f0 m.f4.f1 m.f4.f2 m.f5.f0 m.f5.f1 m.f5.f2 m.f6.f0 m.f6.f1 m.f6.f2 m.f7 m.f8 = some (pkV m) :=
  dvalid_f m.f0 m.f1 m.f2 m.f3 m.f4 m.f5 m.f6 m.f7 m.f8 h.a h.b h.c h.o k hk
theorem okA_zA : okA zA := ⟨rfl, rfl, by decide⟩
theorem okB_zA : okB zA := ⟨okA_zA, by decide⟩
theorem want_f (a : S24) : ∃ b, option_Value.f 1000 [a] = some (wantF a, b) := by
  refine ⟨(valA [a]).2, ?_⟩
  unfold wantF
  rw [val_f [a] 1000 (by omega)]; rfl
theorem want_size (a : S24) : (wantF a).size ≤ 4 := by
  unfold wantF
  rw [val_f [a] 1000 (by omega)]
  show (valA [a]).1.size ≤ 4
  unfold valA
  split
  · rw [B_size, vals_length]; simp
  · exact Nat.zero_le _
theorem valid_of (y : S24) : addr_Valid.f y.f0 y.f1 y.f2 = some (validF y) := by
  have : ∃ b, addr_Valid.f y.f0 y.f1 y.f2 = some b := by
    unfold addr_Valid.f
    by_cases h1 : y.f0 = true
    · rw [if_pos h1]; exact ⟨_, rfl⟩
    · rw [if_neg h1]
      by_cases h2 : y.f1 = 0
      · rw [if_pos h2]; exact ⟨_, rfl⟩
      · rw [if_neg h2]; exact ⟨_, rfl⟩
  obtain ⟨b, hb⟩ := this
  unfold validF; rw [hb]; rfl
theorem vld_nil : vld (ab []) := ⟨⟨by decide, by decide, fun o h => by cases h⟩, List.nodup_nil, fun o h => by cases h⟩
theorem vld_one (v : ByteArray) (x : Int) (hx : 1 ≤ x ∧ x ≤ 254) (hv : v.size ≤ 63) : vld (ab [(⟨x, v⟩ : S60)]) := by
  have e : ab [(⟨x, v⟩ : S60)] = [(x, L v)] := rfl
  have hl := L_len v
  rw [e]
  refine ⟨⟨by simp, by simp only [sz]; omega, fun o h => ?_⟩, by simp, fun o h => ?_⟩ <;> (rw [List.mem_singleton] at h; subst h; dsimp only; omega)
theorem vld_two (v u : ByteArray) (hv : v.size ≤ 63) (hu : u.size ≤ 63) : vld (ab [(⟨50, v⟩ : S60), ⟨12, u⟩]) := by
  have e : ab [(⟨50, v⟩ : S60), ⟨12, u⟩] = [(50, L v), (12, L u)] := rfl
  have hl := L_len v
  have hm := L_len u
  rw [e]
  refine ⟨⟨by simp, by simp only [sz]; omega, fun o h => ?_⟩, by simp, fun o h => ?_⟩ <;> (rcases List.mem_cons.1 h with rfl | h; · dsimp only; omega) <;> (rw [List.mem_singleton] at h; subst h; dsimp only; omega)
/-- The options that a station's message may have. -/
inductive Opts : List S60 → Prop
  | no : Opts []
  | want (a : S24) : Opts [⟨50, wantF a⟩]
theorem host_ok {l : List S60} (hl : Opts l) (h : ByteArray) (hh : h.size ≤ 63) (ki : Int) : vld (ab (hostF h ki l)) ∧ ∀ o ∈ hostF h ki l, o.f1.size ≤ 140737488351232 := by
  unfold hostF
  cases hl with
  | no =>
    split
    · exact ⟨vld_one h 12 (by decide) hh, fun o ho => by rw [List.nil_append, List.mem_singleton] at ho; subst ho; dsimp only; omega⟩
    · exact ⟨vld_nil, fun o ho => by cases ho⟩
  | want a =>
    have hw := want_size a
    split
    · exact ⟨vld_two _ h (by omega) hh, fun o ho => by
        rcases List.mem_append.1 ho with ho | ho <;> (rw [List.mem_singleton] at ho; subst ho; dsimp only; omega)⟩
    · exact ⟨vld_one _ 50 (by decide) (by omega), fun o ho => by rw [List.mem_singleton] at ho; subst ho; dsimp only; omega⟩
section
variable {c h : ByteArray} {s : Stn}
theorem msg_ok (hJ : J c h s) (hx : ¬ 4294967295 ≤ s.xid) {ki sv : Int} (hk : 1 ≤ ki ∧ ki ≤ 8) (hs : 0 ≤ sv ∧ sv < 65536) {cur : S24} (hc : okB cur) {l : List S60} (hl : Opts l) : OkM c (s.xid + 1) (msgF s ki sv cur l) := by
  have hx0 := hJ.x0
  obtain ⟨hv, ho⟩ := host_ok hl s.h (by rw [hJ.eh]; exact hJ.host) ki
  refine ⟨rfl, hJ.ec, ?_, ⟨hc.2, zf2, zf2, ho⟩⟩
  show vpk ki (s.xid + 1) sv s.c cur zA zA false (hostF s.h ki l) = true
  rw [vhd_true ⟨hk, ⟨by omega, by omega⟩, hs, by rw [hJ.ec]; exact hJ.cli, hc.1, okA_zA, okA_zA, .inr ⟨rfl, rfl, rfl⟩⟩]
  exact decide_eq_true hv
/-- What a call may leave: at most one message, of the next number. -/
def Good (c h : ByteArray) (s : Stn) (r : Stn × List S39) : Prop := J c h r.1 ∧ ((r.2 = [] ∧ r.1.xid = s.xid) ∨ ∃ m, r.2 = [m] ∧ r.1.xid = s.xid + 1 ∧ OkM c (s.xid + 1) m)
theorem Good.same (hJ : J c h s) : Good c h s (s, []) := ⟨hJ, .inl ⟨rfl, rfl⟩⟩
theorem J.init (hJ : J c h s) : J c h (initF s) := ⟨hJ.ec, hJ.eh, hJ.cli, hJ.host, hJ.x0, hJ.x1, zr, zr, zr, zs, z12, zv, okB_zA⟩
theorem Good.init (hJ : J c h s) : Good c h s (initF s, []) := ⟨hJ.init, .inl ⟨rfl, rfl⟩⟩
theorem step_good (hJ : J c h s) {ki sv : Int} (hk : 1 ≤ ki ∧ ki ≤ 8) (hs : 0 ≤ sv ∧ sv < 65536) {cur : S24} (hc : okB cur) {l : List S60} (hl : Opts l) {state tr now : Int} (hst : 0 ≤ state ∧ state ≤ 5) (htr : state = 1 ∨ state = 2 → 1 ≤ tr ∧ tr ≤ 4) (hn : 0 ≤ now ∧ now ≤ 4294967295) :
    Good c h s (stepF s ki sv cur l state tr now) := by
  unfold stepF
  by_cases hx : 4294967295 ≤ s.xid
  · rw [if_pos hx]; exact Good.same hJ
  · rw [if_neg hx]
    have hx0 := hJ.x0
    exact ⟨⟨hJ.ec, hJ.eh, hJ.cli, hJ.host, by show 0 ≤ s.xid + 1; omega, by show s.xid + 1 ≤ 4294967295; omega, hn, hJ.t2, hJ.un, hst, htr, hJ.sv, hJ.a⟩, .inr ⟨_, rfl, rfl, msg_ok hJ hx hk hs hc hl⟩⟩
theorem tick_good (hJ : J c h s) {now : Int} (hn : 0 ≤ now ∧ now ≤ 4294967295) : Good c h s (tickF s now) := by
  have hst := hJ.st
  have htr := hJ.tr
  unfold tickF
  by_cases h0 : s.st = 0
  · rw [if_pos h0]; exact step_good hJ (by decide) (by decide) okB_zA .no (by decide) (fun _ => by decide) hn
  rw [if_neg h0]
  by_cases h1 : s.st = 1 ∨ s.st = 2
  · rw [if_pos h1]
    have htr := htr h1
    unfold askF
    split
    · exact Good.same hJ
    split
    · exact Good.init hJ
    split
    · exact step_good hJ (by decide) (by decide) okB_zA .no hst (fun _ => by omega) hn
    · exact step_good hJ (by decide) hJ.sv okB_zA (.want _) hst (fun _ => by omega) hn
  rw [if_neg h1]
  have hsv : ∀ b : Bool, 0 ≤ (if b = true then 0 else s.sv) ∧ (if b = true then 0 else s.sv) < 65536 := fun b => by cases b; exact hJ.sv; exact zv
  unfold renewF
  split
  · exact Good.init hJ
  split
  · exact step_good hJ (by decide) (hsv _) hJ.a .no (by decide) (fun hq => by rcases hq with hq | hq <;> exact absurd hq (by decide)) hn
  split
  · exact step_good hJ (by decide) (hsv _) hJ.a .no (by decide) (fun hq => by rcases hq with hq | hq <;> exact absurd hq (by decide)) hn
  split
  · exact step_good hJ (by decide) (hsv _) hJ.a .no (by decide) (fun hq => by rcases hq with hq | hq <;> exact absurd hq (by decide)) hn
  split
  · exact step_good hJ (by decide) (hsv _) hJ.a .no (by decide) (fun hq => by rcases hq with hq | hq <;> exact absurd hq (by decide)) hn
  · exact Good.same hJ
theorem give_good (hJ : J c h s) {ki : Int} (hk : 1 ≤ ki ∧ ki ≤ 8) : Good c h s (giveF s ki) := by
  unfold giveF
  split
  · split
    · exact Good.init hJ
    · rename_i hx
      have hx0 := hJ.x0
      exact ⟨⟨hJ.ec, hJ.eh, hJ.cli, hJ.host, by show 0 ≤ s.xid + 1; omega, by show s.xid + 1 ≤ 4294967295; omega, zr, zr, zr, zs, z12, zv, okB_zA⟩, .inr ⟨_, rfl, rfl, msg_ok hJ hx hk hJ.sv hJ.a .no⟩⟩
  · exact Good.same hJ
theorem leaseT_le {n : Int} {t1 t2 : Int × Bool} (h1 : 0 ≤ t1.1) (hn : n < 4294967296) : (leaseT n t1 t2).2.2.2 = true → 0 ≤ (leaseT n t1 t2).2.1 ∧ (leaseT n t1 t2).2.1 ≤ (leaseT n t1 t2).2.2.1 ∧ (leaseT n t1 t2).2.2.1 ≤ (leaseT n t1 t2).1 ∧ (leaseT n t1 t2).1 ≤ 4294967295 := by
  unfold leaseT
  intro h
  by_cases h3 : t1.2 = true
  case neg => rw [if_neg h3] at h; cases h
  rw [if_pos h3] at h ⊢
  by_cases h4 : t2.2 = true
  case neg => rw [if_neg h4] at h; cases h
  rw [if_pos h4] at h ⊢
  by_cases h5 : t2.1 < t1.1
  · rw [if_pos h5] at h; cases h
  rw [if_neg h5] at h ⊢
  by_cases h6 : n < t2.1
  · rw [if_pos h6] at h; cases h
  rw [if_neg h6]
  dsimp only
  omega
theorem leaseP_le (l : List S60) : (leaseP l).2.2.2 = true → 0 ≤ (leaseP l).2.1 ∧ (leaseP l).2.1 ≤ (leaseP l).2.2.1 ∧ (leaseP l).2.2.1 ≤ (leaseP l).1 ∧ (leaseP l).1 ≤ 4294967295 := by
  unfold leaseP
  intro h
  by_cases h1 : (fndA (ab l) 51).2 = true
  case neg => rw [if_neg h1] at h; cases h
  rw [if_pos h1] at h ⊢
  by_cases h2 : (numP (fndA (ab l) 51).1).2 = true
  case neg => rw [if_neg h2] at h; cases h
  rw [if_pos h2] at h ⊢
  have hr := numP_range (fndA (ab l) 51).1
  exact leaseT_le (timeP_range l 58 (by omega) (by omega)).1 hr.2 h
def recvP (s : Stn) (p : S39) (now : Int) : Stn × List S39 := recvF s p.f0 p.f1 p.f2 p.f3 p.f5 (leaseP p.f8).1 (leaseP p.f8).2.1 (leaseP p.f8).2.2.1 (leaseP p.f8).2.2.2 now
theorem vpk_of {p : S39} (hv : pkV p = true) : (0 ≤ p.f2 ∧ p.f2 < 65536) ∧ okA p.f5 ∧ p.f8.length ≤ 32 := by
  obtain ⟨h1, h2⟩ := vpk_parts hv
  refine ⟨h1.2.2.1, h1.2.2.2.2.2.1, ?_⟩
  have := h2.1.1
  rwa [ab_length] at this
theorem recv_good (hJ : J c h s) {p : S39} (hv : pkV p = true) (hf : Fit p) {now : Int} (hn : 0 ≤ now ∧ now ≤ 4294967295) : Good c h s (recvP s p now) := by
  obtain ⟨hsv, hy, _⟩ := vpk_of hv
  have hyb : okB p.f5 := ⟨hy, hf.b⟩
  have hse := hJ.se
  unfold recvP recvF
  split
  · exact Good.same hJ
  split
  · unfold offF
    split
    · rename_i hx
      have hx := hx.2.2.2
      have hx0 := hJ.x0
      have hJ2 : J c h (⟨s.c, s.h, s.st, s.xid, p.f2, p.f5, s.t1, s.t2, s.un, s.se, s.tr⟩ : Stn) := ⟨hJ.ec, hJ.eh, hJ.cli, hJ.host, hJ.x0, hJ.x1, hJ.se, hJ.t2, hJ.un, hJ.st, hJ.tr, hsv, hyb⟩
      exact ⟨⟨hJ.ec, hJ.eh, hJ.cli, hJ.host, by show 0 ≤ s.xid + 1; omega, by show s.xid + 1 ≤ 4294967295; omega, hn, hJ.t2, hJ.un, (by decide : (0 : Int) ≤ 2 ∧ (2 : Int) ≤ 5), fun _ => (by decide : (1 : Int) ≤ 1 ∧ (1 : Int) ≤ 4), hsv, hyb⟩, .inr ⟨_, rfl, rfl, msg_ok hJ2 (by show ¬ 4294967295 ≤ s.xid; omega) (by decide) hsv okB_zA (.want _)⟩⟩
    · exact Good.same hJ
  split
  · unfold ackF
    split
    · rename_i hk
      have hl := leaseP_le p.f8 hk.1
      exact ⟨⟨hJ.ec, hJ.eh, hJ.cli, hJ.host, hJ.x0, hJ.x1, hJ.se, ⟨by show 0 ≤ min _ _; omega, by show min _ _ ≤ _; omega⟩, ⟨by show 0 ≤ min _ _; omega, by show min _ _ ≤ _; omega⟩, (by decide : (0 : Int) ≤ 3 ∧ (3 : Int) ≤ 5), t12, hsv, hJ.a⟩, .inl ⟨rfl, rfl⟩⟩
    · exact Good.same hJ
  split
  · exact Good.init hJ
  · exact Good.same hJ
end
structure Hd (sent until_ : Int) (s : Stn) : Prop where
  u : has s.st = true → s.un ≤ until_
  s : s.st ≠ 0 → s.se = sent
section
variable {sent until_ : Int} {c h : ByteArray} {s : Stn}
def sentF (l : List S39) (now sent : Int) : Int := if l.length = 0 then sent else now
theorem Hd.same (hH : Hd sent until_ s) (now : Int) : Hd (sentF [] now sent) until_ s := hH
theorem Hd.none (s' : Stn) (hs : s'.st = 0) (x y : Int) : Hd x y s' := ⟨fun hq => by rw [hs] at hq; exact absurd hq (by decide), fun hq => absurd hs hq⟩
theorem step_hd (hH : Hd sent until_ s) {ki sv : Int} {cur : S24} {l : List S60} {state tr now : Int} (hst : has state = true → has s.st = true) : Hd (sentF (stepF s ki sv cur l state tr now).2 now sent) until_ (stepF s ki sv cur l state tr now).1 := by
  unfold stepF
  split
  · exact hH
  · exact ⟨fun hq => hH.u (hst hq), fun _ => rfl⟩
theorem tick_hd (hJ : J c h s) (hH : Hd sent until_ s) (now : Int) : Hd (sentF (tickF s now).2 now sent) until_ (tickF s now).1 := by
  have hst := hJ.st
  unfold tickF
  by_cases h0 : s.st = 0
  · rw [if_pos h0]; exact step_hd hH (fun hq => absurd hq (by decide))
  rw [if_neg h0]
  by_cases h1 : s.st = 1 ∨ s.st = 2
  · rw [if_pos h1]
    unfold askF
    split
    · exact hH
    split
    · exact Hd.none _ rfl _ _
    split
    · exact step_hd hH (fun hq => hq)
    · exact step_hd hH (fun hq => hq)
  rw [if_neg h1]
  have hh : ∀ x : Int, has x = true → has s.st = true := fun _ _ => by
    unfold has; exact decide_eq_true (by omega)
  unfold renewF
  split
  · exact Hd.none _ rfl _ _
  split
  · exact step_hd hH (hh _)
  split
  · exact step_hd hH (hh _)
  split
  · exact step_hd hH (hh _)
  split
  · exact step_hd hH (hh _)
  · exact hH
theorem give_hd (hH : Hd sent until_ s) (ki now : Int) : Hd (sentF (giveF s ki).2 now sent) 0 (giveF s ki).1 := by
  unfold giveF
  split
  · split
    · exact Hd.none _ rfl _ _
    · exact Hd.none _ rfl _ _
  · rename_i hn
    exact ⟨fun hq => absurd hq hn, hH.s⟩
/-- The time until which an Ack's address is held, as the law reckons it. -/
def ackU (p : S39) (s : Stn) (client : ByteArray) (sent until_ : Int) : Int :=
  if p.f0 = 5 ∧ p.f1 = s.xid ∧ p.f3 = client ∧ (leaseP p.f8).2.2.2 = true ∧ p.f5.f0 = s.a.f0 ∧ p.f5.f1 = s.a.f1 ∧ p.f5.f2 = s.a.f2 then max until_ (min (sent + (leaseP p.f8).1) 4294967295) else until_
def nakU (p : S39) (s : Stn) (client : ByteArray) (until_ : Int) : Int := if p.f0 = 6 ∧ p.f1 = s.xid ∧ p.f3 = client ∧ s.st ≠ 3 then 0 else until_
theorem ackU_le (p : S39) (client : ByteArray) : until_ ≤ ackU p s client sent until_ := by
  unfold ackU; split <;> omega
theorem recv_hd (hJ : J c h s) (hH : Hd sent until_ s) (p : S39) (now : Int) : Hd (sentF (recvP s p now).2 now sent) (nakU p s c (ackU p s c sent until_)) (recvP s p now).1 := by
  have hup : has s.st = true → s.un ≤ ackU p s c sent until_ := fun hq => Int.le_trans (hH.u hq) (ackU_le p c)
  have hc := hJ.ec
  have keep : ¬ (p.f0 = 6 ∧ p.f1 = s.xid ∧ p.f3 = c ∧ s.st ≠ 3) → Hd sent (nakU p s c (ackU p s c sent until_)) s := fun hn => by
    unfold nakU; rw [if_neg hn]; exact ⟨hup, hH.s⟩
  unfold recvP recvF
  by_cases h1 : ¬ (p.f1 = s.xid ∧ p.f3 = s.c)
  · rw [if_pos h1]
    exact keep (fun hq => h1 ⟨hq.2.1, by rw [hc]; exact hq.2.2.1⟩)
  rw [if_neg h1]
  rw [Classical.not_not] at h1
  by_cases h2 : p.f0 = 2 ∧ s.st = 1
  · rw [if_pos h2]
    have hn : ¬ (p.f0 = 6 ∧ p.f1 = s.xid ∧ p.f3 = c ∧ s.st ≠ 3) := fun hq => by have := hq.1; omega
    unfold offF
    split
    · exact ⟨fun hq => Bool.noConfusion (show false = true from hq), fun _ => rfl⟩
    · exact keep hn
  rw [if_neg h2]
  by_cases h3 : p.f0 = 5 ∧ (s.st = 2 ∨ s.st = 4 ∨ s.st = 5)
  · rw [if_pos h3]
    have hn : ¬ (p.f0 = 6 ∧ p.f1 = s.xid ∧ p.f3 = c ∧ s.st ≠ 3) := fun hq => by have := hq.1; omega
    unfold ackF
    by_cases h4 : (leaseP p.f8).2.2.2 = true ∧ p.f5.f0 = s.a.f0 ∧ p.f5.f1 = s.a.f1 ∧ p.f5.f2 = s.a.f2
    · rw [if_pos h4]
      have hs : s.se = sent := hH.s (by omega)
      unfold nakU; rw [if_neg hn]
      unfold ackU; rw [if_pos ⟨h3.1, h1.1, by rw [← hc]; exact h1.2, h4⟩]
      refine ⟨fun _ => ?_, fun _ => hs⟩
      show min (s.se + (leaseP p.f8).1) 4294967295 ≤ _
      rw [hs]; omega
    · rw [if_neg h4]; exact keep hn
  rw [if_neg h3]
  by_cases h5 : p.f0 = 6 ∧ (s.st = 2 ∨ s.st = 4 ∨ s.st = 5)
  · rw [if_pos h5]; exact Hd.none _ rfl _ _
  rw [if_neg h5]
  by_cases h6 : p.f0 = 6 ∧ p.f1 = s.xid ∧ p.f3 = c ∧ s.st ≠ 3
  · unfold nakU; rw [if_pos h6]
    refine ⟨fun hq => ?_, hH.s⟩
    unfold has at hq
    have h8 : s.st = 3 ∨ s.st = 4 ∨ s.st = 5 := of_decide_eq_true hq
    have h7 := h6.2.2.2
    exact absurd ⟨h6.1, show s.st = 2 ∨ s.st = 4 ∨ s.st = 5 by omega⟩ h5
  · exact keep h6
theorem holds_hd (hH : Hd sent until_ s) {now : Int} (hq : (holdsF s now).2 = true) : now < until_ := by
  unfold holdsF at hq
  split at hq
  · rename_i hx
    have := hH.u hx.1
    omega
  · exact absurd hq (by decide)
end
theorem hostOk_size {h : ByteArray} (hh : hostOk h = true) : h.size ≤ 63 := by
  unfold hostOk at hh
  rw [Bool.or_eq_true] at hh
  rcases hh with hh | hh
  · have e := beq_iff_eq.mp hh
    rw [toList_L] at e
    have := L_len h
    rw [e] at this
    simp at this; omega
  · rw [Bool.and_eq_true] at hh
    have h1 := of_decide_eq_true hh.1
    have hl : labL (L h) = true := Decidable.byContradiction (fun hl => by
      unfold joinL at h1; rw [if_neg (by simp), if_neg (by simp), if_neg (by simpa using hl)] at h1; exact absurd h1 (by decide))
    have := lab_len' hl
    rwa [L_len] at this
theorem J_new {c h : ByteArray} (hc : cli c = true) (hh : hostOk h = true) : J c h ⟨c, h, 0, 0, 0, zA, 0, 0, 0, 0, 0⟩ :=
  ⟨rfl, rfl, hc, hostOk_size hh, Int.le_refl 0, (by decide : (0 : Int) ≤ 4294967295), zr, zr, zr, zs, z12, zv, okB_zA⟩
end Go.Proofs.YtlabnocmmeciaaaDoor.LAW


namespace Go.Proofs.YtlabnocmmeciaaaDoor.BQ
open Go Go.RowKit Go.Proofs.YtlabnocmmeciaaaDoorW.PrintWords Go.Proofs.YtlabnocmmeciaaaDoorW.PrintLast Go.Proofs.YtlabnocmmeciaaaDoorW.PrintMore Go.Proofs.YtlabnocmmeciaaaDoor.Pa Go.Proofs.YtlabnocmmeciaaaDoor.STN
set_option linter.unusedVariables false
set_option linter.unusedSimpArgs false
theorem ret_of {id : FuncId} {args : Array Value} {w : World} {f : Stn × List S39} {s : Stn} {l : List S39} (h : Calls Tryd.prog id args w (Ret f w)) (e : f = (s, l)) : Calls Tryd.prog id args w fun e w' => ∃ A c, e = .returned (.tuple #[.agg (stA s), .slice A l.length c]) ∧ Foot (fun W => Kd.C k39 W A l.length l) w' (fun k => w.heap.size ≤ k) ∧ Below w.heap.size w w' := by
  subst e; refine h.mono ?_; rintro e w' ⟨v, rfl, hf, hb⟩; obtain ⟨A, c, rfl, _, _⟩ := hf.now
  refine ⟨A, c, rfl, hf.imp (fun W hW => ?_), hb⟩; obtain ⟨A', c', e, _, hC⟩ := hW; injection e with e1 e2 e3; subst e1; exact hC
theorem aw_new : station_New.f 1000 (⟨#[97]⟩ : ByteArray) (⟨#[104]⟩ : ByteArray) = some ((⟨#[97]⟩ : ByteArray), (⟨#[104]⟩ : ByteArray), 0, 0, 0, false, 0, 0, 0, 0, 0, 0, 0, 0) := by kernel_rfl
theorem aw_bad : station_New.f 1000 (⟨#[97]⟩ : ByteArray) (⟨#[97, 46, 98]⟩ : ByteArray) = some ((⟨#[]⟩ : ByteArray), (⟨#[]⟩ : ByteArray), 0, 0, 0, false, 0, 0, 0, 0, 0, 0, 0, 2) := by kernel_rfl
theorem aw_t0 : tickF (⟨(⟨#[97]⟩ : ByteArray), (⟨#[104]⟩ : ByteArray), 0, 0, 0, ⟨false, 0, 0⟩, 0, 0, 0, 0, 0⟩ : Stn) 0 = ((⟨(⟨#[97]⟩ : ByteArray), (⟨#[104]⟩ : ByteArray), 1, 1, 0, ⟨false, 0, 0⟩, 0, 0, 0, 0, 1⟩ : Stn), [(⟨1, 1, 0, (⟨#[97]⟩ : ByteArray), zA, zA, zA, false, [⟨12, (⟨#[104]⟩ : ByteArray)⟩]⟩ : S39)]) := by kernel_rfl
theorem aw_t4 : tickF (⟨(⟨#[97]⟩ : ByteArray), (⟨#[104]⟩ : ByteArray), 1, 1, 0, ⟨false, 0, 0⟩, 0, 0, 0, 0, 1⟩ : Stn) 4 = ((⟨(⟨#[97]⟩ : ByteArray), (⟨#[104]⟩ : ByteArray), 1, 2, 0, ⟨false, 0, 0⟩, 0, 0, 0, 4, 2⟩ : Stn), [(⟨1, 2, 0, (⟨#[97]⟩ : ByteArray), zA, zA, zA, false, [⟨12, (⟨#[104]⟩ : ByteArray)⟩]⟩ : S39)]) := by kernel_rfl
theorem aw_of : recvF (⟨(⟨#[97]⟩ : ByteArray), (⟨#[104]⟩ : ByteArray), 1, 2, 0, ⟨false, 0, 0⟩, 0, 0, 0, 4, 2⟩ : Stn) 2 2 7 (⟨#[97]⟩ : ByteArray) ⟨false, 0, 167772161⟩ 0 0 0 false 7 = ((⟨(⟨#[97]⟩ : ByteArray), (⟨#[104]⟩ : ByteArray), 2, 3, 7, ⟨false, 0, 167772161⟩, 0, 0, 0, 7, 1⟩ : Stn), [(⟨3, 3, 7, (⟨#[97]⟩ : ByteArray), zA, zA, zA, false, [⟨50, ⟨#[10, 0, 0, 1]⟩⟩, ⟨12, (⟨#[104]⟩ : ByteArray)⟩]⟩ : S39)]) := by kernel_rfl
theorem aw_ls : dhcp_Lease.f 1000 5 3 7 (⟨#[97]⟩ : ByteArray) false 0 0 false 0 167772161 false 0 0 false [⟨51, ⟨#[0, 0, 0, 100]⟩⟩] = some (100, 50, 87, true) := by kernel_rfl
theorem aw_l0 : dhcp_Lease.f 1000 2 2 7 (⟨#[97]⟩ : ByteArray) false 0 0 false 0 167772161 false 0 0 false [] = some (0, 0, 0, false) := by kernel_rfl
theorem aw_ak : recvF (⟨(⟨#[97]⟩ : ByteArray), (⟨#[104]⟩ : ByteArray), 2, 3, 7, ⟨false, 0, 167772161⟩, 0, 0, 0, 7, 1⟩ : Stn) 5 3 7 (⟨#[97]⟩ : ByteArray) ⟨false, 0, 167772161⟩ 100 50 87 true 9 = ((⟨(⟨#[97]⟩ : ByteArray), (⟨#[104]⟩ : ByteArray), 3, 3, 7, ⟨false, 0, 167772161⟩, 57, 94, 107, 7, 0⟩ : Stn), ([] : List S39)) := by kernel_rfl
theorem aw_lv : giveF (⟨(⟨#[97]⟩ : ByteArray), (⟨#[104]⟩ : ByteArray), 3, 3, 7, ⟨false, 0, 167772161⟩, 57, 94, 107, 7, 0⟩ : Stn) 7 = ((⟨(⟨#[97]⟩ : ByteArray), (⟨#[104]⟩ : ByteArray), 0, 4, 0, ⟨false, 0, 0⟩, 0, 0, 0, 0, 0⟩ : Stn), [(⟨7, 4, 7, (⟨#[97]⟩ : ByteArray), ⟨false, 0, 167772161⟩, zA, zA, false, []⟩ : S39)]) := by kernel_rfl
theorem aw_h1 : holdsF (⟨(⟨#[97]⟩ : ByteArray), (⟨#[104]⟩ : ByteArray), 3, 3, 7, ⟨false, 0, 167772161⟩, 57, 94, 107, 7, 0⟩ : Stn) 106 = (⟨false, 0, 167772161⟩, true) := by kernel_rfl
theorem aw_h2 : holdsF (⟨(⟨#[97]⟩ : ByteArray), (⟨#[104]⟩ : ByteArray), 3, 3, 7, ⟨false, 0, 167772161⟩, 57, 94, 107, 7, 0⟩ : Stn) 107 = (zA, false) := by kernel_rfl
theorem cw_t0 (w : World)  : Calls Tryd.prog 9 #[.agg (stC (⟨#[97]⟩ : ByteArray) (⟨#[104]⟩ : ByteArray) 0 0 0 false 0 0 0 0 0 0 0), .int .i64 0] w fun e w' => ∃ A c, e = .returned (.tuple #[.agg (stC (⟨#[97]⟩ : ByteArray) (⟨#[104]⟩ : ByteArray) 1 1 0 false 0 0 0 0 0 0 1), .slice A 1 c]) ∧ Foot (fun W => Kd.C k39 W A 1 [(⟨1, 1, 0, (⟨#[97]⟩ : ByteArray), zA, zA, zA, false, [⟨12, (⟨#[104]⟩ : ByteArray)⟩]⟩ : S39)]) w' (fun k => w.heap.size ≤ k) ∧ Below w.heap.size w w' := ret_of (tick_c (⟨(⟨#[97]⟩ : ByteArray), (⟨#[104]⟩ : ByteArray), 0, 0, 0, ⟨false, 0, 0⟩, 0, 0, 0, 0, 0⟩ : Stn) 0 w (by decide) (by decide) (by decide) (by decide) (fun hq => by rcases hq with hq | hq <;> exact absurd hq (by decide)) ⟨true, by kernel_rfl⟩) aw_t0
theorem cw_t4 (w : World)  : Calls Tryd.prog 9 #[.agg (stC (⟨#[97]⟩ : ByteArray) (⟨#[104]⟩ : ByteArray) 1 1 0 false 0 0 0 0 0 0 1), .int .i64 4] w fun e w' => ∃ A c, e = .returned (.tuple #[.agg (stC (⟨#[97]⟩ : ByteArray) (⟨#[104]⟩ : ByteArray) 1 2 0 false 0 0 0 0 0 4 2), .slice A 1 c]) ∧ Foot (fun W => Kd.C k39 W A 1 [(⟨1, 2, 0, (⟨#[97]⟩ : ByteArray), zA, zA, zA, false, [⟨12, (⟨#[104]⟩ : ByteArray)⟩]⟩ : S39)]) w' (fun k => w.heap.size ≤ k) ∧ Below w.heap.size w w' := ret_of (tick_c (⟨(⟨#[97]⟩ : ByteArray), (⟨#[104]⟩ : ByteArray), 1, 1, 0, ⟨false, 0, 0⟩, 0, 0, 0, 0, 1⟩ : Stn) 4 w (by decide) (by decide) (by decide) (by decide) (fun _ => by decide) ⟨true, by kernel_rfl⟩) aw_t4
theorem cw_of (w : World)  : Calls Tryd.prog 12 #[.agg (stC (⟨#[97]⟩ : ByteArray) (⟨#[104]⟩ : ByteArray) 1 2 0 false 0 0 0 0 0 4 2), .agg (pkC 2 2 7 (⟨#[97]⟩ : ByteArray) false 0 0 false 0 167772161 false 0 0 false (.slice none 0 0)), .int .i64 7] w fun e w' => ∃ A c, e = .returned (.tuple #[.agg (stC (⟨#[97]⟩ : ByteArray) (⟨#[104]⟩ : ByteArray) 2 3 7 false 0 167772161 0 0 0 7 1), .slice A 1 c]) ∧ Foot (fun W => Kd.C k39 W A 1 [(⟨3, 3, 7, (⟨#[97]⟩ : ByteArray), zA, zA, zA, false, [⟨50, ⟨#[10, 0, 0, 1]⟩⟩, ⟨12, (⟨#[104]⟩ : ByteArray)⟩]⟩ : S39)]) w' (fun k => w.heap.size ≤ k) ∧ Below w.heap.size w w' := ret_of (recv_c (⟨(⟨#[97]⟩ : ByteArray), (⟨#[104]⟩ : ByteArray), 1, 2, 0, ⟨false, 0, 0⟩, 0, 0, 0, 4, 2⟩ : Stn) 2 2 7 (⟨#[97]⟩ : ByteArray) false 0 0 ⟨false, 0, 167772161⟩ false 0 0 false none 0 [] (fun _ => False) 0 0 0 false 7 w (by decide) (by decide) (show addr_Valid.f false 0 167772161 = some (validF ⟨false, 0, 167772161⟩) by kernel_rfl) ⟨true, by kernel_rfl⟩ (foot_no _ none 0) (Nat.le_refl _) aw_l0 (fun hq => Bool.noConfusion hq)) aw_of
theorem cw_ak (w : World) (B : Nat → Prop) {A : Option Addr} (hB : Foot (fun W => Kd.C k60 W A 1 [(⟨51, (⟨#[0, 0, 0, 100]⟩ : ByteArray)⟩ : S60)]) w B) : Calls Tryd.prog 12 #[.agg (stC (⟨#[97]⟩ : ByteArray) (⟨#[104]⟩ : ByteArray) 2 3 7 false 0 167772161 0 0 0 7 1), .agg (pkC 5 3 7 (⟨#[97]⟩ : ByteArray) false 0 0 false 0 167772161 false 0 0 false (.slice A 1 1)), .int .i64 9] w fun e w' => ∃ A c, e = .returned (.tuple #[.agg (stC (⟨#[97]⟩ : ByteArray) (⟨#[104]⟩ : ByteArray) 3 3 7 false 0 167772161 57 94 107 7 0), .slice A 0 c]) ∧ Foot (fun W => Kd.C k39 W A 0 []) w' (fun k => w.heap.size ≤ k) ∧ Below w.heap.size w w' := ret_of (recv_c (⟨(⟨#[97]⟩ : ByteArray), (⟨#[104]⟩ : ByteArray), 2, 3, 7, ⟨false, 0, 167772161⟩, 0, 0, 0, 7, 1⟩ : Stn) 5 3 7 (⟨#[97]⟩ : ByteArray) false 0 0 ⟨false, 0, 167772161⟩ false 0 0 false A 1 [(⟨51, (⟨#[0, 0, 0, 100]⟩ : ByteArray)⟩ : S60)] B 100 50 87 true 9 w (by decide) (by decide) (show addr_Valid.f false 0 167772161 = some (validF ⟨false, 0, 167772161⟩) by kernel_rfl) ⟨true, by kernel_rfl⟩ hB (Nat.le_refl _) aw_ls (fun _ => by decide)) aw_ak
theorem cw_lv (w : World)  : Calls Tryd.prog 13 #[.agg (stC (⟨#[97]⟩ : ByteArray) (⟨#[104]⟩ : ByteArray) 3 3 7 false 0 167772161 57 94 107 7 0), .int .i64 20] w fun e w' => ∃ A c, e = .returned (.tuple #[.agg (stC (⟨#[97]⟩ : ByteArray) (⟨#[104]⟩ : ByteArray) 0 4 0 false 0 0 0 0 0 0 0), .slice A 1 c]) ∧ Foot (fun W => Kd.C k39 W A 1 [(⟨7, 4, 7, (⟨#[97]⟩ : ByteArray), ⟨false, 0, 167772161⟩, zA, zA, false, []⟩ : S39)]) w' (fun k => w.heap.size ≤ k) ∧ Below w.heap.size w w' := ret_of (leave_c (⟨(⟨#[97]⟩ : ByteArray), (⟨#[104]⟩ : ByteArray), 3, 3, 7, ⟨false, 0, 167772161⟩, 57, 94, 107, 7, 0⟩ : Stn) 20 w (by decide)) aw_lv
theorem cw_h1 (w : World) : Calls Tryd.prog 16 #[.agg (stC (⟨#[97]⟩ : ByteArray) (⟨#[104]⟩ : ByteArray) 3 3 7 false 0 167772161 57 94 107 7 0), .int .i64 106] w fun e w' => e = .returned (.tuple #[.agg #[.bool false, .int .u64 0, .int .u64 167772161], .bool true]) ∧ Below w.heap.size w w' := by
  have h := holds_c (⟨(⟨#[97]⟩ : ByteArray), (⟨#[104]⟩ : ByteArray), 3, 3, 7, ⟨false, 0, 167772161⟩, 57, 94, 107, 7, 0⟩ : Stn) 106 w; rw [aw_h1] at h; exact h
theorem cw_h2 (w : World) : Calls Tryd.prog 16 #[.agg (stC (⟨#[97]⟩ : ByteArray) (⟨#[104]⟩ : ByteArray) 3 3 7 false 0 167772161 57 94 107 7 0), .int .i64 107] w fun e w' => e = .returned (.tuple #[.agg #[.bool false, .int .u64 0, .int .u64 0], .bool false]) ∧ Below w.heap.size w w' := by
  have h := holds_c (⟨(⟨#[97]⟩ : ByteArray), (⟨#[104]⟩ : ByteArray), 3, 3, 7, ⟨false, 0, 167772161⟩, 57, 94, 107, 7, 0⟩ : Stn) 107 w; rw [aw_h2] at h; exact h
end Go.Proofs.YtlabnocmmeciaaaDoor.BQ


namespace Go.Proofs.YtlabnocmmeciaaaDoor.BQ
open Go Go.RowKit Go.Proofs.YtlabnocmmeciaaaDoorW.PrintWords Go.Proofs.YtlabnocmmeciaaaDoorW.PrintLast Go.Proofs.YtlabnocmmeciaaaDoorW.PrintMore Go.Proofs.YtlabnocmmeciaaaDoor.Pa Go.Proofs.YtlabnocmmeciaaaDoor.STN
set_option linter.unusedVariables false
set_option linter.unusedSimpArgs false
section
variable {P : Program} {ops : Array Oper} {Q : Exit → Act → World → Prop} {S : World → Prop} {oi : Oper} {a : Act} {w w1 : World} {N : Option Tmp}
theorem cs1 {K V : Act → World → Prop} {f : FuncId} {fn : Func} {ags : Array Operand} {ts : Array TypeId} (hK : Shut (∀ a' w', S w' → (S w' → V a' w') → K a' w')) (hN : oi.dst = N) (hf : P.funcs[f]? = some fn) (hname : (fn.name == "runtime.NumGoroutine") = false) (hb : fn.body.isSome = true) (args : Array Value)
    (hop : oi.op = .call { callee := .value (.func f), args := ags, argTypes := ts }) (hargs : ags.map a.eval = args) (h : Calls P f args w fun e w1 => ∃ v, e = .returned v ∧ S w1 ∧ V (a.put N v) w1) (hw : Region.wanted oi (yielded ops a.tmps) = true := by rfl) : if Region.wanted oi (yielded ops a.tmps) = true then Oper.wp P oi a w K Q else K (a.put N undef) w :=
  goes_ hf hname hb args hw hN hop hargs (h.mono (fun e w1 ⟨v, he, hS, hh⟩ => ⟨v, he, hK.out _ _ hS (fun _ => hh)⟩))
end
section
variable {P : Program} {B : Nat → Prop} {w0 w w1 : World} {L : Bxs} {F : World → Prop} {t : TypeId} {cs : Array Value} {ops : Array Oper} {oi : Oper} {a : Act} {Q : Exit → Act → World → Prop} {S : World → Prop} {ds : List Nat} {fuel : Nat} {l : Array Bool} {N : Option Tmp} {i : Nat}
theorem as1 {K V : Act → World → Prop} (hK : Shut (∀ a' w', S w' → (S w' → V a' w') → K a' w')) (hN : oi.dst = N) (hr : (execOp a.eval oi).run P w = .ok (.value (.pointer (some ⟨w.heap.size, 0, none⟩))) (w.alloc (.cells cs t (0, 0)))) (I : Inv B w0 L F w)
    (h : ∀ g w1, Inv B w0 ((g, t, cs) :: L) F w1 → S w1 ∧ V (a.put N (.pointer (some ⟨g, 0, none⟩))) w1) (hw : Region.wanted oi (yielded ops a.tmps) = true := by rfl) : if Region.wanted oi (yielded ops a.tmps) = true then Oper.wp P oi a w K Q else K (a.put N undef) w :=
  value_ hw hN hr (hK.out _ _ (h _ _ (I.alloc t cs)).1 (fun _ => (h _ _ (I.alloc t cs)).2))
theorem wl_cell {rest : List Oper} {o : Oper} {ty : TypeId} {x : Operand} {p : Addr} {v : Value} {opsA : Array Oper} (hgd : o.guard = none) (ho : o.op = .load ty x) (hx : a.eval x = .pointer (some p)) (d : TypeDesc) (hu : P.underlying ty = some d) (hd : d.isRow = false) (hc : w.cell? p = some v) (h : wpList P opsA Q rest (a.put o.dst v) w) : wpList P opsA Q (o :: rest) a w :=
  wpList_plain hgd fun K hK => by
    have hagg : (isAgg ty).run P w = .ok false w := by
      unfold isAgg; rw [Sem.run_bind, run_underlying hu w]; cases d <;> simp_all [TypeDesc.isRow]
    have hl : (loadVar ty p).run P w = .ok v w := by simp [loadVar, Sem.run_bind, hagg, hc]
    unfold Oper.wp
    rw [show (execOp a.eval o).run P w = .ok (.value v) w by unfold execOp; simp only [ho, hx, Instr.loadAt, Instr.sureAddr, Sem.run_bind, Sem.run_pure, Result.andThen_ok, hl]]
    exact hK _ _ h
theorem tc1 {w1 : World} {a' : Act} {v : Value} (hi : ops[i]? = some oi) (hN : oi.dst = N) (hc : takeB .any ops ds l (l.setIfInBounds i true) i = true) (hS : Below w1.heap.size w1 w) (hrun : ∀ W, Below w1.heap.size w1 W → (execOp a.eval oi).run P W = .ok (.value v) W)
    (h : wpAnyLast P .any ops Q (fun W => Below w1.heap.size w1 W) ds fuel (l.setIfInBounds i true) a' w) (hw : Region.wanted oi (yielded ops a.tmps) = true := by rfl) (ha : a.put N v = a' := by (go_simp; rfl)) (hQ : ∀ c a w, Q (.panic c) (a.put oi.dst v) w → Q (.panic c) a w := by exact fun _ _ _ h => h) :
    wpAnyLast P .any ops Q (fun W => Below w1.heap.size w1 W) ds (fuel + 1) l a w := take_ _ hi hN hc hQ (Or.inl ⟨hw, fun W hW => hrun W hW⟩) hS ha h
theorem run_cellB {ty : TypeId} {x : Operand} {p : Addr} {v : Value} {w1 : World} (ho : oi.op = .load ty x) (hx : a.eval x = .pointer (some p)) (d : TypeDesc) (hu : P.underlying ty = some d) (hd : d.isRow = false) (hc : w1.cell? p = some v) : ∀ W, Below w1.heap.size w1 W → (execOp a.eval oi).run P W = .ok (.value v) W := fun W hW => by
  have hc2 : W.cell? p = some v := (hW.cell (World.block_lt_of_cell? w1 _ hc)).trans hc
  have hagg : (isAgg ty).run P W = .ok false W := by
    unfold isAgg; rw [Sem.run_bind, run_underlying hu W]; cases d <;> simp_all [TypeDesc.isRow]
  have hl : (loadVar ty p).run P W = .ok v W := by simp [loadVar, Sem.run_bind, hagg, hc2]
  unfold execOp; simp only [ho, hx, Instr.loadAt, Instr.sureAddr, Sem.run_bind, Sem.run_pure, Result.andThen_ok, hl]
theorem run_ownB {ty : TypeId} {x : Operand} {g off : Nat} {v : Value} {w1 : World} (ho : oi.op = .load ty x) (hx : a.eval x = .pointer (some ⟨g, off, none⟩)) (I : Inv B w0 L F w1) (hm : (g, t, cs) ∈ L) (hl : Ld P ty cs off v) : ∀ W, Below w1.heap.size w1 W → (execOp a.eval oi).run P W = .ok (.value v) W := fun W hW => by
  have := hl W g t (blk_below (I.box _ hm) hW)
  unfold execOp; simp only [ho, hx, Instr.loadAt, Instr.sureAddr, Sem.run_bind, Sem.run_pure, Result.andThen_ok, this]
theorem al1 (hi : ops[i]? = some oi) (hN : oi.dst = N) (hc : readyB .any ops l (l.setIfInBounds i true) i = true) (hd : i ∉ ds) (hr : (execOp a.eval oi).run P w = .ok (.value (.pointer (some ⟨w.heap.size, 0, none⟩))) (w.alloc (.cells cs t (0, 0)))) (I : Inv B w0 L F w)
    (h : ∀ g w1, Inv B w0 ((g, t, cs) :: L) F w1 → S w1 ∧ wpAnyLast P .any ops Q S ds fuel (l.setIfInBounds i true) (a.put N (.pointer (some ⟨g, 0, none⟩))) w1) (hw : Region.wanted oi (yielded ops a.tmps) = true := by rfl) : wpAnyLast P .any ops Q S ds (fuel + 1) l a w :=
  va1 hi hN hc hd hr (h _ _ (I.alloc t cs)).1 (h _ _ (I.alloc t cs)).2 hw
end
theorem run_twoB {oi : Oper} {a : Act} {x : Operand} {p : Addr} {u v : Value} {w1 : World} (ho : oi.op = .load 60 x) (hx : a.eval x = .pointer (some p)) (h0 : w1.cell? p = some u) (h1 : w1.cell? ⟨p.block, p.off + 1, none⟩ = some v) : ∀ W, Below w1.heap.size w1 W → (execOp a.eval oi).run Tryd.prog W = .ok (.value (.agg #[u, v])) W := fun W hW => by
  have hu60 := Tryd.underlying60
  have q0 : W.cell? p = some u := (hW.cell (World.block_lt_of_cell? w1 _ h0)).trans h0
  have q1 : W.cell? ⟨p.block, p.off + 1, none⟩ = some v := (hW.cell (World.block_lt_of_cell? w1 _ h1)).trans h1
  unfold execOp; simp only [ho, hx]
  go_simp

set_option maxHeartbeats 4000000 in
set_option maxRecDepth 100000 in
theorem awake_c (w : World) : Calls Tryd.prog 8 #[] w fun e w' => e = .returned (.bool true) ∧ Below w.heap.size w w' := by
 have hu26 := Tryd.underlying26
 have hu39 := Tryd.underlying39
 have hu24 := Tryd.underlying24
 have hu60 := Tryd.underlying60
 have I := Aside0.mk (Inv.start0 (w0 := w))
 go_enter Tryd.func8, Tryd.ntmps8
 go_wp2_with (first
  | ((with_reducible refine gate_alloc (ty := 26) rfl ?_); refine wl_box (t := 26) (cs := (stC (⟨#[]⟩ : ByteArray) (⟨#[]⟩ : ByteArray) 0 0 0 false 0 0 0 0 0 0 0)) rfl ?hr I.out ?_; (case hr => first | (go_simp; done) | (go_simp; rfl)); intro gb w1 hI; clear I; have I := Aside0.mk hI; clear hI)
  | ((with_reducible refine gate_alloc (ty := 24) rfl ?_); refine wl_box (t := 24) (cs := #[.bool false, .int .u64 0, .int .u64 0]) rfl ?hr I.out ?_; (case hr => first | (go_simp; done) | (go_simp; rfl)); intro gb w1 hI; clear I; have I := Aside0.mk hI; clear hI)
  | ((with_reducible refine gate_ld rfl ?_); (try (refine gate_guard (by rfl) ?_; dsimp only)); refine wl_ld rfl rfl rfl I.out (by first | exact .head _ | exact .tail _ (.head _) | exact .tail _ (.tail _ (.head _)) | exact .tail _ (.tail _ (.tail _ (.head _))) | exact .tail _ (.tail _ (.tail _ (.tail _ (.head _)))) | exact .tail _ (.tail _ (.tail _ (.tail _ (.tail _ (.head _))))) | exact .tail _ (.tail _ (.tail _ (.tail _ (.tail _ (.tail _ (.head _)))))) | exact .tail _ (.tail _ (.tail _ (.tail _ (.tail _ (.tail _ (.tail _ (.head _))))))) | exact .tail _ (.tail _ (.tail _ (.tail _ (.tail _ (.tail _ (.tail _ (.tail _ (.head _))))))))) (by first | exact ld_st | exact ld_ad) ?_)
  | ((with_reducible refine gate_callee (f := 6) rfl ?_); (try (refine gate_guard (by rfl) ?_; dsimp only)); refine goesL_ (some 19) rfl rfl Tryd.func6 (by kernel_rfl) rfl #[.string (⟨#[97]⟩ : ByteArray), .string (⟨#[104]⟩ : ByteArray)] rfl (by (try simp only [List.map_toArray, List.map_cons, List.map_nil]); first | done | rfl) ?_; (refine (station_New.calls 1000 (⟨#[97]⟩ : ByteArray) (⟨#[104]⟩ : ByteArray) _ _ _ _ _ _ _ _ _ _ _ _ _ _ _ aw_new).mono ?_); rintro e_ w1 ⟨rfl, hb⟩; refine ⟨_, rfl, ?_⟩; have I2 := Aside0.mk (I.out.call hb); clear I hb; have I := I2; clear I2)
  | ((with_reducible refine gate_callee (f := 6) rfl ?_); (try (refine gate_guard (by rfl) ?_; dsimp only)); refine goesL_ (some 23) rfl rfl Tryd.func6 (by kernel_rfl) rfl #[.string (⟨#[97]⟩ : ByteArray), .string (⟨#[97, 46, 98]⟩ : ByteArray)] rfl (by (try simp only [List.map_toArray, List.map_cons, List.map_nil]); first | done | rfl) ?_; (refine (station_New.calls 1000 (⟨#[97]⟩ : ByteArray) (⟨#[97, 46, 98]⟩ : ByteArray) _ _ _ _ _ _ _ _ _ _ _ _ _ _ _ aw_bad).mono ?_); rintro e_ w1 ⟨rfl, hb⟩; refine ⟨_, rfl, ?_⟩; have I2 := Aside0.mk (I.out.call hb); clear I hb; have I := I2; clear I2)
  | ((with_reducible refine gate_callee (f := 9) rfl ?_); (try (refine gate_guard (by rfl) ?_; dsimp only)); refine goesL_ (some 28) rfl rfl Tryd.func9 (by kernel_rfl) rfl #[.agg (stC (⟨#[97]⟩ : ByteArray) (⟨#[104]⟩ : ByteArray) 0 0 0 false 0 0 0 0 0 0 0), .int .i64 0] rfl (by (try simp only [List.map_toArray, List.map_cons, List.map_nil]); first | done | rfl) ?_; (refine (cw_t0 _).mono ?_); rintro e_ w1 ⟨A, c, rfl, hf, hb⟩; refine ⟨_, rfl, ?_⟩; have I2 := Aside0.mk (I.out.addNew hb hf (fun k hk _ => I.out.new_out k hk)); clear I hb hf; have I := I2; clear I2)
  | ((with_reducible refine gate_callee (f := 9) rfl ?_); (try (refine gate_guard (by rfl) ?_; dsimp only)); refine goesL_ (some 33) rfl rfl Tryd.func9 (by kernel_rfl) rfl #[.agg (stC (⟨#[97]⟩ : ByteArray) (⟨#[104]⟩ : ByteArray) 1 1 0 false 0 0 0 0 0 0 1), .int .i64 4] rfl (by (try simp only [List.map_toArray, List.map_cons, List.map_nil]); first | done | rfl) ?_; (refine (cw_t4 _).mono ?_); rintro e_ w1 ⟨A, c, rfl, hf, hb⟩; refine ⟨_, rfl, ?_⟩; have I2 := Aside0.mk (I.out.addNew hb hf (fun k hk _ => I.out.new_out k hk)); clear I hb hf; have I := I2; clear I2)
  | ((with_reducible refine gate_sr rfl ?_); refine wl_sr2 rfl rfl rfl rfl rfl I.out (by first | exact .head _ | exact .tail _ (.head _) | exact .tail _ (.tail _ (.head _)) | exact .tail _ (.tail _ (.tail _ (.head _))) | exact .tail _ (.tail _ (.tail _ (.tail _ (.head _)))) | exact .tail _ (.tail _ (.tail _ (.tail _ (.tail _ (.head _))))) | exact .tail _ (.tail _ (.tail _ (.tail _ (.tail _ (.tail _ (.head _)))))) | exact .tail _ (.tail _ (.tail _ (.tail _ (.tail _ (.tail _ (.tail _ (.head _))))))) | exact .tail _ (.tail _ (.tail _ (.tail _ (.tail _ (.tail _ (.tail _ (.tail _ (.head _))))))))) (by first | exact sr_st | exact sr_ad) (by first | exact .head | exact .tail (.head) | exact .tail (.tail (.head)) | exact .tail (.tail (.tail (.head))) | exact .tail (.tail (.tail (.tail (.head)))) | exact .tail (.tail (.tail (.tail (.tail (.head))))) | exact .tail (.tail (.tail (.tail (.tail (.tail (.head)))))) | exact .tail (.tail (.tail (.tail (.tail (.tail (.tail (.head))))))) | exact .tail (.tail (.tail (.tail (.tail (.tail (.tail (.tail (.head))))))))) ?_; intro w1 hI; clear I; have I := Aside0.mk hI; clear hI)
  )
 refine (fun (rest : (?T5 : Prop)) => ?main5) ?rest5
 case main5 =>
  have IS := Aside0.mk ((I.out.imp (fun _ _ => trivial)).sub (.cons_cons _ (.cons _ (.cons _ .slnil)))).drew
  refine draw_ (Inv _ w [_] (fun _ => True)) [] (by kernel_rfl) rfl IS.out ?_
  have I2 := Aside0.mk I.out.drew
  have I := I2
  clear I2
  refine ta1 (i := 0) rfl rfl (by kernel_rfl) rfl rfl IS.out (by first | exact .head _ | exact .tail _ (.head _) | exact .tail _ (.tail _ (.head _)) | exact .tail _ (.tail _ (.tail _ (.head _)))) (by exact ld_st) ?_ (ha := by (go_simp; rfl))
  refine two1 (i := 1) (j := 7) rfl rfl rfl rfl (by kernel_rfl) (by decide) (by decide) (fun K hK => ?_) (fun K hK => ?_)
  ·
    refine cs1 hK rfl Tryd.func21 (by kernel_rfl) rfl #[.int .u64 1] rfl (by (try simp only [List.map_toArray, List.map_cons, List.map_nil]); first | done | rfl) ?_
    refine (ten_c _).mono ?_
    rintro e_ w1 ⟨rfl, hb⟩
    have I2 := Aside0.mk (I.out.call hb)
    clear I IS hb
    have I := I2
    clear I2
    have IS := Aside0.mk ((I.out.imp (fun _ _ => trivial)).sub (.cons_cons _ (.cons _ (.cons _ .slnil))))
    refine ⟨_, rfl, IS.out, ?_⟩
    refine pu1 (i := 2) rfl rfl (by kernel_rfl) ?_ (ha := by (go_simp; rfl))
    refine two1 (i := 3) (j := 7) rfl rfl rfl rfl (by kernel_rfl) (by decide) (by decide) (fun K hK => ?_) (fun K hK => ?_)
    ·
      refine cs1 hK rfl Tryd.func12 (by kernel_rfl) rfl #[.agg (stC (⟨#[97]⟩ : ByteArray) (⟨#[104]⟩ : ByteArray) 1 2 0 false 0 0 0 0 0 4 2), .agg (pkC 2 2 7 (⟨#[97]⟩ : ByteArray) false 0 0 false 0 167772161 false 0 0 false (.slice none 0 0)), .int .i64 7] rfl (by (try simp only [List.map_toArray, List.map_cons, List.map_nil]); first | done | rfl) ?_
      refine (cw_of _).mono ?_
      rintro e_ w1 ⟨A, c, rfl, hf, hb⟩
      have I2 := Aside0.mk (I.out.addNew hb hf (fun k hk _ => I.out.new_out k hk))
      clear I IS hb hf
      have I := I2
      clear I2
      have IS := Aside0.mk ((I.out.imp (fun _ _ => trivial)).sub (.cons_cons _ (.cons _ (.cons _ .slnil))))
      refine ⟨_, rfl, IS.out, ?_⟩
      refine pu1 (i := 4) rfl rfl (by kernel_rfl) ?_ (ha := by (go_simp; rfl))
      refine pu1 (i := 5) rfl rfl (by kernel_rfl) ?_ (ha := by (go_simp; rfl))
      refine pu1 (i := 6) rfl rfl (by kernel_rfl) ?_ (ha := by (go_simp; rfl))
      refine al1 (i := 7) (t := 26) (cs := (stC (⟨#[]⟩ : ByteArray) (⟨#[]⟩ : ByteArray) 0 0 0 false 0 0 0 0 0 0 0)) rfl rfl (by kernel_rfl) (by decide) ?hr I.out (fun gb w1 hI => ⟨(hI.imp (fun _ _ => trivial)).sub (.cons _ (.cons_cons _ (.cons _ (.cons _ .slnil)))), ?_⟩)
      case hr => first | (go_simp; done) | (go_simp; rfl)
      clear I IS
      have I := Aside0.mk hI
      clear hI
      have IS := Aside0.mk ((I.out.imp (fun _ _ => trivial)).sub (.cons _ (.cons_cons _ (.cons _ (.cons _ .slnil)))))
      refine st1 (i := 8) rfl rfl (by kernel_rfl) (by decide) rfl rfl rfl I.out (by first | exact .head _ | exact .tail _ (.head _) | exact .tail _ (.tail _ (.head _)) | exact .tail _ (.tail _ (.tail _ (.head _)))) (by first | exact sr_st) (by first | exact .head | exact .tail .head | exact .tail (.tail .head) | exact .tail (.tail (.tail .head))) (fun w1 hI => ⟨(hI.imp (fun _ _ => trivial)).sub (.cons _ (.cons_cons _ (.cons _ (.cons _ .slnil)))), ?_⟩)
      clear I IS
      have I := Aside0.mk hI
      clear hI
      refine pu1 (i := 9) rfl rfl (by kernel_rfl) ?_ (ha := by (go_simp; rfl))
      refine do1 (by kernel_rfl) ?_
      replace I := I.out
      revert I
      revert w1
      revert c
      revert A
      revert gb
      exact rest
    ·
      refine as1 (t := 26) (cs := (stC (⟨#[]⟩ : ByteArray) (⟨#[]⟩ : ByteArray) 0 0 0 false 0 0 0 0 0 0 0)) hK rfl ?hr I.out (fun gb w1 hI => ⟨(hI.imp (fun _ _ => trivial)).sub (.cons _ (.cons_cons _ (.cons _ (.cons _ .slnil)))), ?_⟩)
      case hr => first | (go_simp; done) | (go_simp; rfl)
      clear I IS
      have I := Aside0.mk hI
      clear hI
      have IS := Aside0.mk ((I.out.imp (fun _ _ => trivial)).sub (.cons _ (.cons_cons _ (.cons _ (.cons _ .slnil)))))
      refine ca1 (i := 3) rfl rfl (by kernel_rfl) (by decide) Tryd.func12 (by kernel_rfl) rfl #[.agg (stC (⟨#[97]⟩ : ByteArray) (⟨#[104]⟩ : ByteArray) 1 2 0 false 0 0 0 0 0 4 2), .agg (pkC 2 2 7 (⟨#[97]⟩ : ByteArray) false 0 0 false 0 167772161 false 0 0 false (.slice none 0 0)), .int .i64 7] rfl (by (try simp only [List.map_toArray, List.map_cons, List.map_nil]); first | done | rfl) ?_
      refine (cw_of _).mono ?_
      rintro e_ w1 ⟨A, c, rfl, hf, hb⟩
      have I2 := Aside0.mk (I.out.addNew hb hf (fun k hk _ => I.out.new_out k hk))
      clear I IS hb hf
      have I := I2
      clear I2
      have IS := Aside0.mk ((I.out.imp (fun _ _ => trivial)).sub (.cons _ (.cons_cons _ (.cons _ (.cons _ .slnil)))))
      refine ⟨_, rfl, IS.out, ?_⟩
      refine pu1 (i := 4) rfl rfl (by kernel_rfl) ?_ (ha := by (go_simp; rfl))
      refine pu1 (i := 5) rfl rfl (by kernel_rfl) ?_ (ha := by (go_simp; rfl))
      refine pu1 (i := 6) rfl rfl (by kernel_rfl) ?_ (ha := by (go_simp; rfl))
      refine st1 (i := 8) rfl rfl (by kernel_rfl) (by decide) rfl rfl rfl I.out (by first | exact .head _ | exact .tail _ (.head _) | exact .tail _ (.tail _ (.head _)) | exact .tail _ (.tail _ (.tail _ (.head _)))) (by first | exact sr_st) (by first | exact .head | exact .tail .head | exact .tail (.tail .head) | exact .tail (.tail (.tail .head))) (fun w1 hI => ⟨(hI.imp (fun _ _ => trivial)).sub (.cons _ (.cons_cons _ (.cons _ (.cons _ .slnil)))), ?_⟩)
      clear I IS
      have I := Aside0.mk hI
      clear hI
      refine pu1 (i := 9) rfl rfl (by kernel_rfl) ?_ (ha := by (go_simp; rfl))
      refine do1 (by kernel_rfl) ?_
      replace I := I.out
      revert I
      revert w1
      revert c
      revert A
      revert gb
      exact rest
  ·
    refine as1 (t := 26) (cs := (stC (⟨#[]⟩ : ByteArray) (⟨#[]⟩ : ByteArray) 0 0 0 false 0 0 0 0 0 0 0)) hK rfl ?hr I.out (fun gb w1 hI => ⟨(hI.imp (fun _ _ => trivial)).sub (.cons _ (.cons_cons _ (.cons _ (.cons _ .slnil)))), ?_⟩)
    case hr => first | (go_simp; done) | (go_simp; rfl)
    clear I IS
    have I := Aside0.mk hI
    clear hI
    have IS := Aside0.mk ((I.out.imp (fun _ _ => trivial)).sub (.cons _ (.cons_cons _ (.cons _ (.cons _ .slnil)))))
    refine ca1 (i := 1) rfl rfl (by kernel_rfl) (by decide) Tryd.func21 (by kernel_rfl) rfl #[.int .u64 1] rfl (by (try simp only [List.map_toArray, List.map_cons, List.map_nil]); first | done | rfl) ?_
    refine (ten_c _).mono ?_
    rintro e_ w1 ⟨rfl, hb⟩
    have I2 := Aside0.mk (I.out.call hb)
    clear I IS hb
    have I := I2
    clear I2
    have IS := Aside0.mk ((I.out.imp (fun _ _ => trivial)).sub (.cons _ (.cons_cons _ (.cons _ (.cons _ .slnil)))))
    refine ⟨_, rfl, IS.out, ?_⟩
    refine pu1 (i := 2) rfl rfl (by kernel_rfl) ?_ (ha := by (go_simp; rfl))
    refine ca1 (i := 3) rfl rfl (by kernel_rfl) (by decide) Tryd.func12 (by kernel_rfl) rfl #[.agg (stC (⟨#[97]⟩ : ByteArray) (⟨#[104]⟩ : ByteArray) 1 2 0 false 0 0 0 0 0 4 2), .agg (pkC 2 2 7 (⟨#[97]⟩ : ByteArray) false 0 0 false 0 167772161 false 0 0 false (.slice none 0 0)), .int .i64 7] rfl (by (try simp only [List.map_toArray, List.map_cons, List.map_nil]); first | done | rfl) ?_
    refine (cw_of _).mono ?_
    rintro e_ w1 ⟨A, c, rfl, hf, hb⟩
    have I2 := Aside0.mk (I.out.addNew hb hf (fun k hk _ => I.out.new_out k hk))
    clear I IS hb hf
    have I := I2
    clear I2
    have IS := Aside0.mk ((I.out.imp (fun _ _ => trivial)).sub (.cons _ (.cons_cons _ (.cons _ (.cons _ .slnil)))))
    refine ⟨_, rfl, IS.out, ?_⟩
    refine pu1 (i := 4) rfl rfl (by kernel_rfl) ?_ (ha := by (go_simp; rfl))
    refine pu1 (i := 5) rfl rfl (by kernel_rfl) ?_ (ha := by (go_simp; rfl))
    refine pu1 (i := 6) rfl rfl (by kernel_rfl) ?_ (ha := by (go_simp; rfl))
    refine st1 (i := 8) rfl rfl (by kernel_rfl) (by decide) rfl rfl rfl I.out (by first | exact .head _ | exact .tail _ (.head _) | exact .tail _ (.tail _ (.head _)) | exact .tail _ (.tail _ (.tail _ (.head _)))) (by first | exact sr_st) (by first | exact .head | exact .tail .head | exact .tail (.tail .head) | exact .tail (.tail (.tail .head))) (fun w1 hI => ⟨(hI.imp (fun _ _ => trivial)).sub (.cons _ (.cons_cons _ (.cons _ (.cons _ .slnil)))), ?_⟩)
    clear I IS
    have I := Aside0.mk hI
    clear hI
    refine pu1 (i := 9) rfl rfl (by kernel_rfl) ?_ (ha := by (go_simp; rfl))
    refine do1 (by kernel_rfl) ?_
    replace I := I.out
    revert I
    revert w1
    revert c
    revert A
    revert gb
    exact rest
 case rest5 =>
  intro gb A c w1 I
  have I := Aside0.mk I
  try go_wp2
  refine (fun (rest : (?T6 : Prop)) => ?main6) ?rest6
  case main6 =>
   have IS := Aside0.mk ((I.out.imp (fun _ _ => trivial)).sub (.cons_cons _ (.cons _ (.cons _ (.cons _ .slnil))))).drew
   refine draw_ (Inv _ w [_] (fun _ => True)) [] (by kernel_rfl) rfl IS.out ?_
   have I2 := Aside0.mk I.out.drew
   have I := I2
   clear I2
   refine ta1 (i := 0) rfl rfl (by kernel_rfl) rfl rfl IS.out (by first | exact .head _ | exact .tail _ (.head _) | exact .tail _ (.tail _ (.head _)) | exact .tail _ (.tail _ (.tail _ (.head _)))) (by exact ld_st) ?_ (ha := by (go_simp; rfl))
   refine two1 (i := 1) (j := 6) rfl rfl rfl rfl (by kernel_rfl) (by decide) (by decide) (fun K hK => ?_) (fun K hK => ?_)
   ·
     refine cs1 hK rfl Tryd.func22 (by kernel_rfl) rfl #[.int .i64 3] rfl (by (try simp only [List.map_toArray, List.map_cons, List.map_nil]); first | done | rfl) ?_
     refine (ackm_c _).mono ?_
     rintro e_ w1 ⟨g, rfl, hf, hb⟩
     have I2 := Aside0.mk (I.out.addNew hb hf (fun k hk _ => I.out.new_out k hk))
     clear I IS hb hf
     have I := I2
     clear I2
     have IS := Aside0.mk ((I.out.imp (fun _ _ => trivial)).sub (.cons_cons _ (.cons _ (.cons _ (.cons _ .slnil)))))
     refine ⟨_, rfl, IS.out, ?_⟩
     refine two1 (i := 2) (j := 6) rfl rfl rfl rfl (by kernel_rfl) (by decide) (by decide) (fun K hK => ?_) (fun K hK => ?_)
     ·
       refine cs1 hK rfl Tryd.func12 (by kernel_rfl) rfl #[.agg (stC (⟨#[97]⟩ : ByteArray) (⟨#[104]⟩ : ByteArray) 2 3 7 false 0 167772161 0 0 0 7 1), .agg (pkC 5 3 7 (⟨#[97]⟩ : ByteArray) false 0 0 false 0 167772161 false 0 0 false (.slice (some ⟨g, 0, none⟩) 1 1)), .int .i64 9] rfl (by (try simp only [List.map_toArray, List.map_cons, List.map_nil]); first | done | rfl) ?_
       refine (cw_ak _ _ (I.out.foot.imp (fun W hW => hW.2))).mono ?_
       rintro e_ w1 ⟨A, c, rfl, hf, hb⟩
       have I2 := Aside0.mk (I.out.addNew hb hf (fun k hk _ => I.out.new_out k hk))
       clear I IS hb hf
       have I := I2
       clear I2
       have IS := Aside0.mk ((I.out.imp (fun _ _ => trivial)).sub (.cons_cons _ (.cons _ (.cons _ (.cons _ .slnil)))))
       refine ⟨_, rfl, IS.out, ?_⟩
       refine pu1 (i := 3) rfl rfl (by kernel_rfl) ?_ (ha := by (go_simp; rfl))
       refine pu1 (i := 4) rfl rfl (by kernel_rfl) ?_ (ha := by (go_simp; rfl))
       refine pu1 (i := 5) rfl rfl (by kernel_rfl) ?_ (ha := by (go_simp; rfl))
       refine al1 (i := 6) (t := 26) (cs := (stC (⟨#[]⟩ : ByteArray) (⟨#[]⟩ : ByteArray) 0 0 0 false 0 0 0 0 0 0 0)) rfl rfl (by kernel_rfl) (by decide) ?hr I.out (fun gb w1 hI => ⟨(hI.imp (fun _ _ => trivial)).sub (.cons _ (.cons_cons _ (.cons _ (.cons _ (.cons _ .slnil))))), ?_⟩)
       case hr => first | (go_simp; done) | (go_simp; rfl)
       clear I IS
       have I := Aside0.mk hI
       clear hI
       have IS := Aside0.mk ((I.out.imp (fun _ _ => trivial)).sub (.cons _ (.cons_cons _ (.cons _ (.cons _ (.cons _ .slnil))))))
       refine st1 (i := 7) rfl rfl (by kernel_rfl) (by decide) rfl rfl rfl I.out (by first | exact .head _ | exact .tail _ (.head _) | exact .tail _ (.tail _ (.head _)) | exact .tail _ (.tail _ (.tail _ (.head _)))) (by first | exact sr_st) (by first | exact .head | exact .tail .head | exact .tail (.tail .head) | exact .tail (.tail (.tail .head))) (fun w1 hI => ⟨(hI.imp (fun _ _ => trivial)).sub (.cons _ (.cons_cons _ (.cons _ (.cons _ (.cons _ .slnil))))), ?_⟩)
       clear I IS
       have I := Aside0.mk hI
       clear hI
       refine pu1 (i := 8) rfl rfl (by kernel_rfl) ?_ (ha := by (go_simp; rfl))
       refine do1 (by kernel_rfl) ?_
       replace I := I.out
       revert I
       revert w1
       revert c
       revert A
       revert gb
       revert g
       exact rest
     ·
       refine as1 (t := 26) (cs := (stC (⟨#[]⟩ : ByteArray) (⟨#[]⟩ : ByteArray) 0 0 0 false 0 0 0 0 0 0 0)) hK rfl ?hr I.out (fun gb w1 hI => ⟨(hI.imp (fun _ _ => trivial)).sub (.cons _ (.cons_cons _ (.cons _ (.cons _ (.cons _ .slnil))))), ?_⟩)
       case hr => first | (go_simp; done) | (go_simp; rfl)
       clear I IS
       have I := Aside0.mk hI
       clear hI
       have IS := Aside0.mk ((I.out.imp (fun _ _ => trivial)).sub (.cons _ (.cons_cons _ (.cons _ (.cons _ (.cons _ .slnil))))))
       refine ca1 (i := 2) rfl rfl (by kernel_rfl) (by decide) Tryd.func12 (by kernel_rfl) rfl #[.agg (stC (⟨#[97]⟩ : ByteArray) (⟨#[104]⟩ : ByteArray) 2 3 7 false 0 167772161 0 0 0 7 1), .agg (pkC 5 3 7 (⟨#[97]⟩ : ByteArray) false 0 0 false 0 167772161 false 0 0 false (.slice (some ⟨g, 0, none⟩) 1 1)), .int .i64 9] rfl (by (try simp only [List.map_toArray, List.map_cons, List.map_nil]); first | done | rfl) ?_
       refine (cw_ak _ _ (I.out.foot.imp (fun W hW => hW.2))).mono ?_
       rintro e_ w1 ⟨A, c, rfl, hf, hb⟩
       have I2 := Aside0.mk (I.out.addNew hb hf (fun k hk _ => I.out.new_out k hk))
       clear I IS hb hf
       have I := I2
       clear I2
       have IS := Aside0.mk ((I.out.imp (fun _ _ => trivial)).sub (.cons _ (.cons_cons _ (.cons _ (.cons _ (.cons _ .slnil))))))
       refine ⟨_, rfl, IS.out, ?_⟩
       refine pu1 (i := 3) rfl rfl (by kernel_rfl) ?_ (ha := by (go_simp; rfl))
       refine pu1 (i := 4) rfl rfl (by kernel_rfl) ?_ (ha := by (go_simp; rfl))
       refine pu1 (i := 5) rfl rfl (by kernel_rfl) ?_ (ha := by (go_simp; rfl))
       refine st1 (i := 7) rfl rfl (by kernel_rfl) (by decide) rfl rfl rfl I.out (by first | exact .head _ | exact .tail _ (.head _) | exact .tail _ (.tail _ (.head _)) | exact .tail _ (.tail _ (.tail _ (.head _)))) (by first | exact sr_st) (by first | exact .head | exact .tail .head | exact .tail (.tail .head) | exact .tail (.tail (.tail .head))) (fun w1 hI => ⟨(hI.imp (fun _ _ => trivial)).sub (.cons _ (.cons_cons _ (.cons _ (.cons _ (.cons _ .slnil))))), ?_⟩)
       clear I IS
       have I := Aside0.mk hI
       clear hI
       refine pu1 (i := 8) rfl rfl (by kernel_rfl) ?_ (ha := by (go_simp; rfl))
       refine do1 (by kernel_rfl) ?_
       replace I := I.out
       revert I
       revert w1
       revert c
       revert A
       revert gb
       revert g
       exact rest
   ·
     refine as1 (t := 26) (cs := (stC (⟨#[]⟩ : ByteArray) (⟨#[]⟩ : ByteArray) 0 0 0 false 0 0 0 0 0 0 0)) hK rfl ?hr I.out (fun gb w1 hI => ⟨(hI.imp (fun _ _ => trivial)).sub (.cons _ (.cons_cons _ (.cons _ (.cons _ (.cons _ .slnil))))), ?_⟩)
     case hr => first | (go_simp; done) | (go_simp; rfl)
     clear I IS
     have I := Aside0.mk hI
     clear hI
     have IS := Aside0.mk ((I.out.imp (fun _ _ => trivial)).sub (.cons _ (.cons_cons _ (.cons _ (.cons _ (.cons _ .slnil))))))
     refine ca1 (i := 1) rfl rfl (by kernel_rfl) (by decide) Tryd.func22 (by kernel_rfl) rfl #[.int .i64 3] rfl (by (try simp only [List.map_toArray, List.map_cons, List.map_nil]); first | done | rfl) ?_
     refine (ackm_c _).mono ?_
     rintro e_ w1 ⟨g, rfl, hf, hb⟩
     have I2 := Aside0.mk (I.out.addNew hb hf (fun k hk _ => I.out.new_out k hk))
     clear I IS hb hf
     have I := I2
     clear I2
     have IS := Aside0.mk ((I.out.imp (fun _ _ => trivial)).sub (.cons _ (.cons_cons _ (.cons _ (.cons _ (.cons _ .slnil))))))
     refine ⟨_, rfl, IS.out, ?_⟩
     refine ca1 (i := 2) rfl rfl (by kernel_rfl) (by decide) Tryd.func12 (by kernel_rfl) rfl #[.agg (stC (⟨#[97]⟩ : ByteArray) (⟨#[104]⟩ : ByteArray) 2 3 7 false 0 167772161 0 0 0 7 1), .agg (pkC 5 3 7 (⟨#[97]⟩ : ByteArray) false 0 0 false 0 167772161 false 0 0 false (.slice (some ⟨g, 0, none⟩) 1 1)), .int .i64 9] rfl (by (try simp only [List.map_toArray, List.map_cons, List.map_nil]); first | done | rfl) ?_
     refine (cw_ak _ _ (I.out.foot.imp (fun W hW => hW.2))).mono ?_
     rintro e_ w1 ⟨A, c, rfl, hf, hb⟩
     have I2 := Aside0.mk (I.out.addNew hb hf (fun k hk _ => I.out.new_out k hk))
     clear I IS hb hf
     have I := I2
     clear I2
     have IS := Aside0.mk ((I.out.imp (fun _ _ => trivial)).sub (.cons _ (.cons_cons _ (.cons _ (.cons _ (.cons _ .slnil))))))
     refine ⟨_, rfl, IS.out, ?_⟩
     refine pu1 (i := 3) rfl rfl (by kernel_rfl) ?_ (ha := by (go_simp; rfl))
     refine pu1 (i := 4) rfl rfl (by kernel_rfl) ?_ (ha := by (go_simp; rfl))
     refine pu1 (i := 5) rfl rfl (by kernel_rfl) ?_ (ha := by (go_simp; rfl))
     refine st1 (i := 7) rfl rfl (by kernel_rfl) (by decide) rfl rfl rfl I.out (by first | exact .head _ | exact .tail _ (.head _) | exact .tail _ (.tail _ (.head _)) | exact .tail _ (.tail _ (.tail _ (.head _)))) (by first | exact sr_st) (by first | exact .head | exact .tail .head | exact .tail (.tail .head) | exact .tail (.tail (.tail .head))) (fun w1 hI => ⟨(hI.imp (fun _ _ => trivial)).sub (.cons _ (.cons_cons _ (.cons _ (.cons _ (.cons _ .slnil))))), ?_⟩)
     clear I IS
     have I := Aside0.mk hI
     clear hI
     refine pu1 (i := 8) rfl rfl (by kernel_rfl) ?_ (ha := by (go_simp; rfl))
     refine do1 (by kernel_rfl) ?_
     replace I := I.out
     revert I
     revert w1
     revert c
     revert A
     revert gb
     revert g
     exact rest
  case rest6 =>
   intro g gb A c w1 I
   have I := Aside0.mk (I.imp (fun W hW => hW.1.1))
   obtain ⟨⟨⟨_, k5⟩, k7⟩, k9⟩ := I.out.now
   obtain ⟨ad5, _, _, e5, -⟩ := at_T39 k5 0 (by decide) (by decide); subst e5
   obtain ⟨ad7, _, _, e7, -⟩ := at_T39 k7 0 (by decide) (by decide); subst e7
   obtain ⟨ad9, _, _, e9, -⟩ := at_T39 k9 0 (by decide) (by decide); subst e9
   clear k5 k7 k9
   go_wp2_with (first
    | ((with_reducible refine gate_alloc (ty := 26) rfl ?_); refine wl_box (t := 26) (cs := (stC (⟨#[]⟩ : ByteArray) (⟨#[]⟩ : ByteArray) 0 0 0 false 0 0 0 0 0 0 0)) rfl ?hr I.out ?_; (case hr => first | (go_simp; done) | (go_simp; rfl)); intro gb w1 hI; clear I; have I := Aside0.mk hI; clear hI)
    | ((with_reducible refine gate_alloc (ty := 24) rfl ?_); refine wl_box (t := 24) (cs := #[.bool false, .int .u64 0, .int .u64 0]) rfl ?hr I.out ?_; (case hr => first | (go_simp; done) | (go_simp; rfl)); intro gb w1 hI; clear I; have I := Aside0.mk hI; clear hI)
    | ((with_reducible refine gate_ld rfl ?_); (try (refine gate_guard (by rfl) ?_; dsimp only)); refine wl_ld rfl rfl rfl I.out (by first | exact .head _ | exact .tail _ (.head _) | exact .tail _ (.tail _ (.head _)) | exact .tail _ (.tail _ (.tail _ (.head _))) | exact .tail _ (.tail _ (.tail _ (.tail _ (.head _)))) | exact .tail _ (.tail _ (.tail _ (.tail _ (.tail _ (.head _))))) | exact .tail _ (.tail _ (.tail _ (.tail _ (.tail _ (.tail _ (.head _)))))) | exact .tail _ (.tail _ (.tail _ (.tail _ (.tail _ (.tail _ (.tail _ (.head _))))))) | exact .tail _ (.tail _ (.tail _ (.tail _ (.tail _ (.tail _ (.tail _ (.tail _ (.head _))))))))) (by first | exact ld_st | exact ld_ad | exact ld_st2 | exact ld_st8 | exact ld_st9 | exact ld_st10) ?_)
    | ((with_reducible refine gate_ld rfl ?_); (try (refine gate_guard (by rfl) ?_; dsimp only)); obtain ⟨⟨⟨⟨_, k5⟩, k7⟩, k9⟩, k17⟩ := I.out.now; obtain ⟨ad5, B5, b5, e5, c5_0, c5_1, c5_2, -, -, -, -, -, -, -, -, -, -, -, c5_14, -, o5⟩ := at_T39 k5 0 (by decide) (by decide); cases e5; obtain ⟨ad7, B7, b7, e7, c7_0, c7_1, c7_2, -, -, -, -, -, -, -, -, -, -, -, c7_14, -, o7⟩ := at_T39 k7 0 (by decide) (by decide); cases e7; obtain ⟨ad9, B9, b9, e9, c9_0, c9_1, c9_2, -, -, -, -, -, -, -, -, -, -, -, c9_14, -, o9⟩ := at_T39 k9 0 (by decide) (by decide); cases e9; obtain ⟨ad17, B17, b17, e17, c17_0, c17_1, c17_2, -, -, -, -, -, -, -, -, -, -, -, c17_14, -, o17⟩ := at_T39 k17 0 (by decide) (by decide); cases e17; (first | refine wl_cell rfl rfl rfl _ Tryd.underlying3 rfl c5_0 ?_ | refine wl_cell rfl rfl rfl _ Tryd.underlying3 rfl c5_1 ?_ | refine wl_cell rfl rfl rfl _ Tryd.underlying3 rfl c5_2 ?_ | refine wl_cell rfl rfl rfl _ Tryd.underlying3 rfl c7_0 ?_ | refine wl_cell rfl rfl rfl _ Tryd.underlying3 rfl c7_1 ?_ | refine wl_cell rfl rfl rfl _ Tryd.underlying3 rfl c7_2 ?_ | refine wl_cell rfl rfl rfl _ Tryd.underlying3 rfl c9_0 ?_ | refine wl_cell rfl rfl rfl _ Tryd.underlying3 rfl c9_1 ?_ | refine wl_cell rfl rfl rfl _ Tryd.underlying3 rfl c9_2 ?_ | refine wl_cell rfl rfl rfl _ Tryd.underlying3 rfl c17_0 ?_ | refine wl_cell rfl rfl rfl _ Tryd.underlying3 rfl c17_1 ?_ | refine wl_cell rfl rfl rfl _ Tryd.underlying3 rfl c17_2 ?_ | refine wl_cell rfl rfl rfl _ Tryd.underlying37 rfl c9_14 ?_))
    | ((with_reducible refine gate_callee (f := 16) rfl ?_); (try (refine gate_guard (by rfl) ?_; dsimp only)); refine goesL_ (some 51) rfl rfl Tryd.func16 (by kernel_rfl) rfl #[.agg (stC (⟨#[97]⟩ : ByteArray) (⟨#[104]⟩ : ByteArray) 3 3 7 false 0 167772161 57 94 107 7 0), .int .i64 106] rfl (by (try simp only [List.map_toArray, List.map_cons, List.map_nil]); first | done | rfl) ?_; (refine (cw_h1 _).mono ?_); rintro e_ w1 ⟨rfl, hb⟩; refine ⟨_, rfl, ?_⟩; have I2 := Aside0.mk (I.out.call hb); clear I hb; have I := I2; clear I2)
    | ((with_reducible refine gate_callee (f := 16) rfl ?_); (try (refine gate_guard (by rfl) ?_; dsimp only)); refine goesL_ (some 56) rfl rfl Tryd.func16 (by kernel_rfl) rfl #[.agg (stC (⟨#[97]⟩ : ByteArray) (⟨#[104]⟩ : ByteArray) 3 3 7 false 0 167772161 57 94 107 7 0), .int .i64 107] rfl (by (try simp only [List.map_toArray, List.map_cons, List.map_nil]); first | done | rfl) ?_; (refine (cw_h2 _).mono ?_); rintro e_ w1 ⟨rfl, hb⟩; refine ⟨_, rfl, ?_⟩; have I2 := Aside0.mk (I.out.call hb); clear I hb; have I := I2; clear I2)
    | ((with_reducible refine gate_callee (f := 13) rfl ?_); (try (refine gate_guard (by rfl) ?_; dsimp only)); refine goesL_ (some 61) rfl rfl Tryd.func13 (by kernel_rfl) rfl #[.agg (stC (⟨#[97]⟩ : ByteArray) (⟨#[104]⟩ : ByteArray) 3 3 7 false 0 167772161 57 94 107 7 0), .int .i64 20] rfl (by (try simp only [List.map_toArray, List.map_cons, List.map_nil]); first | done | rfl) ?_; (refine (cw_lv _).mono ?_); rintro e_ w1 ⟨A, c, rfl, hf, hb⟩; obtain ⟨ad17, _, _, e17, -⟩ := at_T39 hf.now 0 (by decide) (by decide); subst e17; refine ⟨_, rfl, ?_⟩; have I2 := Aside0.mk (I.out.addNew hb hf (fun k hk _ => I.out.new_out k hk)); clear I hb hf; have I := I2; clear I2)
    | ((with_reducible refine gate_sr rfl ?_); refine wl_sr2 rfl rfl rfl rfl rfl I.out (by first | exact .head _ | exact .tail _ (.head _) | exact .tail _ (.tail _ (.head _)) | exact .tail _ (.tail _ (.tail _ (.head _))) | exact .tail _ (.tail _ (.tail _ (.tail _ (.head _)))) | exact .tail _ (.tail _ (.tail _ (.tail _ (.tail _ (.head _))))) | exact .tail _ (.tail _ (.tail _ (.tail _ (.tail _ (.tail _ (.head _)))))) | exact .tail _ (.tail _ (.tail _ (.tail _ (.tail _ (.tail _ (.tail _ (.head _))))))) | exact .tail _ (.tail _ (.tail _ (.tail _ (.tail _ (.tail _ (.tail _ (.tail _ (.head _))))))))) (by first | exact sr_st | exact sr_ad) (by first | exact .head | exact .tail (.head) | exact .tail (.tail (.head)) | exact .tail (.tail (.tail (.head))) | exact .tail (.tail (.tail (.tail (.head)))) | exact .tail (.tail (.tail (.tail (.tail (.head))))) | exact .tail (.tail (.tail (.tail (.tail (.tail (.head)))))) | exact .tail (.tail (.tail (.tail (.tail (.tail (.tail (.head))))))) | exact .tail (.tail (.tail (.tail (.tail (.tail (.tail (.tail (.head))))))))) ?_; intro w1 hI; clear I; have I := Aside0.mk hI; clear hI)
    )
   simp only [List.append, List.append_eq, List.cons_append, List.nil_append]
   obtain ⟨⟨⟨⟨_, k5⟩, k7⟩, k9⟩, k17⟩ := I.out.now
   obtain ⟨ad5, B5, b5, e5, c5_0, c5_1, c5_2, -, -, -, -, -, -, -, -, -, -, -, c5_14, -, o5⟩ := at_T39 k5 0 (by decide) (by decide)
   cases e5
   obtain ⟨ad7, B7, b7, e7, c7_0, c7_1, c7_2, -, -, -, -, -, -, -, -, -, -, -, c7_14, -, o7⟩ := at_T39 k7 0 (by decide) (by decide)
   cases e7
   obtain ⟨ad9, B9, b9, e9, c9_0, c9_1, c9_2, -, -, -, -, -, -, -, -, -, -, -, c9_14, -, o9⟩ := at_T39 k9 0 (by decide) (by decide)
   cases e9
   obtain ⟨ad17, B17, b17, e17, c17_0, c17_1, c17_2, -, -, -, -, -, -, -, -, -, -, -, c17_14, -, o17⟩ := at_T39 k17 0 (by decide) (by decide)
   cases e17
   obtain ⟨adO, eO, p0_0, p0_1⟩ := at_T60 o9 0 (by decide) (by decide)
   obtain ⟨adP, eP, p1_0, p1_1⟩ := at_T60 o9 1 (by decide) (by decide)
   subst eO
   cases eP
   replace c5_0 : _ = some (Value.int IntKind.i64 1 : Value) := c5_0
   replace c5_1 : _ = some (Value.int IntKind.i64 1 : Value) := c5_1
   replace c7_1 : _ = some (Value.int IntKind.i64 2 : Value) := c7_1
   replace c9_0 : _ = some (Value.int IntKind.i64 3 : Value) := c9_0
   replace c9_2 : _ = some (Value.int IntKind.i64 7 : Value) := c9_2
   replace c9_14 : _ = some (Value.slice _ 2 _ : Value) := c9_14
   replace c17_0 : _ = some (Value.int IntKind.i64 7 : Value) := c17_0
   replace c17_1 : _ = some (Value.int IntKind.i64 4 : Value) := c17_1
   replace p0_0 : _ = some (Value.int IntKind.i64 50 : Value) := p0_0
   replace p0_1 : _ = some (Value.string (⟨#[10, 0, 0, 1]⟩ : ByteArray) : Value) := p0_1
   replace p1_0 : _ = some (Value.int IntKind.i64 12 : Value) := p1_0
   replace p1_1 : _ = some (Value.string (⟨#[104]⟩ : ByteArray) : Value) := p1_1
   have HS := Aside0.mk (below_drew1 (Below.refl w1.heap.size w1))
   refine draw_ (fun W => Below w1.heap.size w1 W) [] (by kernel_rfl) rfl HS.out ?_
   refine pu1 (i := 0) rfl rfl (by as_aux_lemma => kernel_rfl) ?_ (ha := by as_aux_lemma => (go_simp; rfl))
   refine pu1 (i := 1) rfl rfl (by as_aux_lemma => kernel_rfl) ?_ (ha := by as_aux_lemma => (go_simp; rfl))
   refine pu1 (i := 2) rfl rfl (by as_aux_lemma => kernel_rfl) ?_ (ha := by as_aux_lemma => (go_simp; rfl))
   refine tc1 (i := 3) rfl rfl (by as_aux_lemma => kernel_rfl) HS.out (run_cellB rfl rfl _ Tryd.underlying3 rfl c5_0) ?_ (ha := by (go_simp; rfl))
   refine pu1 (i := 4) rfl rfl (by as_aux_lemma => kernel_rfl) ?_ (ha := by as_aux_lemma => (go_simp; rfl))
   refine pu1 (i := 5) rfl rfl (by as_aux_lemma => kernel_rfl) ?_ (ha := by as_aux_lemma => (go_simp; rfl))
   refine pu1 (i := 6) rfl rfl (by as_aux_lemma => kernel_rfl) ?_ (ha := by as_aux_lemma => (go_simp; rfl))
   refine pu1 (i := 7) rfl rfl (by as_aux_lemma => kernel_rfl) ?_ (ha := by as_aux_lemma => (go_simp; rfl))
   refine pu1 (i := 8) rfl rfl (by as_aux_lemma => kernel_rfl) ?_ (ha := by as_aux_lemma => (go_simp; rfl))
   refine tc1 (i := 9) rfl rfl (by as_aux_lemma => kernel_rfl) HS.out (run_cellB rfl rfl _ Tryd.underlying3 rfl c5_1) ?_ (ha := by (go_simp; rfl))
   refine pu1 (i := 10) rfl rfl (by as_aux_lemma => kernel_rfl) ?_ (ha := by as_aux_lemma => (go_simp; rfl))
   refine pu1 (i := 11) rfl rfl (by as_aux_lemma => kernel_rfl) ?_ (ha := by as_aux_lemma => (go_simp; rfl))
   refine pu1 (i := 12) rfl rfl (by as_aux_lemma => kernel_rfl) ?_ (ha := by as_aux_lemma => (go_simp; rfl))
   refine pu1 (i := 13) rfl rfl (by as_aux_lemma => kernel_rfl) ?_ (ha := by as_aux_lemma => (go_simp; rfl))
   refine pu1 (i := 14) rfl rfl (by as_aux_lemma => kernel_rfl) ?_ (ha := by as_aux_lemma => (go_simp; rfl))
   refine pu1 (i := 15) rfl rfl (by as_aux_lemma => kernel_rfl) ?_ (ha := by as_aux_lemma => (go_simp; rfl))
   refine tc1 (i := 16) rfl rfl (by as_aux_lemma => kernel_rfl) HS.out (run_cellB rfl rfl _ Tryd.underlying3 rfl c7_1) ?_ (ha := by (go_simp; rfl))
   refine pu1 (i := 17) rfl rfl (by as_aux_lemma => kernel_rfl) ?_ (ha := by as_aux_lemma => (go_simp; rfl))
   refine pu1 (i := 18) rfl rfl (by as_aux_lemma => kernel_rfl) ?_ (ha := by as_aux_lemma => (go_simp; rfl))
   refine pu1 (i := 19) rfl rfl (by as_aux_lemma => kernel_rfl) ?_ (ha := by as_aux_lemma => (go_simp; rfl))
   refine pu1 (i := 20) rfl rfl (by as_aux_lemma => kernel_rfl) ?_ (ha := by as_aux_lemma => (go_simp; rfl))
   refine pu1 (i := 21) rfl rfl (by as_aux_lemma => kernel_rfl) ?_ (ha := by as_aux_lemma => (go_simp; rfl))
   refine pu1 (i := 22) rfl rfl (by as_aux_lemma => kernel_rfl) ?_ (ha := by as_aux_lemma => (go_simp; rfl))
   refine tc1 (i := 23) rfl rfl (by as_aux_lemma => kernel_rfl) HS.out (run_cellB rfl rfl _ Tryd.underlying3 rfl c9_0) ?_ (ha := by (go_simp; rfl))
   refine pu1 (i := 24) rfl rfl (by as_aux_lemma => kernel_rfl) ?_ (ha := by as_aux_lemma => (go_simp; rfl))
   refine pu1 (i := 25) rfl rfl (by as_aux_lemma => kernel_rfl) ?_ (ha := by as_aux_lemma => (go_simp; rfl))
   refine pu1 (i := 26) rfl rfl (by as_aux_lemma => kernel_rfl) ?_ (ha := by as_aux_lemma => (go_simp; rfl))
   refine pu1 (i := 27) rfl rfl (by as_aux_lemma => kernel_rfl) ?_ (ha := by as_aux_lemma => (go_simp; rfl))
   refine pu1 (i := 28) rfl rfl (by as_aux_lemma => kernel_rfl) ?_ (ha := by as_aux_lemma => (go_simp; rfl))
   refine pu1 (i := 29) rfl rfl (by as_aux_lemma => kernel_rfl) ?_ (ha := by as_aux_lemma => (go_simp; rfl))
   refine tc1 (i := 30) rfl rfl (by as_aux_lemma => kernel_rfl) HS.out (run_cellB rfl rfl _ Tryd.underlying3 rfl c9_2) ?_ (ha := by (go_simp; rfl))
   refine pu1 (i := 31) rfl rfl (by as_aux_lemma => kernel_rfl) ?_ (ha := by as_aux_lemma => (go_simp; rfl))
   refine pu1 (i := 32) rfl rfl (by as_aux_lemma => kernel_rfl) ?_ (ha := by as_aux_lemma => (go_simp; rfl))
   refine pu1 (i := 33) rfl rfl (by as_aux_lemma => kernel_rfl) ?_ (ha := by as_aux_lemma => (go_simp; rfl))
   refine pu1 (i := 34) rfl rfl (by as_aux_lemma => kernel_rfl) ?_ (ha := by as_aux_lemma => (go_simp; rfl))
   refine pu1 (i := 35) rfl rfl (by as_aux_lemma => kernel_rfl) ?_ (ha := by as_aux_lemma => (go_simp; rfl))
   refine pu1 (i := 36) rfl rfl (by as_aux_lemma => kernel_rfl) ?_ (ha := by as_aux_lemma => (go_simp; rfl))
   refine tc1 (i := 37) rfl rfl (by as_aux_lemma => kernel_rfl) HS.out (run_cellB rfl rfl _ Tryd.underlying37 rfl c9_14) ?_ (ha := by (go_simp; rfl))
   refine pu1 (i := 38) rfl rfl (by as_aux_lemma => kernel_rfl) ?_ (ha := by as_aux_lemma => (go_simp; rfl))
   refine tc1 (i := 39) rfl rfl (by as_aux_lemma => kernel_rfl) HS.out (run_twoB rfl rfl p0_0 p0_1) ?_ (ha := by (go_simp; rfl))
   refine pu1 (i := 40) rfl rfl (by as_aux_lemma => kernel_rfl) ?_ (ha := by as_aux_lemma => (go_simp; rfl))
   refine pu1 (i := 41) rfl rfl (by as_aux_lemma => kernel_rfl) ?_ (ha := by as_aux_lemma => (go_simp; rfl))
   refine pu1 (i := 42) rfl rfl (by as_aux_lemma => kernel_rfl) ?_ (ha := by as_aux_lemma => (go_simp; rfl))
   refine pu1 (i := 43) rfl rfl (by as_aux_lemma => kernel_rfl) ?_ (ha := by as_aux_lemma => (go_simp; rfl))
   refine pu1 (i := 44) rfl rfl (by as_aux_lemma => kernel_rfl) ?_ (ha := by as_aux_lemma => (go_simp; rfl))
   refine pu1 (i := 45) rfl rfl (by as_aux_lemma => kernel_rfl) ?_ (ha := by as_aux_lemma => (go_simp; rfl))
   refine pu1 (i := 46) rfl rfl (by as_aux_lemma => kernel_rfl) ?_ (ha := by as_aux_lemma => (go_simp; rfl))
   refine tc1 (i := 47) rfl rfl (by as_aux_lemma => kernel_rfl) HS.out (run_cellB rfl rfl _ Tryd.underlying37 rfl c9_14) ?_ (ha := by (go_simp; rfl))
   refine pu1 (i := 48) rfl rfl (by as_aux_lemma => kernel_rfl) ?_ (ha := by as_aux_lemma => (go_simp; rfl))
   refine tc1 (i := 49) rfl rfl (by as_aux_lemma => kernel_rfl) HS.out (run_twoB rfl rfl p1_0 p1_1) ?_ (ha := by (go_simp; rfl))
   refine pu1 (i := 50) rfl rfl (by as_aux_lemma => kernel_rfl) ?_ (ha := by as_aux_lemma => (go_simp; rfl))
   refine pu1 (i := 51) rfl rfl (by as_aux_lemma => kernel_rfl) ?_ (ha := by as_aux_lemma => (go_simp; rfl))
   refine pu1 (i := 52) rfl rfl (by as_aux_lemma => kernel_rfl) ?_ (ha := by as_aux_lemma => (go_simp; rfl))
   refine pu1 (i := 53) rfl rfl (by as_aux_lemma => kernel_rfl) ?_ (ha := by as_aux_lemma => (go_simp; rfl))
   refine pu1 (i := 54) rfl rfl (by as_aux_lemma => kernel_rfl) ?_ (ha := by as_aux_lemma => (go_simp; rfl))
   refine tc1 (i := 55) rfl rfl (by as_aux_lemma => kernel_rfl) HS.out (run_ownB rfl rfl I.out (by first | exact .head _ | exact .tail _ (.head _) | exact .tail _ (.tail _ (.head _)) | exact .tail _ (.tail _ (.tail _ (.head _))) | exact .tail _ (.tail _ (.tail _ (.tail _ (.head _)))) | exact .tail _ (.tail _ (.tail _ (.tail _ (.tail _ (.head _))))) | exact .tail _ (.tail _ (.tail _ (.tail _ (.tail _ (.tail _ (.head _)))))) | exact .tail _ (.tail _ (.tail _ (.tail _ (.tail _ (.tail _ (.tail _ (.head _))))))) | exact .tail _ (.tail _ (.tail _ (.tail _ (.tail _ (.tail _ (.tail _ (.tail _ (.head _))))))))) (by exact ld_st2)) ?_ (ha := by (go_simp; rfl))
   refine pu1 (i := 56) rfl rfl (by as_aux_lemma => kernel_rfl) ?_ (ha := by as_aux_lemma => (go_simp; rfl))
   refine pu1 (i := 57) rfl rfl (by as_aux_lemma => kernel_rfl) ?_ (ha := by as_aux_lemma => (go_simp; rfl))
   refine pu1 (i := 58) rfl rfl (by as_aux_lemma => kernel_rfl) ?_ (ha := by as_aux_lemma => (go_simp; rfl))
   refine pu1 (i := 59) rfl rfl (by as_aux_lemma => kernel_rfl) ?_ (ha := by as_aux_lemma => (go_simp; rfl))
   refine tc1 (i := 60) rfl rfl (by as_aux_lemma => kernel_rfl) HS.out (run_ownB rfl rfl I.out (by first | exact .head _ | exact .tail _ (.head _) | exact .tail _ (.tail _ (.head _)) | exact .tail _ (.tail _ (.tail _ (.head _))) | exact .tail _ (.tail _ (.tail _ (.tail _ (.head _)))) | exact .tail _ (.tail _ (.tail _ (.tail _ (.tail _ (.head _))))) | exact .tail _ (.tail _ (.tail _ (.tail _ (.tail _ (.tail _ (.head _)))))) | exact .tail _ (.tail _ (.tail _ (.tail _ (.tail _ (.tail _ (.tail _ (.head _))))))) | exact .tail _ (.tail _ (.tail _ (.tail _ (.tail _ (.tail _ (.tail _ (.tail _ (.head _))))))))) (by exact ld_st8)) ?_ (ha := by (go_simp; rfl))
   refine pu1 (i := 61) rfl rfl (by as_aux_lemma => kernel_rfl) ?_ (ha := by as_aux_lemma => (go_simp; rfl))
   refine pu1 (i := 62) rfl rfl (by as_aux_lemma => kernel_rfl) ?_ (ha := by as_aux_lemma => (go_simp; rfl))
   refine pu1 (i := 63) rfl rfl (by as_aux_lemma => kernel_rfl) ?_ (ha := by as_aux_lemma => (go_simp; rfl))
   refine pu1 (i := 64) rfl rfl (by as_aux_lemma => kernel_rfl) ?_ (ha := by as_aux_lemma => (go_simp; rfl))
   refine tc1 (i := 65) rfl rfl (by as_aux_lemma => kernel_rfl) HS.out (run_ownB rfl rfl I.out (by first | exact .head _ | exact .tail _ (.head _) | exact .tail _ (.tail _ (.head _)) | exact .tail _ (.tail _ (.tail _ (.head _))) | exact .tail _ (.tail _ (.tail _ (.tail _ (.head _)))) | exact .tail _ (.tail _ (.tail _ (.tail _ (.tail _ (.head _))))) | exact .tail _ (.tail _ (.tail _ (.tail _ (.tail _ (.tail _ (.head _)))))) | exact .tail _ (.tail _ (.tail _ (.tail _ (.tail _ (.tail _ (.tail _ (.head _))))))) | exact .tail _ (.tail _ (.tail _ (.tail _ (.tail _ (.tail _ (.tail _ (.tail _ (.head _))))))))) (by exact ld_st9)) ?_ (ha := by (go_simp; rfl))
   refine pu1 (i := 66) rfl rfl (by as_aux_lemma => kernel_rfl) ?_ (ha := by as_aux_lemma => (go_simp; rfl))
   refine pu1 (i := 67) rfl rfl (by as_aux_lemma => kernel_rfl) ?_ (ha := by as_aux_lemma => (go_simp; rfl))
   refine pu1 (i := 68) rfl rfl (by as_aux_lemma => kernel_rfl) ?_ (ha := by as_aux_lemma => (go_simp; rfl))
   refine pu1 (i := 69) rfl rfl (by as_aux_lemma => kernel_rfl) ?_ (ha := by as_aux_lemma => (go_simp; rfl))
   refine tc1 (i := 70) rfl rfl (by as_aux_lemma => kernel_rfl) HS.out (run_ownB rfl rfl I.out (by first | exact .head _ | exact .tail _ (.head _) | exact .tail _ (.tail _ (.head _)) | exact .tail _ (.tail _ (.tail _ (.head _))) | exact .tail _ (.tail _ (.tail _ (.tail _ (.head _)))) | exact .tail _ (.tail _ (.tail _ (.tail _ (.tail _ (.head _))))) | exact .tail _ (.tail _ (.tail _ (.tail _ (.tail _ (.tail _ (.head _)))))) | exact .tail _ (.tail _ (.tail _ (.tail _ (.tail _ (.tail _ (.tail _ (.head _))))))) | exact .tail _ (.tail _ (.tail _ (.tail _ (.tail _ (.tail _ (.tail _ (.tail _ (.head _))))))))) (by exact ld_st10)) ?_ (ha := by (go_simp; rfl))
   refine pu1 (i := 71) rfl rfl (by as_aux_lemma => kernel_rfl) ?_ (ha := by as_aux_lemma => (go_simp; rfl))
   refine pu1 (i := 72) rfl rfl (by as_aux_lemma => kernel_rfl) ?_ (ha := by as_aux_lemma => (go_simp; rfl))
   refine pu1 (i := 73) rfl rfl (by as_aux_lemma => kernel_rfl) ?_ (ha := by as_aux_lemma => (go_simp; rfl))
   refine pu1 (i := 74) rfl rfl (by as_aux_lemma => kernel_rfl) ?_ (ha := by as_aux_lemma => (go_simp; rfl))
   refine pu1 (i := 75) rfl rfl (by as_aux_lemma => kernel_rfl) ?_ (ha := by as_aux_lemma => (go_simp; rfl))
   refine pu1 (i := 76) rfl rfl (by as_aux_lemma => kernel_rfl) ?_ (ha := by as_aux_lemma => (go_simp; rfl))
   refine tc1 (i := 77) rfl rfl (by as_aux_lemma => kernel_rfl) HS.out (run_ownB rfl rfl I.out (by first | exact .head _ | exact .tail _ (.head _) | exact .tail _ (.tail _ (.head _)) | exact .tail _ (.tail _ (.tail _ (.head _))) | exact .tail _ (.tail _ (.tail _ (.tail _ (.head _)))) | exact .tail _ (.tail _ (.tail _ (.tail _ (.tail _ (.head _))))) | exact .tail _ (.tail _ (.tail _ (.tail _ (.tail _ (.tail _ (.head _)))))) | exact .tail _ (.tail _ (.tail _ (.tail _ (.tail _ (.tail _ (.tail _ (.head _))))))) | exact .tail _ (.tail _ (.tail _ (.tail _ (.tail _ (.tail _ (.tail _ (.tail _ (.head _))))))))) (by exact ld_ad)) ?_ (ha := by (go_simp; rfl))
   refine ca1 (i := 78) rfl rfl (by kernel_rfl) (by decide) Tryd.func21 (by kernel_rfl) rfl #[.int .u64 1] rfl (by (try simp only [List.map_toArray, List.map_cons, List.map_nil]); first | done | rfl) ?_
   refine (ten_c _).mono ?_
   rintro e_ w2 ⟨rfl, hb⟩
   have HS2 := Aside0.mk (below_step HS.out hb)
   clear HS hb
   have HS := HS2
   clear HS2
   refine ⟨_, rfl, HS.out, ?_⟩
   refine pu1 (i := 79) rfl rfl (by as_aux_lemma => kernel_rfl) ?_ (ha := by as_aux_lemma => (go_simp; rfl))
   refine pu1 (i := 80) rfl rfl (by as_aux_lemma => kernel_rfl) ?_ (ha := by as_aux_lemma => (go_simp; rfl))
   refine pu1 (i := 81) rfl rfl (by as_aux_lemma => kernel_rfl) ?_ (ha := by as_aux_lemma => (go_simp; rfl))
   refine pu1 (i := 82) rfl rfl (by as_aux_lemma => kernel_rfl) ?_ (ha := by as_aux_lemma => (go_simp; rfl))
   refine pu1 (i := 83) rfl rfl (by as_aux_lemma => kernel_rfl) ?_ (ha := by as_aux_lemma => (go_simp; rfl))
   refine pu1 (i := 84) rfl rfl (by as_aux_lemma => kernel_rfl) ?_ (ha := by as_aux_lemma => (go_simp; rfl))
   refine pu1 (i := 85) rfl rfl (by as_aux_lemma => kernel_rfl) ?_ (ha := by as_aux_lemma => (go_simp; rfl))
   refine pu1 (i := 86) rfl rfl (by as_aux_lemma => kernel_rfl) ?_ (ha := by as_aux_lemma => (go_simp; rfl))
   refine pu1 (i := 87) rfl rfl (by as_aux_lemma => kernel_rfl) ?_ (ha := by as_aux_lemma => (go_simp; rfl))
   refine pu1 (i := 88) rfl rfl (by as_aux_lemma => kernel_rfl) ?_ (ha := by as_aux_lemma => (go_simp; rfl))
   refine tc1 (i := 89) rfl rfl (by as_aux_lemma => kernel_rfl) HS.out (run_cellB rfl rfl _ Tryd.underlying3 rfl c17_0) ?_ (ha := by (go_simp; rfl))
   refine pu1 (i := 90) rfl rfl (by as_aux_lemma => kernel_rfl) ?_ (ha := by as_aux_lemma => (go_simp; rfl))
   refine pu1 (i := 91) rfl rfl (by as_aux_lemma => kernel_rfl) ?_ (ha := by as_aux_lemma => (go_simp; rfl))
   refine pu1 (i := 92) rfl rfl (by as_aux_lemma => kernel_rfl) ?_ (ha := by as_aux_lemma => (go_simp; rfl))
   refine pu1 (i := 93) rfl rfl (by as_aux_lemma => kernel_rfl) ?_ (ha := by as_aux_lemma => (go_simp; rfl))
   refine pu1 (i := 94) rfl rfl (by as_aux_lemma => kernel_rfl) ?_ (ha := by as_aux_lemma => (go_simp; rfl))
   refine pu1 (i := 95) rfl rfl (by as_aux_lemma => kernel_rfl) ?_ (ha := by as_aux_lemma => (go_simp; rfl))
   refine tc1 (i := 96) rfl rfl (by as_aux_lemma => kernel_rfl) HS.out (run_cellB rfl rfl _ Tryd.underlying3 rfl c17_1) ?_ (ha := by (go_simp; rfl))
   refine pu1 (i := 97) rfl rfl (by as_aux_lemma => kernel_rfl) ?_ (ha := by as_aux_lemma => (go_simp; rfl))
   refine pu1 (i := 98) rfl rfl (by as_aux_lemma => kernel_rfl) ?_ (ha := by as_aux_lemma => (go_simp; rfl))
   refine pu1 (i := 99) rfl rfl (by as_aux_lemma => kernel_rfl) ?_ (ha := by as_aux_lemma => (go_simp; rfl))
   refine pu1 (i := 100) rfl rfl (by as_aux_lemma => kernel_rfl) ?_ (ha := by as_aux_lemma => (go_simp; rfl))
   refine tc1 (i := 101) rfl rfl (by as_aux_lemma => kernel_rfl) HS.out (run_ownB rfl rfl I.out (by first | exact .head _ | exact .tail _ (.head _) | exact .tail _ (.tail _ (.head _)) | exact .tail _ (.tail _ (.tail _ (.head _))) | exact .tail _ (.tail _ (.tail _ (.tail _ (.head _)))) | exact .tail _ (.tail _ (.tail _ (.tail _ (.tail _ (.head _))))) | exact .tail _ (.tail _ (.tail _ (.tail _ (.tail _ (.tail _ (.head _)))))) | exact .tail _ (.tail _ (.tail _ (.tail _ (.tail _ (.tail _ (.tail _ (.head _))))))) | exact .tail _ (.tail _ (.tail _ (.tail _ (.tail _ (.tail _ (.tail _ (.tail _ (.head _))))))))) (by exact ld_st2)) ?_ (ha := by (go_simp; rfl))
   refine pu1 (i := 102) rfl rfl (by as_aux_lemma => kernel_rfl) ?_ (ha := by as_aux_lemma => (go_simp; rfl))
   refine pu1 (i := 103) rfl rfl (by as_aux_lemma => kernel_rfl) ?_ (ha := by as_aux_lemma => (go_simp; rfl))
   refine pu1 (i := 104) rfl rfl (by as_aux_lemma => kernel_rfl) ?_ (ha := by as_aux_lemma => (go_simp; rfl))
   refine do1 (by as_aux_lemma => kernel_rfl) ?_
   go_wp2
   go_ret
   exact ⟨rfl, I.out.below.trans (HS.out.mono I.out.below.size)⟩
end Go.Proofs.YtlabnocmmeciaaaDoor.BQ


namespace Go.Proofs.YtlabnocmmeciaaaDoor.LAW
open Go Go.RowKit Go.Proofs.YtlabnocmmeciaaaDoorW.PrintWords Go.Proofs.YtlabnocmmeciaaaDoorW.PrintLast Go.Proofs.YtlabnocmmeciaaaDoorW.PrintMore Go.Proofs.YtlabnocmmeciaaaDoor.Pa Go.Proofs.YtlabnocmmeciaaaDoor.STN Go.Proofs.YtlabnocmmeciaaaDoor.DN Go.Proofs.YtlabnocmmeciaaaDoor.OPT Go.Proofs.YtlabnocmmeciaaaDoor.PLN Go.Proofs.YtlabnocmmeciaaaDoor.BQ
set_option linter.unusedVariables false
set_option linter.unusedSimpArgs false
def spOf (x : S41) (o : Value) : Array Value := spC x.f0 x.f1 x.f2.f0 x.f2.f1 x.f2.f2 x.f2.f3 x.f2.f4.f0 x.f2.f4.f1 x.f2.f4.f2 x.f2.f5.f0 x.f2.f5.f1 x.f2.f5.f2 x.f2.f6.f0 x.f2.f6.f1 x.f2.f6.f2 x.f2.f7 o x.f3
def msgP (x : S41) (xid : Int) (a : S24) : S39 := ⟨x.f2.f0, if x.f2.f1 < 0 then (if 0 < xid + x.f2.f1 + 1 then xid + x.f2.f1 + 1 else 0) else x.f2.f1, x.f2.f2, x.f2.f3, x.f2.f4, ⟨if x.f3 then a.f0 else x.f2.f5.f0, if x.f3 then a.f1 else x.f2.f5.f1, if x.f3 then a.f2 else x.f2.f5.f2⟩, x.f2.f6, x.f2.f7, x.f2.f8⟩
/-- What an argument's step keeps to. -/
def okS (x : S41) : Prop := (0 ≤ x.f0 ∧ x.f0 ≤ 255) ∧ (0 ≤ x.f1 ∧ x.f1 ≤ 4294967295) ∧ (-9223372036854775808 ≤ x.f2.f1 ∧ x.f2.f1 ≤ 9223372036854775807) ∧ 0 ≤ x.f2.f4.f2 ∧ 0 ≤ x.f2.f5.f2 ∧ 0 ≤ x.f2.f6.f2 ∧ ∀ o ∈ x.f2.f8, o.f1.size ≤ 140737488351232
instance (x : S41) : Decidable (okS x) := inferInstanceAs (Decidable (_ ∧ _ ∧ _ ∧ _ ∧ _ ∧ _ ∧ _))
theorem msgP_fit {x : S41} {xid : Int} {a : S24} (hx : okS x) (ha : okB a) : Fit (msgP x xid a) := by
  obtain ⟨_, _, _, h4, h5, h6, h7⟩ := hx
  refine ⟨h4, ?_, h6, h7⟩
  show 0 ≤ (if x.f3 = true then a.f2 else x.f2.f5.f2)
  split
  · exact ha.2
  · exact h5
theorem message_J (x : S41) (A : Option Addr) (n cc : Nat) (xid : Int) (a : S24) (w : World) (hx : 0 ≤ xid ∧ xid ≤ 4294967295) (ho : okS x) : Calls Tryd.prog 10 #[.agg (spOf x (.slice A n cc)), .int .i64 xid, .agg #[.bool a.f0, .int .u64 a.f1, .int .u64 a.f2]] w fun e w' => e = .returned (.agg (pkOf (msgP x xid a) (.slice A n cc))) ∧ Below w.heap.size w w' :=
  message_c x.f0 x.f1 x.f2.f0 x.f2.f1 x.f2.f2 x.f2.f3 x.f2.f4.f0 x.f2.f4.f1 x.f2.f4.f2 x.f2.f5.f0 x.f2.f5.f1 x.f2.f5.f2 x.f2.f6.f0 x.f2.f6.f1 x.f2.f6.f2 x.f2.f7 A n cc x.f3 xid a.f0 a.f1 a.f2 w hx ho.2.2.1
section
variable {c h : ByteArray} {s : Stn}
theorem tick_J (hJ : J c h s) (now : Int) (w : World) : Calls Tryd.prog 9 #[.agg (stA s), .int .i64 now] w (Ret (tickF s now) w) := tick_c s now w hJ.x0 hJ.se hJ.t2 hJ.un hJ.tr (want_f s.a)
theorem leave_J (hJ : J c h s) (now : Int) (w : World) : Calls Tryd.prog 13 #[.agg (stA s), .int .i64 now] w (Ret (giveF s 7) w) := leave_c s now w hJ.x0
theorem refuse_J (hJ : J c h s) (now : Int) (w : World) : Calls Tryd.prog 14 #[.agg (stA s), .int .i64 now] w (Ret (giveF s 4) w) := refuse_c s now w hJ.x0
theorem lease_J {p : S39} (hl : p.f8.length ≤ 32) : dhcp_Lease.f 1000 p.f0 p.f1 p.f2 p.f3 p.f4.f0 p.f4.f1 p.f4.f2 p.f5.f0 p.f5.f1 p.f5.f2 p.f6.f0 p.f6.f1 p.f6.f2 p.f7 p.f8 = some (leaseP p.f8) := lease_f _ _ _ _ _ _ _ _ _ _ _ _ _ _ p.f8 (by omega) 1000 (by omega) (by omega)
theorem recv_J (hJ : J c h s) {p : S39} (hv : pkV p = true) (A : Option Addr) (cc : Nat) (B : Nat → Prop) (now : Int) (w : World) (hB : Foot (fun W => Kd.C k60 W A p.f8.length p.f8) w B) (hc : p.f8.length ≤ cc) : Calls Tryd.prog 12 #[.agg (stA s), .agg (pkOf p (.slice A p.f8.length cc)), .int .i64 now] w (Ret (recvP s p now) w) :=
  recv_c s p.f0 p.f1 p.f2 p.f3 p.f4.f0 p.f4.f1 p.f4.f2 p.f5 p.f6.f0 p.f6.f1 p.f6.f2 p.f7 A cc p.f8 B _ _ _ _ now w hJ.x0 hJ.se (valid_of p.f5) (want_f p.f5) hB hc (lease_J (vpk_of hv).2.2) (leaseP_le p.f8)
theorem valid_J {p : S39} (hf : Fit p) (A : Option Addr) (cc : Nat) (w : World) (hr : Kd.C k60 w A p.f8.length p.f8) (hc : p.f8.length ≤ cc) : Calls Tryd.prog 11 #[.agg (pkOf p (.slice A p.f8.length cc))] w fun e w' => e = .returned (.bool (pkV p)) ∧ Below w.heap.size w w' :=
  dhcp_Valid.calls 300 _ _ _ _ _ _ _ _ _ _ _ _ _ _ A cc p.f8 _ w hr hc (pkV_f p hf 300 (by omega))
end
theorem elder {α : Type} {d : Kd α} (hd : Kd.Heap d) {w W : World} {A : Option Addr} {n : Nat} {xs : List α} (h : d.C w A n xs) (hb : Below w.heap.size w W) : Foot (fun W => d.C W A n xs) W (fun k => k < w.heap.size) := fun W' hW => hd.C (fun k hk => (hW k hk (by have := hb.size; omega)).trans (hb.block k hk)) h
theorem add_add (ad : Addr) (m j : Nat) : (ad.add m).add j = ad.add (m + j) := by
  unfold Addr.add
  by_cases hm : m = 0
  · subst hm; simp
  · rw [if_neg hm]
    by_cases hj : j = 0
    · subst hj; simp [hm]
    · rw [if_neg hj, if_neg (by omega)]; simp [Nat.add_assoc]
theorem run_rowld {P : Program} {ty : TypeId} (d : TypeDesc) (hu : P.underlying ty = some d) (hd : d.isRow = true) (p : Addr) (cs : List Value) (hi : (P.info? ty).map (·.size) = some cs.length) (w : World) (h : ∀ j v, cs[j]? = some v → w.cell? (p.add j) = some v) : (loadVar ty p).run P w = .ok (.agg cs.toArray) w := by
  have hl : (loadCells p cs.length).run P w = .ok cs.toArray w := run_loadCells_list (P := P) w p cs h
  cases hq : P.info? ty with
  | none => simp [hq] at hi
  | some i =>
    have hs : i.size = cs.length := by simpa [hq] using hi
    have hagg : (isAgg ty).run P w = .ok true w := by
      unfold isAgg
      rw [Sem.run_bind, run_underlying hu w]
      cases d <;> simp_all [TypeDesc.isRow]
    simp [loadVar, Sem.run_bind, hagg, sizeOf, typeInfo, hq, hs, hl]
theorem run_ldp {P : Program} {o : Oper} {a : Act} {ty : TypeId} {x : Operand} {p : Addr} {v : Value} {W : World} (ho : o.op = .load ty x) (hx : a.eval x = .pointer (some p)) (h : (loadVar ty p).run P W = .ok v W) : (execOp a.eval o).run P W = .ok (.value v) W := by
  unfold execOp; simp only [ho, hx, Instr.loadAt, Instr.sureAddr, Sem.run_bind, Sem.run_pure, Result.andThen_ok, h]
theorem tl1 {P : Program} {S : World → Prop} {ops : Array Oper} {oi : Oper} {a a' : Act} {Q : Exit → Act → World → Prop} {ds : List Nat} {fuel i : Nat} {l : Array Bool} {N : Option Tmp} {w : World} {v : Value} (hi : ops[i]? = some oi) (hN : oi.dst = N) (hc : takeB .any ops ds l (l.setIfInBounds i true) i = true) (hS : S w) (hrun : ∀ W, S W → (execOp a.eval oi).run P W = .ok (.value v) W)
    (h : wpAnyLast P .any ops Q S ds fuel (l.setIfInBounds i true) a' w) (hw : Region.wanted oi (yielded ops a.tmps) = true := by rfl) (ha : a.put N v = a' := by (go_simp; rfl)) (hQ : ∀ c a w, Q (.panic c) (a.put oi.dst v) w → Q (.panic c) a w := by exact fun _ _ _ h => h) :
    wpAnyLast P .any ops Q S ds (fuel + 1) l a w := take_ _ hi hN hc hQ (Or.inl ⟨hw, fun W hW => hrun W hW⟩) hS ha h
/-- A step of the argument's row, read in any later world. -/
theorem row_at {w : World} {A : Option Addr} {l : List S41} (hr : Kd.C k41 w A l.length l) (i : Nat) (hi : i < l.length) : ∃ ad A16 c16, A = some ad ∧ (l[i]).f2.f8.length ≤ c16 ∧ Kd.C k60 w A16 (l[i]).f2.f8.length (l[i]).f2.f8 ∧
    (∀ W, Below w.heap.size w W → W.cell? (ad.add (i * 18)) = some (.int .u8 (l[i]).f0)) ∧ (∀ W, Below w.heap.size w W → W.cell? ⟨(ad.add (i * 18)).block, (ad.add (i * 18)).off + 1, none⟩ = some (.int .u32 (l[i]).f1)) ∧
    (∀ W, Below w.heap.size w W → (loadVar 41 (ad.add (i * 18))).run Tryd.prog W = .ok (.agg (spOf l[i] (.slice A16 (l[i]).f2.f8.length c16))) W) := by
  obtain ⟨ad, cs, e, _, hK, hc0⟩ := Kd.C_get hr z41 i (by omega) (by omega)
  have ei : l.getD (i : Int).toNat z41 = l[i] := by simp [hi]
  rw [ei] at hK
  obtain ⟨A16, c16, rfl, l16, g16⟩ := k41_open hK
  have hall : ∀ W, Below w.heap.size w W → ∀ j u, (spOf l[i] (.slice A16 (l[i]).f2.f8.length c16)).toList[j]? = some u → W.cell? ((ad.add (i * 18)).add j) = some u := fun W hb j u hu => by
    have h0 : w.cell? (ad.add (i * 18 + j)) = some u := hc0 j u hu
    rw [add_add]
    exact (hb.cell (World.block_lt_of_cell? w _ h0)).trans h0
  refine ⟨ad, A16, c16, e, l16, g16, fun W hb => hall W hb 0 _ rfl, fun W hb => ?_, fun W hb => ?_⟩
  · rw [← add_field _ _ 1 (by omega)]; have := hall W hb 1 _ rfl; rw [add_add] at this; exact this
  · exact run_rowld _ Tryd.underlying41 rfl _ _ (by kernel_rfl) W (hall W hb)
theorem Good.cases {c h : ByteArray} {s : Stn} {r : Stn × List S39} (hG : Good c h s r) : ∃ s', J c h s' ∧ ((r = (s', []) ∧ s'.xid = s.xid) ∨ ∃ m, r = (s', [m]) ∧ s'.xid = s.xid + 1 ∧ OkM c (s.xid + 1) m) := by
  obtain ⟨s', l⟩ := r
  obtain ⟨hJ, ⟨hl, hx⟩ | ⟨m, hl, hx, hM⟩⟩ := hG
  · exact ⟨s', hJ, .inl ⟨by rw [show l = [] from hl], hx⟩⟩
  · exact ⟨s', hJ, .inr ⟨m, by rw [show l = [m] from hl], hx, hM⟩⟩
theorem message_P {x : S41} {p : S39} (A : Option Addr) (cc : Nat) {xid : Int} {a : S24} (hp : msgP x xid a = p) (w : World) (hx : 0 ≤ xid ∧ xid ≤ 4294967295) (ho : okS x) : Calls Tryd.prog 10 #[.agg (spOf x (.slice A p.f8.length cc)), .int .i64 xid, .agg #[.bool a.f0, .int .u64 a.f1, .int .u64 a.f2]] w fun e w' => e = .returned (.agg (pkOf p (.slice A p.f8.length cc))) ∧ Below w.heap.size w w' := by
  subst hp; exact message_J x A _ cc xid a w hx ho
theorem ld_pkOf {p : S39} {o : Value} : Ld Tryd.prog 39 (pkOf p o) 0 (.agg (pkOf p o)) := ld_pk
theorem ld_pkOf0 {p : S39} {o : Value} : Ld Tryd.prog 3 (pkOf p o) 0 (.int .i64 p.f0) := ld_pk0
theorem ld_pkOf1 {p : S39} {o : Value} : Ld Tryd.prog 3 (pkOf p o) 1 (.int .i64 p.f1) := ld_pk1
theorem ld_pkOf3 {p : S39} {o : Value} : Ld Tryd.prog 9 (pkOf p o) 3 (.string p.f3) := ld_pk3
theorem ld_pkOfA {p : S39} {o : Value} : Ld Tryd.prog 24 (pkOf p o) 7 (.agg #[.bool p.f5.f0, .int .u64 p.f5.f1, .int .u64 p.f5.f2]) := ld_pkA7
theorem sr_pkOf {p : S39} {A : Option Addr} {n c : Nat} {cs : Array Value} (hs : cs.size = 15 := by rfl) : Sr Tryd.prog 39 cs 0 (.agg (pkOf p (.slice A n c))) (pkOf p (.slice A n c)) := sr_row (by kernel_rfl) (by rw [hs]; rfl) (by simp [pkOf, pkC, Value.oneCell'])
theorem validB {p : S39} {b : Bool} (hv : pkV p = b) (hf : Fit p) (A : Option Addr) (cc : Nat) (w : World) (hr : Kd.C k60 w A p.f8.length p.f8) (hc : p.f8.length ≤ cc) : Calls Tryd.prog 11 #[.agg (pkOf p (.slice A p.f8.length cc))] w fun e w' => e = .returned (.bool b) ∧ Below w.heap.size w w' := by
  subst hv; exact valid_J hf A cc w hr hc
def cblk : Code → Code
  | .block _ c => c
  | c => c
def clp : Code → Code
  | .loop c => c
  | c => c
end Go.Proofs.YtlabnocmmeciaaaDoor.LAW


namespace Go.Proofs.YtlabnocmmeciaaaDoor.LAW
open Go Go.RowKit Go.Proofs.YtlabnocmmeciaaaDoorW.PrintWords Go.Proofs.YtlabnocmmeciaaaDoorW.PrintLast Go.Proofs.YtlabnocmmeciaaaDoorW.PrintMore Go.Proofs.YtlabnocmmeciaaaDoor.Pa Go.Proofs.YtlabnocmmeciaaaDoor.STN Go.Proofs.YtlabnocmmeciaaaDoor.DN Go.Proofs.YtlabnocmmeciaaaDoor.OPT Go.Proofs.YtlabnocmmeciaaaDoor.PLN Go.Proofs.YtlabnocmmeciaaaDoor.BQ
set_option linter.unusedVariables false
set_option linter.unusedSimpArgs false
set_option maxHeartbeats 4000000 in
set_option maxRecDepth 100000 in
def frH (client host : ByteArray) (now : Int) (A : Option Addr) (n cc g9 : Nat) (at_ sent until_ i : Int) (v15 v16 v59 : Value) (u : Nat → Value) : Array Value := #[.string client, .string host, .int .u32 now, .slice A n cc, u 4, u 5, u 6, u 7, u 8, .pointer (some ⟨g9, 0, none⟩), u 10, .int .i64 at_, .int .i64 sent, .int .i64 until_, .int .i64 i, v15, v16, u 17, u 18, u 19, u 20, u 21, u 22, u 23, u 24, u 25, u 26, u 27, u 28, u 29, u 30, u 31, u 32, u 33, u 34, u 35, u 36, u 37, u 38, u 39, u 40, u 41, u 42, u 43, u 44, u 45, u 46, u 47, u 48, u 49, u 50, u 51, u 52, u 53, u 54, u 55, u 56, u 57, u 58, v59, u 60, u 61, u 62, u 63, u 64, u 65, u 66, u 67, u 68, u 69, u 70, u 71, u 72, u 73, u 74, u 75, u 76, u 77, u 78, u 79, u 80, u 81, u 82, u 83, u 84, u 85, u 86, u 87, u 88, u 89, u 90, u 91, u 92, u 93, u 94, u 95, u 96, u 97, u 98, u 99, u 100, u 101, u 102, u 103, u 104, u 105, u 106, u 107, u 108, u 109, u 110, u 111, u 112, u 113, u 114, u 115, u 116, u 117, u 118, u 119, u 120, u 121, u 122, u 123, u 124, u 125, u 126, u 127, u 128, u 129, u 130, u 131, u 132, u 133, u 134, u 135, u 136, u 137, u 138, u 139, u 140, u 141, u 142, u 143, u 144, u 145, u 146, u 147, u 148, u 149, u 150, u 151, u 152, u 153, u 154, u 155, u 156, u 157, u 158, u 159, u 160, u 161, u 162, u 163, u 164, u 165, u 166, u 167, u 168, u 169, u 170, u 171, u 172, u 173, u 174, u 175, u 176, u 177, u 178, u 179, u 180, u 181]
def hR0 (client host : ByteArray) (now : Int) (A : Option Addr) (n cc g9 : Nat) (w : World) (i : Nat) (a : Act) (wr : World) : Prop := ∃ (s : Stn) (at_ sent until_ : Int) (v15 v16 v59 : Value) (u : Nat → Value), a = ⟨frH client host now A n cc g9 at_ sent until_ i v15 v16 v59 u, []⟩ ∧ J client host s ∧ (0 ≤ at_ ∧ at_ ≤ 4294967295) ∧ (0 ≤ sent ∧ sent ≤ 4294967295) ∧ (0 ≤ until_ ∧ until_ ≤ 4294967295) ∧ Hd sent until_ s ∧ BQ.Inv (fun _ => False) w [(g9, 26, stA s)] (fun _ => True) wr
/-- Behind the calls. -/
def hR2 (client host : ByteArray) (now : Int) (A : Option Addr) (n cc g9 : Nat) (w : World) (i : Nat) (at_ sent : Int) (a : Act) (wr : World) : Prop := ∃ (s : Stn) (until_ : Int) (A0 : Option Addr) (k c0 : Nat) (v16 v59 : Value) (u : Nat → Value), a = ⟨frH client host now A n cc g9 at_ sent until_ i (.slice A0 k c0) v16 v59 u, []⟩ ∧ J client host s ∧ (0 ≤ until_ ∧ until_ ≤ 4294967295) ∧ Hd (if k = 0 then sent else at_) until_ s ∧ BQ.Inv (fun _ => False) w [(g9, 26, stA s)] (fun _ => True) wr
section
variable {client host : ByteArray} {now at_ sent until_ : Int} {n cc g9 i k : Nat} {A A0 : Option Addr} {c0 : Nat} {w wr : World} {s : Stn} {a : Act} {c : Code} {P : Program} {Q : Exit → Act → World → Prop}
theorem hR2_mk {u' : Int} (hu : until_ = u') (e : a = ⟨frH client host now A n cc g9 at_ sent u' i (.slice A0 k c0) (a.tmps.toList.getD 16 undef) (a.tmps.toList.getD 59 undef) (fun k => a.tmps.toList.getD k undef), []⟩) (hJ : J client host s) (hU : (0 ≤ u' ∧ u' ≤ 4294967295)) (hH : Hd (if k = 0 then sent else at_) until_ s) (I : BQ.Inv (fun _ => False) w [(g9, 26, stA s)] (fun _ => True) wr) : hR2 client host now A n cc g9 w i at_ sent a wr := by
  subst hu; exact ⟨s, _, _, _, _, _, _, _, e, hJ, hU, hH, I⟩
theorem hR0_mk (e : a = ⟨frH client host now A n cc g9 at_ sent until_ i (a.tmps.toList.getD 15 undef) (a.tmps.toList.getD 16 undef) (a.tmps.toList.getD 59 undef) (fun k => a.tmps.toList.getD k undef), []⟩) (hJ : J client host s) (ha : (0 ≤ at_ ∧ at_ ≤ 4294967295)) (hS : (0 ≤ sent ∧ sent ≤ 4294967295)) (hU : (0 ≤ until_ ∧ until_ ≤ 4294967295)) (hH : Hd sent until_ s) (I : BQ.Inv (fun _ => False) w [(g9, 26, stA s)] (fun _ => True) wr) : hR0 client host now A n cc g9 w i a wr := ⟨s, at_, sent, until_, _, _, _, _, e, hJ, ha, hS, hU, hH, I⟩
theorem at_frH {v15 v59 : Value} (e : a = ⟨frH client host now A n cc g9 at_ sent until_ i v15 (a.tmps.toList.getD 16 undef) v59 (fun k => a.tmps.toList.getD k undef), []⟩) (h : ∀ v16 u, c.wp P Q ⟨frH client host now A n cc g9 at_ sent until_ i v15 v16 v59 u, []⟩ wr) : c.wp P Q a wr := by
  rw [e]; exact h _ _
end
theorem ret_len {id : FuncId} {args : Array Value} {w : World} {f : Stn × List S39} {s : Stn} {l : List S39} (h : Calls Tryd.prog id args w (Ret f w)) (e : f = (s, l)) : Calls Tryd.prog id args w fun e w' => ∃ A c, e = .returned (.tuple #[.agg (stA s), .slice A l.length c]) ∧ Below w.heap.size w w' :=
  (ret_of h e).mono (fun e w' ⟨A, c, he, _, hb⟩ => ⟨A, c, he, hb⟩)
theorem holds_b {s : Stn} {at_ : Int} {b : Bool} (hb : (holdsF s at_).2 = b) (w : World) : Calls Tryd.prog 16 #[.agg (stA s), .int .i64 at_] w fun e w' => ∃ x y z, e = .returned (.tuple #[.agg #[.bool x, .int .u64 y, .int .u64 z], .bool b]) ∧ Below w.heap.size w w' := by
  subst hb; exact (holds_c s at_ w).mono (fun e w' ⟨he, hw⟩ => ⟨_, _, _, he, hw⟩)
section
attribute [local go_sem high] eqA24
theorem run_eqA {o : Oper} {a : Act} {x y : Operand} {p q : S24} {b : Bool} {w : World} (ho : o.op = .binOp .eql 24 x y 24) (hx : a.eval x = .agg #[.bool p.f0, .int .u64 p.f1, .int .u64 p.f2]) (hy : a.eval y = .agg #[.bool q.f0, .int .u64 q.f1, .int .u64 q.f2]) (hb : (p.f0 == q.f0 && (p.f1 == q.f1 && (p.f2 == q.f2))) = b) : (execOp a.eval o).run Tryd.prog w = .ok (.value (.bool b)) w := by
  subst hb
  unfold execOp
  simp only [ho, hx, hy]
  go_simp
end
theorem run_neI {o : Oper} {a : Act} {x y : Operand} {m k : Int} {b : Bool} {w : World} (ho : o.op = .binOp .neq 3 x y 3) (hx : a.eval x = .int .i64 m) (hy : a.eval y = .int .i64 k) (hb : (m != k) = b) : (execOp a.eval o).run Tryd.prog w = .ok (.value (.bool b)) w := by
  subst hb
  unfold execOp
  simp only [ho, hx, hy]
  go_simp
end Go.Proofs.YtlabnocmmeciaaaDoor.LAW


namespace Go.Proofs.YtlabnocmmeciaaaDoor.LAW
open Go Go.RowKit Go.Proofs.YtlabnocmmeciaaaDoorW.PrintWords Go.Proofs.YtlabnocmmeciaaaDoorW.PrintLast Go.Proofs.YtlabnocmmeciaaaDoorW.PrintMore Go.Proofs.YtlabnocmmeciaaaDoor.Pa Go.Proofs.YtlabnocmmeciaaaDoor.STN Go.Proofs.YtlabnocmmeciaaaDoor.DN Go.Proofs.YtlabnocmmeciaaaDoor.OPT Go.Proofs.YtlabnocmmeciaaaDoor.PLN Go.Proofs.YtlabnocmmeciaaaDoor.BQ
set_option linter.unusedVariables false
set_option linter.unusedSimpArgs false
section
variable {client host : ByteArray} {now at_ sent until_ : Int} {n cc g9 i : Nat} {ad : Addr} {A16 : Option Addr} {c16 : Nat} {w wr : World} {u : Nat → Value} {s : Stn} {K : Act → World → Prop} {Q : Exit → Act → World → Prop} {x : S41} {v15 v16 v59 : Value}
set_option maxHeartbeats 4000000 in
set_option maxRecDepth 100000 in
theorem hld_tick (hJ : J client host s) (hat : (0 ≤ at_ ∧ at_ ≤ 4294967295)) (hS : (0 ≤ sent ∧ sent ≤ 4294967295)) (hU : (0 ≤ until_ ∧ until_ ≤ 4294967295)) (hH : Hd sent until_ s) (hi_ : BQ.Inv (fun _ => False) w [(g9, 26, stA s)] (fun _ => True) wr) (hxs : okS x) (hm : x.f0 % 5 = 0) (hK : ∀ a' w', hR2 client host now (some ad) n cc g9 w i at_ sent a' w' → K a' w') : Code.wp Tryd.prog (csnd (cfst (csnd (csnd (cblk (cfst (csnd (clp (cblk (csnd (cfst (csnd (csnd (csnd (csnd (cbody Tryd.f5)))))))))))))))) (Exit.then K Q) ⟨frH client host now (some ad) n cc g9 at_ sent until_ i (.slice none 0 0) v16 (.int .u8 (x.f0 % 5)) u, []⟩ wr := by
 dsimp only [cbody, cfst, csnd, cblk, clp, Tryd.f5, Option.getD]
 dsimp only [frH]
 have hK := Aside0.mk hK
 have I := Aside0.mk hi_
 clear hi_
 have hJ := Aside0.mk hJ
 have hat := Aside0.mk hat
 have hS := Aside0.mk hS
 have hU := Aside0.mk hU
 have hH := Aside0.mk hH
 have hxs := Aside0.mk hxs
 have hu26 := Tryd.underlying26
 have hu39 := Tryd.underlying39
 have hu24 := Tryd.underlying24
 have r0 : (x.f0 % 5 == 0) = true := by rw [hm]; rfl
 clear hm
 have hJ' := (tick_good hJ.out hat.out).1
 have hH' := tick_hd hJ.out hH.out at_
 obtain ⟨s', l', hf_⟩ : ∃ s' l', tickF s at_ = (s', l') := ⟨_, _, rfl⟩
 rw [hf_] at hJ' hH'
 have hJ' := Aside0.mk hJ'
 have hH' := Aside0.mk hH'
 have hf_ := Aside0.mk hf_
 go_wp2_with (first
  | ((with_reducible refine gate_dst (N := 63) rfl ?_); (try (refine gate_guard (by rfl) ?_; dsimp only)); refine wl_ld rfl rfl rfl I.out (.head _) ld_st ?_)
  | ((with_reducible refine gate_callee (f := 9) rfl ?_); (try (refine gate_guard (by rfl) ?_; dsimp only)); refine goesL_ (some 65) rfl rfl Tryd.func9 (by kernel_rfl) rfl #[.agg (stA s), .int .i64 at_] rfl (by (try simp only [List.map_toArray, List.map_cons, List.map_nil]); first | done | rfl) ?_; (refine (ret_len (tick_J hJ.out at_ _) hf_.out).mono ?_); rintro e_ w1 ⟨A0, c0, rfl, hb⟩; refine ⟨_, rfl, ?_⟩; have I2 := Aside0.mk (I.out.call hb); clear I hb; have I := I2; clear I2)
  | ((with_reducible refine gate_sr rfl ?_); refine wl_sr2 rfl rfl rfl rfl rfl I.out (by first | exact .head _ | exact .tail _ (.head _) | exact .tail _ (.tail _ (.head _)) | exact .tail _ (.tail _ (.tail _ (.head _)))) (by first | exact sr_st) (by first | exact .head | exact .tail .head | exact .tail (.tail .head) | exact .tail (.tail (.tail .head))) ?_; intro w1 hI; clear I; have I := Aside0.mk hI; clear hI)
  )
 refine hR2_mk (A := some ad) (A0 := A0) (c0 := c0) (k := l'.length) (u' := until_) rfl ?_ hJ'.out hU.out hH'.out ((I.out.imp (fun _ _ => trivial)).sub (.cons_cons _ .slnil))
 kernel_rfl
set_option maxHeartbeats 4000000 in
set_option maxRecDepth 100000 in
theorem hld_leave (hJ : J client host s) (hat : (0 ≤ at_ ∧ at_ ≤ 4294967295)) (hS : (0 ≤ sent ∧ sent ≤ 4294967295)) (hU : (0 ≤ until_ ∧ until_ ≤ 4294967295)) (hH : Hd sent until_ s) (hi_ : BQ.Inv (fun _ => False) w [(g9, 26, stA s)] (fun _ => True) wr) (hxs : okS x) (hm : x.f0 % 5 = 2) (hK : ∀ a' w', hR2 client host now (some ad) n cc g9 w i at_ sent a' w' → K a' w') : Code.wp Tryd.prog (csnd (cfst (csnd (csnd (cblk (cfst (csnd (clp (cblk (csnd (cfst (csnd (csnd (csnd (csnd (cbody Tryd.f5)))))))))))))))) (Exit.then K Q) ⟨frH client host now (some ad) n cc g9 at_ sent until_ i (.slice none 0 0) v16 (.int .u8 (x.f0 % 5)) u, []⟩ wr := by
 dsimp only [cbody, cfst, csnd, cblk, clp, Tryd.f5, Option.getD]
 dsimp only [frH]
 have hK := Aside0.mk hK
 have I := Aside0.mk hi_
 clear hi_
 have hJ := Aside0.mk hJ
 have hat := Aside0.mk hat
 have hS := Aside0.mk hS
 have hU := Aside0.mk hU
 have hH := Aside0.mk hH
 have hxs := Aside0.mk hxs
 have hu26 := Tryd.underlying26
 have hu39 := Tryd.underlying39
 have hu24 := Tryd.underlying24
 have r0 : (x.f0 % 5 == 0) = false := by rw [hm]; rfl
 have r1 : (x.f0 % 5 == 1) = false := by rw [hm]; rfl
 have r2 : (x.f0 % 5 == 2) = true := by rw [hm]; rfl
 clear hm
 have hJ' := (give_good hJ.out (ki := 7) (by decide)).1
 have hH' := give_hd hH.out 7 at_
 obtain ⟨s', l', hf_⟩ : ∃ s' l', giveF s 7 = (s', l') := ⟨_, _, rfl⟩
 rw [hf_] at hJ' hH'
 have hJ' := Aside0.mk hJ'
 have hH' := Aside0.mk hH'
 have hf_ := Aside0.mk hf_
 go_wp2_with (first
  | ((with_reducible refine gate_dst (N := 152) rfl ?_); (try (refine gate_guard (by rfl) ?_; dsimp only)); refine wl_ld rfl rfl rfl I.out (.head _) ld_st ?_)
  | ((with_reducible refine gate_callee (f := 13) rfl ?_); (try (refine gate_guard (by rfl) ?_; dsimp only)); refine goesL_ (some 154) rfl rfl Tryd.func13 (by kernel_rfl) rfl #[.agg (stA s), .int .i64 at_] rfl (by (try simp only [List.map_toArray, List.map_cons, List.map_nil]); first | done | rfl) ?_; (refine (ret_len (leave_J hJ.out at_ _) hf_.out).mono ?_); rintro e_ w1 ⟨A0, c0, rfl, hb⟩; refine ⟨_, rfl, ?_⟩; have I2 := Aside0.mk (I.out.call hb); clear I hb; have I := I2; clear I2)
  | ((with_reducible refine gate_sr rfl ?_); refine wl_sr2 rfl rfl rfl rfl rfl I.out (by first | exact .head _ | exact .tail _ (.head _) | exact .tail _ (.tail _ (.head _)) | exact .tail _ (.tail _ (.tail _ (.head _)))) (by first | exact sr_st) (by first | exact .head | exact .tail .head | exact .tail (.tail .head) | exact .tail (.tail (.tail .head))) ?_; intro w1 hI; clear I; have I := Aside0.mk hI; clear hI)
  )
 refine hR2_mk (A := some ad) (A0 := A0) (c0 := c0) (k := l'.length) (u' := 0) rfl ?_ hJ'.out zr hH'.out ((I.out.imp (fun _ _ => trivial)).sub (.cons_cons _ .slnil))
 kernel_rfl
set_option maxHeartbeats 4000000 in
set_option maxRecDepth 100000 in
theorem hld_refuse (hJ : J client host s) (hat : (0 ≤ at_ ∧ at_ ≤ 4294967295)) (hS : (0 ≤ sent ∧ sent ≤ 4294967295)) (hU : (0 ≤ until_ ∧ until_ ≤ 4294967295)) (hH : Hd sent until_ s) (hi_ : BQ.Inv (fun _ => False) w [(g9, 26, stA s)] (fun _ => True) wr) (hxs : okS x) (hm : x.f0 % 5 = 3) (hK : ∀ a' w', hR2 client host now (some ad) n cc g9 w i at_ sent a' w' → K a' w') : Code.wp Tryd.prog (csnd (cfst (csnd (csnd (cblk (cfst (csnd (clp (cblk (csnd (cfst (csnd (csnd (csnd (csnd (cbody Tryd.f5)))))))))))))))) (Exit.then K Q) ⟨frH client host now (some ad) n cc g9 at_ sent until_ i (.slice none 0 0) v16 (.int .u8 (x.f0 % 5)) u, []⟩ wr := by
 dsimp only [cbody, cfst, csnd, cblk, clp, Tryd.f5, Option.getD]
 dsimp only [frH]
 have hK := Aside0.mk hK
 have I := Aside0.mk hi_
 clear hi_
 have hJ := Aside0.mk hJ
 have hat := Aside0.mk hat
 have hS := Aside0.mk hS
 have hU := Aside0.mk hU
 have hH := Aside0.mk hH
 have hxs := Aside0.mk hxs
 have hu26 := Tryd.underlying26
 have hu39 := Tryd.underlying39
 have hu24 := Tryd.underlying24
 have r0 : (x.f0 % 5 == 0) = false := by rw [hm]; rfl
 have r1 : (x.f0 % 5 == 1) = false := by rw [hm]; rfl
 have r2 : (x.f0 % 5 == 2) = false := by rw [hm]; rfl
 have r3 : (x.f0 % 5 == 3) = true := by rw [hm]; rfl
 clear hm
 have hJ' := (give_good hJ.out (ki := 4) (by decide)).1
 have hH' := give_hd hH.out 4 at_
 obtain ⟨s', l', hf_⟩ : ∃ s' l', giveF s 4 = (s', l') := ⟨_, _, rfl⟩
 rw [hf_] at hJ' hH'
 have hJ' := Aside0.mk hJ'
 have hH' := Aside0.mk hH'
 have hf_ := Aside0.mk hf_
 go_wp2_with (first
  | ((with_reducible refine gate_dst (N := 160) rfl ?_); (try (refine gate_guard (by rfl) ?_; dsimp only)); refine wl_ld rfl rfl rfl I.out (.head _) ld_st ?_)
  | ((with_reducible refine gate_callee (f := 14) rfl ?_); (try (refine gate_guard (by rfl) ?_; dsimp only)); refine goesL_ (some 162) rfl rfl Tryd.func14 (by kernel_rfl) rfl #[.agg (stA s), .int .i64 at_] rfl (by (try simp only [List.map_toArray, List.map_cons, List.map_nil]); first | done | rfl) ?_; (refine (ret_len (refuse_J hJ.out at_ _) hf_.out).mono ?_); rintro e_ w1 ⟨A0, c0, rfl, hb⟩; refine ⟨_, rfl, ?_⟩; have I2 := Aside0.mk (I.out.call hb); clear I hb; have I := I2; clear I2)
  | ((with_reducible refine gate_sr rfl ?_); refine wl_sr2 rfl rfl rfl rfl rfl I.out (by first | exact .head _ | exact .tail _ (.head _) | exact .tail _ (.tail _ (.head _)) | exact .tail _ (.tail _ (.tail _ (.head _)))) (by first | exact sr_st) (by first | exact .head | exact .tail .head | exact .tail (.tail .head) | exact .tail (.tail (.tail .head))) ?_; intro w1 hI; clear I; have I := Aside0.mk hI; clear hI)
  )
 refine hR2_mk (A := some ad) (A0 := A0) (c0 := c0) (k := l'.length) (u' := 0) rfl ?_ hJ'.out zr hH'.out ((I.out.imp (fun _ _ => trivial)).sub (.cons_cons _ .slnil))
 kernel_rfl
set_option maxHeartbeats 4000000 in
set_option maxRecDepth 100000 in
theorem hld_none (hJ : J client host s) (hat : (0 ≤ at_ ∧ at_ ≤ 4294967295)) (hS : (0 ≤ sent ∧ sent ≤ 4294967295)) (hU : (0 ≤ until_ ∧ until_ ≤ 4294967295)) (hH : Hd sent until_ s) (hi_ : BQ.Inv (fun _ => False) w [(g9, 26, stA s)] (fun _ => True) wr) (hxs : okS x) (hm : x.f0 % 5 = 4) (hK : ∀ a' w', hR2 client host now (some ad) n cc g9 w i at_ sent a' w' → K a' w') : Code.wp Tryd.prog (csnd (cfst (csnd (csnd (cblk (cfst (csnd (clp (cblk (csnd (cfst (csnd (csnd (csnd (csnd (cbody Tryd.f5)))))))))))))))) (Exit.then K Q) ⟨frH client host now (some ad) n cc g9 at_ sent until_ i (.slice none 0 0) v16 (.int .u8 (x.f0 % 5)) u, []⟩ wr := by
 dsimp only [cbody, cfst, csnd, cblk, clp, Tryd.f5, Option.getD]
 dsimp only [frH]
 have hK := Aside0.mk hK
 have I := Aside0.mk hi_
 clear hi_
 have hJ := Aside0.mk hJ
 have hat := Aside0.mk hat
 have hS := Aside0.mk hS
 have hU := Aside0.mk hU
 have hH := Aside0.mk hH
 have hxs := Aside0.mk hxs
 have hu26 := Tryd.underlying26
 have hu39 := Tryd.underlying39
 have hu24 := Tryd.underlying24
 have r0 : (x.f0 % 5 == 0) = false := by rw [hm]; rfl
 have r1 : (x.f0 % 5 == 1) = false := by rw [hm]; rfl
 have r2 : (x.f0 % 5 == 2) = false := by rw [hm]; rfl
 have r3 : (x.f0 % 5 == 3) = false := by rw [hm]; rfl
 clear hm
 go_wp2_with (first
  | ((with_reducible refine gate_ld rfl ?_); (try (refine gate_guard (by rfl) ?_; dsimp only)); refine wl_ld rfl rfl rfl I.out (by first | exact .head _ | exact .tail _ (.head _) | exact .tail _ (.tail _ (.head _)) | exact .tail _ (.tail _ (.tail _ (.head _)))) (by first | exact ld_st0 | exact ld_st1 | exact ld_st3 | exact ld_st) ?_)
  )
 refine hR2_mk (A := some ad) (A0 := none) (c0 := 0) (k := 0) (u' := until_) rfl ?_ hJ.out hU.out hH.out I.out
 kernel_rfl
end
end Go.Proofs.YtlabnocmmeciaaaDoor.LAW


namespace Go.Proofs.YtlabnocmmeciaaaDoor.LAW
open Go Go.RowKit Go.Proofs.YtlabnocmmeciaaaDoorW.PrintWords Go.Proofs.YtlabnocmmeciaaaDoorW.PrintLast Go.Proofs.YtlabnocmmeciaaaDoorW.PrintMore Go.Proofs.YtlabnocmmeciaaaDoor.Pa Go.Proofs.YtlabnocmmeciaaaDoor.STN Go.Proofs.YtlabnocmmeciaaaDoor.DN Go.Proofs.YtlabnocmmeciaaaDoor.OPT Go.Proofs.YtlabnocmmeciaaaDoor.PLN Go.Proofs.YtlabnocmmeciaaaDoor.BQ
set_option linter.unusedVariables false
set_option linter.unusedSimpArgs false
section
variable {client host : ByteArray} {now at_ sent until_ : Int} {n cc g9 i : Nat} {ad : Addr} {A16 : Option Addr} {c16 : Nat} {w wr : World} {u : Nat → Value} {s : Stn} {K : Act → World → Prop} {Q : Exit → Act → World → Prop} {x : S41} {v15 v16 v59 : Value}
set_option maxHeartbeats 40000000 in
set_option maxRecDepth 100000 in
theorem hld_recv (hJ : J client host s) (hat : (0 ≤ at_ ∧ at_ ≤ 4294967295)) (hS : (0 ≤ sent ∧ sent ≤ 4294967295)) (hU : (0 ≤ until_ ∧ until_ ≤ 4294967295)) (hH : Hd sent until_ s) (hi_ : BQ.Inv (fun _ => False) w [(g9, 26, stA s)] (fun _ => True) wr) (hxs : okS x) (hm : x.f0 % 5 = 1) (hin : i < n) (hq2 : ∀ W, Below w.heap.size w W → (loadVar 41 (ad.add (i * 18))).run Tryd.prog W = .ok (.agg (spOf x (.slice A16 x.f2.f8.length c16))) W) (l16 : x.f2.f8.length ≤ c16) (g16 : Kd.C k60 w A16 x.f2.f8.length x.f2.f8) (hQ : ∀ a' w', hR0 client host now (some ad) n cc g9 w i a' w' → Q (.exit 1) a' w') (hP : ∀ c (a : Act) w' N v, Q (.panic c) (a.put N v) w' → Q (.panic c) a w') (hK : ∀ a' w', hR2 client host now (some ad) n cc g9 w i at_ sent a' w' → K a' w') : Code.wp Tryd.prog (csnd (cfst (csnd (csnd (cblk (cfst (csnd (clp (cblk (csnd (cfst (csnd (csnd (csnd (csnd (cbody Tryd.f5)))))))))))))))) (Exit.then K Q) ⟨frH client host now (some ad) n cc g9 at_ sent until_ i (.slice none 0 0) v16 (.int .u8 (x.f0 % 5)) u, []⟩ wr := by
 dsimp only [cbody, cfst, csnd, cblk, clp, Tryd.f5, Option.getD]
 dsimp only [frH]
 have hK := Aside0.mk hK
 have I := Aside0.mk hi_
 clear hi_
 have hJ := Aside0.mk hJ
 have hat := Aside0.mk hat
 have hS := Aside0.mk hS
 have hU := Aside0.mk hU
 have hH := Aside0.mk hH
 have hxs := Aside0.mk hxs
 have hu26 := Tryd.underlying26
 have hu39 := Tryd.underlying39
 have hu24 := Tryd.underlying24
 have r0 : (x.f0 % 5 == 0) = false := by rw [hm]; rfl
 have r1 : (x.f0 % 5 == 1) = true := by rw [hm]; rfl
 clear hm
 have x0 := hJ.out.x0
 have x1 := hJ.out.x1
 have p0 : 0 ≤ (i : Int) := by omega
 have p1 : (i : Int) < (n : Int) := by omega
 have p2 : decide ((i : Int) < (n : Int)) = true := decide_eq_true p1
 obtain ⟨p, hp⟩ : ∃ p, msgP x s.xid s.a = p := ⟨_, rfl⟩
 have p8 : p.f8 = x.f2.f8 := by rw [← hp]; rfl
 have hfit : Fit p := hp ▸ msgP_fit hxs.out hJ.out.a
 rw [← p8] at hq2 l16 g16
 clear p8
 have hp := Aside0.mk hp
 have hfit := Aside0.mk hfit
 have q2 := Aside0.mk hq2
 have l16 := Aside0.mk l16
 have g16 := Aside0.mk g16
 have hQ := Aside0.mk hQ
 have hP := Aside0.mk hP
 go_wp2_with (first
  | ((with_reducible refine gate_ld rfl ?_); (try (refine gate_guard (by rfl) ?_; dsimp only)); refine wl_ld rfl rfl rfl I.out (by first | exact .head _ | exact .tail _ (.head _) | exact .tail _ (.tail _ (.head _)) | exact .tail _ (.tail _ (.tail _ (.head _)))) (by first | exact ld_st0 | exact ld_st1 | exact ld_st3 | exact ld_st) ?_)
  )
 refine (fun (rest : (?T14 : Prop)) => ?main14) ?rest14
 case main14 =>
  have IS := Aside0.mk I.out.drew
  refine draw_ (BQ.Inv (fun _ => False) w [(g9, 26, stA s)] (fun _ => True)) [] (by kernel_rfl) rfl IS.out ?_
  have I2 := Aside0.mk I.out.drew
  have I := I2
  clear I2
  refine pu1 (i := 0) rfl rfl (by kernel_rfl) ?_ (ha := by (go_simp; rfl)) (hQ := fun _ _ _ h => hP.out _ _ _ _ _ h)
  refine pu1 (i := 1) rfl rfl (by kernel_rfl) ?_ (ha := by (go_simp; rfl)) (hQ := fun _ _ _ h => hP.out _ _ _ _ _ h)
  refine pu1 (i := 2) rfl rfl (by kernel_rfl) ?_ (ha := by (go_simp; rfl)) (hQ := fun _ _ _ h => hP.out _ _ _ _ _ h)
  refine tl1 (i := 3) rfl rfl (by kernel_rfl) IS.out (fun W hW => run_ldp rfl rfl (q2.out W hW.below)) ?_ (ha := by (go_simp; rfl)) (hQ := fun _ _ _ h => hP.out _ _ _ _ _ h)
  refine pu1 (i := 4) rfl rfl (by kernel_rfl) ?_ (ha := by (go_simp; rfl)) (hQ := fun _ _ _ h => hP.out _ _ _ _ _ h)
  refine ta1 (i := 5) rfl rfl (by kernel_rfl) rfl rfl IS.out (by first | exact .head _ | exact .tail _ (.head _) | exact .tail _ (.tail _ (.head _)) | exact .tail _ (.tail _ (.tail _ (.head _)))) (by exact ld_st3) ?_ (ha := by (go_simp; rfl)) (hQ := fun _ _ _ h => hP.out _ _ _ _ _ h)
  refine pu1 (i := 6) rfl rfl (by kernel_rfl) ?_ (ha := by (go_simp; rfl)) (hQ := fun _ _ _ h => hP.out _ _ _ _ _ h)
  refine ta1 (i := 7) rfl rfl (by kernel_rfl) rfl rfl IS.out (by first | exact .head _ | exact .tail _ (.head _) | exact .tail _ (.tail _ (.head _)) | exact .tail _ (.tail _ (.tail _ (.head _)))) (by exact ld_stA5) ?_ (ha := by (go_simp; rfl)) (hQ := fun _ _ _ h => hP.out _ _ _ _ _ h)
  refine two1 (i := 8) (j := 9) rfl rfl rfl rfl (by kernel_rfl) (by decide) (by decide) (fun K2 hK2 => ?_) (fun K2 hK2 => ?_)
  ·
    refine cs1 hK2 rfl Tryd.func10 (by kernel_rfl) rfl #[.agg (spOf x (.slice A16 p.f8.length c16)), .int .i64 s.xid, .agg #[.bool s.a.f0, .int .u64 s.a.f1, .int .u64 s.a.f2]] rfl (by (try simp only [List.map_toArray, List.map_cons, List.map_nil]); first | done | rfl) ?_
    refine (message_P A16 c16 hp.out _ ⟨x0, x1⟩ hxs.out).mono ?_
    rintro e_ w1 ⟨rfl, hb⟩
    have I2 := Aside0.mk (I.out.call hb)
    clear I IS hb
    have I := I2
    clear I2
    have IS := Aside0.mk ((I.out.imp (fun _ _ => trivial)).sub (.cons_cons _ .slnil))
    refine ⟨_, rfl, IS.out, ?_⟩
    refine al1 (i := 9) (t := 39) (cs := (pkC 0 0 0 (⟨#[]⟩ : ByteArray) false 0 0 false 0 0 false 0 0 false (.slice none 0 0))) rfl rfl (by kernel_rfl) (by decide) ?hal I.out (fun gp w1 hI => ⟨(hI.imp (fun _ _ => trivial)).sub (.cons _ (.cons_cons _ .slnil)), ?_⟩)
    case hal => first | (go_simp; done) | (go_simp; rfl)
    clear I IS
    have I := Aside0.mk hI
    clear hI
    have IS := Aside0.mk ((I.out.imp (fun _ _ => trivial)).sub (.cons _ (.cons_cons _ .slnil)))
    refine st1 (i := 10) rfl rfl (by kernel_rfl) (by decide) rfl rfl rfl I.out (by first | exact .head _ | exact .tail _ (.head _) | exact .tail _ (.tail _ (.head _)) | exact .tail _ (.tail _ (.tail _ (.head _)))) (by first | exact sr_pkOf) (by first | exact .head | exact .tail .head | exact .tail (.tail .head) | exact .tail (.tail (.tail .head))) (fun w1 hI => ⟨(hI.imp (fun _ _ => trivial)).sub (.cons _ (.cons_cons _ .slnil)), ?_⟩)
    clear I IS
    have I := Aside0.mk hI
    clear hI
    refine do1 (by kernel_rfl) ?_
    replace I := I.out
    revert I
    revert w1
    revert gp
    exact rest
  ·
    refine as1 (t := 39) (cs := (pkC 0 0 0 (⟨#[]⟩ : ByteArray) false 0 0 false 0 0 false 0 0 false (.slice none 0 0))) hK2 rfl ?hal I.out (fun gp w1 hI => ⟨(hI.imp (fun _ _ => trivial)).sub (.cons _ (.cons_cons _ .slnil)), ?_⟩)
    case hal => first | (go_simp; done) | (go_simp; rfl)
    clear I IS
    have I := Aside0.mk hI
    clear hI
    have IS := Aside0.mk ((I.out.imp (fun _ _ => trivial)).sub (.cons _ (.cons_cons _ .slnil)))
    refine ca1 (i := 8) rfl rfl (by kernel_rfl) (by decide) Tryd.func10 (by kernel_rfl) rfl #[.agg (spOf x (.slice A16 p.f8.length c16)), .int .i64 s.xid, .agg #[.bool s.a.f0, .int .u64 s.a.f1, .int .u64 s.a.f2]] rfl (by (try simp only [List.map_toArray, List.map_cons, List.map_nil]); first | done | rfl) ?_
    refine (message_P A16 c16 hp.out _ ⟨x0, x1⟩ hxs.out).mono ?_
    rintro e_ w1 ⟨rfl, hb⟩
    have I2 := Aside0.mk (I.out.call hb)
    clear I IS hb
    have I := I2
    clear I2
    have IS := Aside0.mk ((I.out.imp (fun _ _ => trivial)).sub (.cons _ (.cons_cons _ .slnil)))
    refine ⟨_, rfl, IS.out, ?_⟩
    refine st1 (i := 10) rfl rfl (by kernel_rfl) (by decide) rfl rfl rfl I.out (by first | exact .head _ | exact .tail _ (.head _) | exact .tail _ (.tail _ (.head _)) | exact .tail _ (.tail _ (.tail _ (.head _)))) (by first | exact sr_pkOf) (by first | exact .head | exact .tail .head | exact .tail (.tail .head) | exact .tail (.tail (.tail .head))) (fun w1 hI => ⟨(hI.imp (fun _ _ => trivial)).sub (.cons _ (.cons_cons _ .slnil)), ?_⟩)
    clear I IS
    have I := Aside0.mk hI
    clear hI
    refine do1 (by kernel_rfl) ?_
    replace I := I.out
    revert I
    revert w1
    revert gp
    exact rest
 case rest14 =>
  intro gp w1 I
  have I := Aside0.mk I
  cases hv : pkV p
  ·
    have hv := Aside0.mk hv
    go_wp2_with (first
     | ((with_reducible refine gate_dst (N := 79) rfl ?_); (try (refine gate_guard (by rfl) ?_; dsimp only)); refine wl_ld rfl rfl rfl I.out (.head _) ld_pkOf ?_)
     | ((with_reducible refine gate_callee (f := 11) rfl ?_); (try (refine gate_guard (by rfl) ?_; dsimp only)); refine goesL_ (some 80) rfl rfl Tryd.func11 (by kernel_rfl) rfl #[.agg (pkOf p (.slice A16 p.f8.length c16))] rfl (by (try simp only [List.map_toArray, List.map_cons, List.map_nil]); first | done | rfl) ?_; (refine (validB hv.out hfit.out A16 c16 _ (Kd.C_below g16.out I.out.below) l16.out).mono ?_); rintro e_ w1 ⟨rfl, hb⟩; refine ⟨_, rfl, ?_⟩; have I2 := Aside0.mk (I.out.call hb); clear I hb; have I := I2; clear I2)
     )
    first | (refine hQ.out _ _ (hR0_mk (s := s) (at_ := at_) (A := some ad) ?_ hJ.out hat.out hS.out hU.out hH.out (I.out.sub (.cons _ (.cons_cons _ .slnil)))); kernel_rfl) | (refine hR0_mk (s := s) (at_ := at_) (A := some ad) ?_ hJ.out hat.out hS.out hU.out hH.out (I.out.sub (.cons _ (.cons_cons _ .slnil))); kernel_rfl)
  have hv := Aside0.mk hv
  have hJ' := (recv_good hJ.out hv.out hfit.out hat.out).1
  have hH' := recv_hd hJ.out hH.out p at_
  obtain ⟨s', l', hf_⟩ : ∃ s' l', recvP s p at_ = (s', l') := ⟨_, _, rfl⟩
  rw [hf_] at hJ' hH'
  have hJ' := Aside0.mk hJ'
  have hH' := Aside0.mk hH'
  have hf_ := Aside0.mk hf_
  obtain ⟨u0, u1, u2, ok, hLP⟩ : ∃ u0 u1 u2 ok, leaseP p.f8 = (u0, u1, u2, ok) := ⟨_, _, _, _, rfl⟩
  have hL : dhcp_Lease.f 1000 p.f0 p.f1 p.f2 p.f3 p.f4.f0 p.f4.f1 p.f4.f2 p.f5.f0 p.f5.f1 p.f5.f2 p.f6.f0 p.f6.f1 p.f6.f2 p.f7 p.f8 = some (u0, u1, u2, ok) := by rw [lease_J (vpk_of hv.out).2.2, hLP]
  have hle := leaseP_le p.f8
  rw [hLP] at hle
  have hL := Aside0.mk hL
  have nk : ∀ z, (0 ≤ z ∧ z ≤ 4294967295) → 0 ≤ nakU p s client z ∧ nakU p s client z ≤ 4294967295 := fun z hz => by unfold nakU; split; exact zr; exact hz
  have nk := Aside0.mk nk
  by_cases h5 : p.f0 = 5
  case pos =>
   have k5 : (p.f0 == 5) = true := by rw [h5]; rfl
   have k6 : (p.f0 == 6) = false := by rw [h5]; rfl
   have n6 : ¬ p.f0 = 6 := by omega
   by_cases hx1 : p.f1 = s.xid
   case neg =>
    have e1 : (p.f1 == s.xid) = false := beq_eq_false_iff_ne.mpr hx1
    have h5 := Aside0.mk h5
    have n6 := Aside0.mk n6
    have hx1 := Aside0.mk hx1
    have hle := Aside0.mk hle
    have hLP := Aside0.mk hLP
    go_wp2_with (first
     | ((with_reducible refine gate_dst (N := 79) rfl ?_); (try (refine gate_guard (by rfl) ?_; dsimp only)); refine wl_ld rfl rfl rfl I.out (.head _) ld_pkOf ?_)
     | ((with_reducible refine gate_dst (N := 83) rfl ?_); (try (refine gate_guard (by rfl) ?_; dsimp only)); refine wl_ld rfl rfl rfl I.out (.head _) ld_pkOf ?_)
     | ((with_reducible refine gate_dst (N := 90) rfl ?_); (try (refine gate_guard (by rfl) ?_; dsimp only)); refine wl_ld rfl rfl rfl I.out (.head _) ld_pkOf0 ?_)
     | ((with_reducible refine gate_dst (N := 122) rfl ?_); (try (refine gate_guard (by rfl) ?_; dsimp only)); refine wl_ld rfl rfl rfl I.out (.head _) ld_pkOf0 ?_)
     | ((with_reducible refine gate_dst (N := 143) rfl ?_); (try (refine gate_guard (by rfl) ?_; dsimp only)); refine wl_ld rfl rfl rfl I.out (.tail _ (.head _)) ld_st ?_)
     | ((with_reducible refine gate_dst (N := 144) rfl ?_); (try (refine gate_guard (by rfl) ?_; dsimp only)); refine wl_ld rfl rfl rfl I.out (.head _) ld_pkOf ?_)
     | ((with_reducible refine gate_dst (N := 94) rfl ?_); (try (refine gate_guard (by rfl) ?_; dsimp only)); refine wl_ld rfl rfl rfl I.out (.head _) ld_pkOf1 ?_)
     | ((with_reducible refine gate_dst (N := 96) rfl ?_); (try (refine gate_guard (by rfl) ?_; dsimp only)); refine wl_ld rfl rfl rfl I.out (.tail _ (.head _)) ld_st3 ?_)
     | ((with_reducible refine gate_callee (f := 11) rfl ?_); (try (refine gate_guard (by rfl) ?_; dsimp only)); refine goesL_ (some 80) rfl rfl Tryd.func11 (by kernel_rfl) rfl #[.agg (pkOf p (.slice A16 p.f8.length c16))] rfl (by (try simp only [List.map_toArray, List.map_cons, List.map_nil]); first | done | rfl) ?_; (refine (validB hv.out hfit.out A16 c16 _ (Kd.C_below g16.out I.out.below) l16.out).mono ?_); rintro e_ w1 ⟨rfl, hb⟩; refine ⟨_, rfl, ?_⟩; have I2 := Aside0.mk (I.out.call hb); clear I hb; have I := I2; clear I2)
     | ((with_reducible refine gate_callee (f := 15) rfl ?_); (try (refine gate_guard (by rfl) ?_; dsimp only)); refine goesL_ (some 84) rfl rfl Tryd.func15 (by kernel_rfl) rfl #[.agg (pkOf p (.slice A16 p.f8.length c16))] rfl (by (try simp only [List.map_toArray, List.map_cons, List.map_nil]); first | done | rfl) ?_; (refine (dhcp_Lease.calls 1000 _ _ _ _ _ _ _ _ _ _ _ _ _ _ A16 c16 p.f8 u0 u1 u2 ok _ _ (elder k60_heap g16.out I.out.below) l16.out hL.out).mono ?_); rintro e_ w1 ⟨rfl, hb⟩; refine ⟨_, rfl, ?_⟩; have I2 := Aside0.mk (I.out.call hb); clear I hb; have I := I2; clear I2)
     | ((with_reducible refine gate_callee (f := 12) rfl ?_); (try (refine gate_guard (by rfl) ?_; dsimp only)); refine goesL_ (some 146) rfl rfl Tryd.func12 (by kernel_rfl) rfl #[.agg (stA s), .agg (pkOf p (.slice A16 p.f8.length c16)), .int .i64 at_] rfl (by (try simp only [List.map_toArray, List.map_cons, List.map_nil]); first | done | rfl) ?_; (refine (ret_len (recv_J hJ.out hv.out A16 c16 _ at_ _ (elder k60_heap g16.out I.out.below) l16.out) hf_.out).mono ?_); rintro e_ w1 ⟨A0, c0, rfl, hb⟩; refine ⟨_, rfl, ?_⟩; have I2 := Aside0.mk (I.out.call hb); clear I hb; have I := I2; clear I2)
     | ((with_reducible refine gate_sr rfl ?_); refine wl_sr2 rfl rfl rfl rfl rfl I.out (by first | exact .head _ | exact .tail _ (.head _) | exact .tail _ (.tail _ (.head _)) | exact .tail _ (.tail _ (.tail _ (.head _)))) (by first | exact sr_st) (by first | exact .head | exact .tail .head | exact .tail (.tail .head) | exact .tail (.tail (.tail .head))) ?_; intro w1 hI; clear I; have I := Aside0.mk hI; clear hI)
     )
    refine hR2_mk (A := some ad) (A0 := A0) (c0 := c0) (k := l'.length) (u' := until_) (show nakU p s client (ackU p s client sent until_) = _ from by unfold nakU ackU; rw [if_neg (fun hq => n6.out hq.1), if_neg (fun hq => hx1.out hq.2.1)]) ?_ hJ'.out hU.out hH'.out ((I.out.imp (fun _ _ => trivial)).sub (.cons _ (.cons_cons _ .slnil)))
    kernel_rfl
   have e1 : (p.f1 == s.xid) = true := beq_iff_eq.mpr hx1
   by_cases hc : p.f3 = client
   case neg =>
    have f1 : (p.f3.toList == client.toList) = false := beq_eq_false_iff_ne.mpr (fun h2 => hc (bytes_inj h2))
    have h5 := Aside0.mk h5
    have n6 := Aside0.mk n6
    have hx1 := Aside0.mk hx1
    have hc := Aside0.mk hc
    have hle := Aside0.mk hle
    have hLP := Aside0.mk hLP
    go_wp2_with (first
     | ((with_reducible refine gate_dst (N := 79) rfl ?_); (try (refine gate_guard (by rfl) ?_; dsimp only)); refine wl_ld rfl rfl rfl I.out (.head _) ld_pkOf ?_)
     | ((with_reducible refine gate_dst (N := 83) rfl ?_); (try (refine gate_guard (by rfl) ?_; dsimp only)); refine wl_ld rfl rfl rfl I.out (.head _) ld_pkOf ?_)
     | ((with_reducible refine gate_dst (N := 90) rfl ?_); (try (refine gate_guard (by rfl) ?_; dsimp only)); refine wl_ld rfl rfl rfl I.out (.head _) ld_pkOf0 ?_)
     | ((with_reducible refine gate_dst (N := 122) rfl ?_); (try (refine gate_guard (by rfl) ?_; dsimp only)); refine wl_ld rfl rfl rfl I.out (.head _) ld_pkOf0 ?_)
     | ((with_reducible refine gate_dst (N := 143) rfl ?_); (try (refine gate_guard (by rfl) ?_; dsimp only)); refine wl_ld rfl rfl rfl I.out (.tail _ (.head _)) ld_st ?_)
     | ((with_reducible refine gate_dst (N := 144) rfl ?_); (try (refine gate_guard (by rfl) ?_; dsimp only)); refine wl_ld rfl rfl rfl I.out (.head _) ld_pkOf ?_)
     | ((with_reducible refine gate_dst (N := 94) rfl ?_); (try (refine gate_guard (by rfl) ?_; dsimp only)); refine wl_ld rfl rfl rfl I.out (.head _) ld_pkOf1 ?_)
     | ((with_reducible refine gate_dst (N := 96) rfl ?_); (try (refine gate_guard (by rfl) ?_; dsimp only)); refine wl_ld rfl rfl rfl I.out (.tail _ (.head _)) ld_st3 ?_)
     | ((with_reducible refine gate_dst (N := 101) rfl ?_); (try (refine gate_guard (by rfl) ?_; dsimp only)); refine wl_ld rfl rfl rfl I.out (.head _) ld_pkOf3 ?_)
     | ((with_reducible refine gate_callee (f := 11) rfl ?_); (try (refine gate_guard (by rfl) ?_; dsimp only)); refine goesL_ (some 80) rfl rfl Tryd.func11 (by kernel_rfl) rfl #[.agg (pkOf p (.slice A16 p.f8.length c16))] rfl (by (try simp only [List.map_toArray, List.map_cons, List.map_nil]); first | done | rfl) ?_; (refine (validB hv.out hfit.out A16 c16 _ (Kd.C_below g16.out I.out.below) l16.out).mono ?_); rintro e_ w1 ⟨rfl, hb⟩; refine ⟨_, rfl, ?_⟩; have I2 := Aside0.mk (I.out.call hb); clear I hb; have I := I2; clear I2)
     | ((with_reducible refine gate_callee (f := 15) rfl ?_); (try (refine gate_guard (by rfl) ?_; dsimp only)); refine goesL_ (some 84) rfl rfl Tryd.func15 (by kernel_rfl) rfl #[.agg (pkOf p (.slice A16 p.f8.length c16))] rfl (by (try simp only [List.map_toArray, List.map_cons, List.map_nil]); first | done | rfl) ?_; (refine (dhcp_Lease.calls 1000 _ _ _ _ _ _ _ _ _ _ _ _ _ _ A16 c16 p.f8 u0 u1 u2 ok _ _ (elder k60_heap g16.out I.out.below) l16.out hL.out).mono ?_); rintro e_ w1 ⟨rfl, hb⟩; refine ⟨_, rfl, ?_⟩; have I2 := Aside0.mk (I.out.call hb); clear I hb; have I := I2; clear I2)
     | ((with_reducible refine gate_callee (f := 12) rfl ?_); (try (refine gate_guard (by rfl) ?_; dsimp only)); refine goesL_ (some 146) rfl rfl Tryd.func12 (by kernel_rfl) rfl #[.agg (stA s), .agg (pkOf p (.slice A16 p.f8.length c16)), .int .i64 at_] rfl (by (try simp only [List.map_toArray, List.map_cons, List.map_nil]); first | done | rfl) ?_; (refine (ret_len (recv_J hJ.out hv.out A16 c16 _ at_ _ (elder k60_heap g16.out I.out.below) l16.out) hf_.out).mono ?_); rintro e_ w1 ⟨A0, c0, rfl, hb⟩; refine ⟨_, rfl, ?_⟩; have I2 := Aside0.mk (I.out.call hb); clear I hb; have I := I2; clear I2)
     | ((with_reducible refine gate_sr rfl ?_); refine wl_sr2 rfl rfl rfl rfl rfl I.out (by first | exact .head _ | exact .tail _ (.head _) | exact .tail _ (.tail _ (.head _)) | exact .tail _ (.tail _ (.tail _ (.head _)))) (by first | exact sr_st) (by first | exact .head | exact .tail .head | exact .tail (.tail .head) | exact .tail (.tail (.tail .head))) ?_; intro w1 hI; clear I; have I := Aside0.mk hI; clear hI)
     )
    refine hR2_mk (A := some ad) (A0 := A0) (c0 := c0) (k := l'.length) (u' := until_) (show nakU p s client (ackU p s client sent until_) = _ from by unfold nakU ackU; rw [if_neg (fun hq => n6.out hq.1), if_neg (fun hq => hc.out hq.2.2.1)]) ?_ hJ'.out hU.out hH'.out ((I.out.imp (fun _ _ => trivial)).sub (.cons _ (.cons_cons _ .slnil)))
    kernel_rfl
   have f1 : (p.f3.toList == client.toList) = true := by rw [hc]; exact beq_self_eq_true _
   have h5 := Aside0.mk h5
   have n6 := Aside0.mk n6
   have hx1 := Aside0.mk hx1
   have hc := Aside0.mk hc
   have hLP := Aside0.mk hLP
   cases ok
   case false =>
    have hle := Aside0.mk hle
    go_wp2_with (first
     | ((with_reducible refine gate_dst (N := 79) rfl ?_); (try (refine gate_guard (by rfl) ?_; dsimp only)); refine wl_ld rfl rfl rfl I.out (.head _) ld_pkOf ?_)
     | ((with_reducible refine gate_dst (N := 83) rfl ?_); (try (refine gate_guard (by rfl) ?_; dsimp only)); refine wl_ld rfl rfl rfl I.out (.head _) ld_pkOf ?_)
     | ((with_reducible refine gate_dst (N := 90) rfl ?_); (try (refine gate_guard (by rfl) ?_; dsimp only)); refine wl_ld rfl rfl rfl I.out (.head _) ld_pkOf0 ?_)
     | ((with_reducible refine gate_dst (N := 122) rfl ?_); (try (refine gate_guard (by rfl) ?_; dsimp only)); refine wl_ld rfl rfl rfl I.out (.head _) ld_pkOf0 ?_)
     | ((with_reducible refine gate_dst (N := 143) rfl ?_); (try (refine gate_guard (by rfl) ?_; dsimp only)); refine wl_ld rfl rfl rfl I.out (.tail _ (.head _)) ld_st ?_)
     | ((with_reducible refine gate_dst (N := 144) rfl ?_); (try (refine gate_guard (by rfl) ?_; dsimp only)); refine wl_ld rfl rfl rfl I.out (.head _) ld_pkOf ?_)
     | ((with_reducible refine gate_dst (N := 94) rfl ?_); (try (refine gate_guard (by rfl) ?_; dsimp only)); refine wl_ld rfl rfl rfl I.out (.head _) ld_pkOf1 ?_)
     | ((with_reducible refine gate_dst (N := 96) rfl ?_); (try (refine gate_guard (by rfl) ?_; dsimp only)); refine wl_ld rfl rfl rfl I.out (.tail _ (.head _)) ld_st3 ?_)
     | ((with_reducible refine gate_dst (N := 101) rfl ?_); (try (refine gate_guard (by rfl) ?_; dsimp only)); refine wl_ld rfl rfl rfl I.out (.head _) ld_pkOf3 ?_)
     | ((with_reducible refine gate_callee (f := 11) rfl ?_); (try (refine gate_guard (by rfl) ?_; dsimp only)); refine goesL_ (some 80) rfl rfl Tryd.func11 (by kernel_rfl) rfl #[.agg (pkOf p (.slice A16 p.f8.length c16))] rfl (by (try simp only [List.map_toArray, List.map_cons, List.map_nil]); first | done | rfl) ?_; (refine (validB hv.out hfit.out A16 c16 _ (Kd.C_below g16.out I.out.below) l16.out).mono ?_); rintro e_ w1 ⟨rfl, hb⟩; refine ⟨_, rfl, ?_⟩; have I2 := Aside0.mk (I.out.call hb); clear I hb; have I := I2; clear I2)
     | ((with_reducible refine gate_callee (f := 15) rfl ?_); (try (refine gate_guard (by rfl) ?_; dsimp only)); refine goesL_ (some 84) rfl rfl Tryd.func15 (by kernel_rfl) rfl #[.agg (pkOf p (.slice A16 p.f8.length c16))] rfl (by (try simp only [List.map_toArray, List.map_cons, List.map_nil]); first | done | rfl) ?_; (refine (dhcp_Lease.calls 1000 _ _ _ _ _ _ _ _ _ _ _ _ _ _ A16 c16 p.f8 u0 u1 u2 false _ _ (elder k60_heap g16.out I.out.below) l16.out hL.out).mono ?_); rintro e_ w1 ⟨rfl, hb⟩; refine ⟨_, rfl, ?_⟩; have I2 := Aside0.mk (I.out.call hb); clear I hb; have I := I2; clear I2)
     | ((with_reducible refine gate_callee (f := 12) rfl ?_); (try (refine gate_guard (by rfl) ?_; dsimp only)); refine goesL_ (some 146) rfl rfl Tryd.func12 (by kernel_rfl) rfl #[.agg (stA s), .agg (pkOf p (.slice A16 p.f8.length c16)), .int .i64 at_] rfl (by (try simp only [List.map_toArray, List.map_cons, List.map_nil]); first | done | rfl) ?_; (refine (ret_len (recv_J hJ.out hv.out A16 c16 _ at_ _ (elder k60_heap g16.out I.out.below) l16.out) hf_.out).mono ?_); rintro e_ w1 ⟨A0, c0, rfl, hb⟩; refine ⟨_, rfl, ?_⟩; have I2 := Aside0.mk (I.out.call hb); clear I hb; have I := I2; clear I2)
     | ((with_reducible refine gate_sr rfl ?_); refine wl_sr2 rfl rfl rfl rfl rfl I.out (by first | exact .head _ | exact .tail _ (.head _) | exact .tail _ (.tail _ (.head _)) | exact .tail _ (.tail _ (.tail _ (.head _)))) (by first | exact sr_st) (by first | exact .head | exact .tail .head | exact .tail (.tail .head) | exact .tail (.tail (.tail .head))) ?_; intro w1 hI; clear I; have I := Aside0.mk hI; clear hI)
     )
    refine hR2_mk (A := some ad) (A0 := A0) (c0 := c0) (k := l'.length) (u' := until_) (show nakU p s client (ackU p s client sent until_) = _ from by unfold nakU ackU; rw [if_neg (fun hq => n6.out hq.1), hLP.out, if_neg (fun hq => Bool.noConfusion hq.2.2.2.1)]) ?_ hJ'.out hU.out hH'.out ((I.out.imp (fun _ _ => trivial)).sub (.cons _ (.cons_cons _ .slnil)))
    kernel_rfl
   obtain ⟨y0, y1, y2, y3⟩ := hle rfl
   clear hle
   have y0 : 0 ≤ u0 := by dsimp only at y1 y2 y0; omega
   dsimp only at y3
   obtain ⟨s0, s1⟩ := hS.out
   by_cases ha : p.f5.f0 = s.a.f0 ∧ p.f5.f1 = s.a.f1 ∧ p.f5.f2 = s.a.f2
   case neg =>
    have hA : (p.f5.f0 == s.a.f0 && (p.f5.f1 == s.a.f1 && (p.f5.f2 == s.a.f2))) = false := by simpa using ha
    have hA := Aside0.mk hA
    have ha := Aside0.mk ha
    go_wp2_with (first
     | ((with_reducible refine gate_dst (N := 79) rfl ?_); (try (refine gate_guard (by rfl) ?_; dsimp only)); refine wl_ld rfl rfl rfl I.out (.head _) ld_pkOf ?_)
     | ((with_reducible refine gate_dst (N := 83) rfl ?_); (try (refine gate_guard (by rfl) ?_; dsimp only)); refine wl_ld rfl rfl rfl I.out (.head _) ld_pkOf ?_)
     | ((with_reducible refine gate_dst (N := 90) rfl ?_); (try (refine gate_guard (by rfl) ?_; dsimp only)); refine wl_ld rfl rfl rfl I.out (.head _) ld_pkOf0 ?_)
     | ((with_reducible refine gate_dst (N := 122) rfl ?_); (try (refine gate_guard (by rfl) ?_; dsimp only)); refine wl_ld rfl rfl rfl I.out (.head _) ld_pkOf0 ?_)
     | ((with_reducible refine gate_dst (N := 143) rfl ?_); (try (refine gate_guard (by rfl) ?_; dsimp only)); refine wl_ld rfl rfl rfl I.out (.tail _ (.head _)) ld_st ?_)
     | ((with_reducible refine gate_dst (N := 144) rfl ?_); (try (refine gate_guard (by rfl) ?_; dsimp only)); refine wl_ld rfl rfl rfl I.out (.head _) ld_pkOf ?_)
     | ((with_reducible refine gate_dst (N := 94) rfl ?_); (try (refine gate_guard (by rfl) ?_; dsimp only)); refine wl_ld rfl rfl rfl I.out (.head _) ld_pkOf1 ?_)
     | ((with_reducible refine gate_dst (N := 96) rfl ?_); (try (refine gate_guard (by rfl) ?_; dsimp only)); refine wl_ld rfl rfl rfl I.out (.tail _ (.head _)) ld_st3 ?_)
     | ((with_reducible refine gate_dst (N := 101) rfl ?_); (try (refine gate_guard (by rfl) ?_; dsimp only)); refine wl_ld rfl rfl rfl I.out (.head _) ld_pkOf3 ?_)
     | ((with_reducible refine gate_dst (N := 110) rfl ?_); (try (refine gate_guard (by rfl) ?_; dsimp only)); refine wl_ld rfl rfl rfl I.out (.head _) ld_pkOfA ?_)
     | ((with_reducible refine gate_dst (N := 112) rfl ?_); (try (refine gate_guard (by rfl) ?_; dsimp only)); refine wl_ld rfl rfl rfl I.out (.tail _ (.head _)) ld_stA5 ?_)
     | ((with_reducible refine gate_dst (N := 113) rfl ?_); (try (refine gate_guard (by rfl) ?_; dsimp only)); refine wl_val rfl (run_eqA (p := p.f5) (q := s.a) rfl rfl rfl hA.out) ?_)
     | ((with_reducible refine gate_callee (f := 11) rfl ?_); (try (refine gate_guard (by rfl) ?_; dsimp only)); refine goesL_ (some 80) rfl rfl Tryd.func11 (by kernel_rfl) rfl #[.agg (pkOf p (.slice A16 p.f8.length c16))] rfl (by (try simp only [List.map_toArray, List.map_cons, List.map_nil]); first | done | rfl) ?_; (refine (validB hv.out hfit.out A16 c16 _ (Kd.C_below g16.out I.out.below) l16.out).mono ?_); rintro e_ w1 ⟨rfl, hb⟩; refine ⟨_, rfl, ?_⟩; have I2 := Aside0.mk (I.out.call hb); clear I hb; have I := I2; clear I2)
     | ((with_reducible refine gate_callee (f := 15) rfl ?_); (try (refine gate_guard (by rfl) ?_; dsimp only)); refine goesL_ (some 84) rfl rfl Tryd.func15 (by kernel_rfl) rfl #[.agg (pkOf p (.slice A16 p.f8.length c16))] rfl (by (try simp only [List.map_toArray, List.map_cons, List.map_nil]); first | done | rfl) ?_; (refine (dhcp_Lease.calls 1000 _ _ _ _ _ _ _ _ _ _ _ _ _ _ A16 c16 p.f8 u0 u1 u2 true _ _ (elder k60_heap g16.out I.out.below) l16.out hL.out).mono ?_); rintro e_ w1 ⟨rfl, hb⟩; refine ⟨_, rfl, ?_⟩; have I2 := Aside0.mk (I.out.call hb); clear I hb; have I := I2; clear I2)
     | ((with_reducible refine gate_callee (f := 12) rfl ?_); (try (refine gate_guard (by rfl) ?_; dsimp only)); refine goesL_ (some 146) rfl rfl Tryd.func12 (by kernel_rfl) rfl #[.agg (stA s), .agg (pkOf p (.slice A16 p.f8.length c16)), .int .i64 at_] rfl (by (try simp only [List.map_toArray, List.map_cons, List.map_nil]); first | done | rfl) ?_; (refine (ret_len (recv_J hJ.out hv.out A16 c16 _ at_ _ (elder k60_heap g16.out I.out.below) l16.out) hf_.out).mono ?_); rintro e_ w1 ⟨A0, c0, rfl, hb⟩; refine ⟨_, rfl, ?_⟩; have I2 := Aside0.mk (I.out.call hb); clear I hb; have I := I2; clear I2)
     | ((with_reducible refine gate_sr rfl ?_); refine wl_sr2 rfl rfl rfl rfl rfl I.out (by first | exact .head _ | exact .tail _ (.head _) | exact .tail _ (.tail _ (.head _)) | exact .tail _ (.tail _ (.tail _ (.head _)))) (by first | exact sr_st) (by first | exact .head | exact .tail .head | exact .tail (.tail .head) | exact .tail (.tail (.tail .head))) ?_; intro w1 hI; clear I; have I := Aside0.mk hI; clear hI)
     )
    refine hR2_mk (A := some ad) (A0 := A0) (c0 := c0) (k := l'.length) (u' := until_) (show nakU p s client (ackU p s client sent until_) = _ from by unfold nakU ackU; rw [if_neg (fun hq => n6.out hq.1), if_neg (fun hq => ha.out hq.2.2.2.2)]) ?_ hJ'.out hU.out hH'.out ((I.out.imp (fun _ _ => trivial)).sub (.cons _ (.cons_cons _ .slnil)))
    kernel_rfl
   have hA : (p.f5.f0 == s.a.f0 && (p.f5.f1 == s.a.f1 && (p.f5.f2 == s.a.f2))) = true := by simpa using ha
   have hA := Aside0.mk hA
   have ha := Aside0.mk ha
   go_wp2_with (first
    | ((with_reducible refine gate_dst (N := 79) rfl ?_); (try (refine gate_guard (by rfl) ?_; dsimp only)); refine wl_ld rfl rfl rfl I.out (.head _) ld_pkOf ?_)
    | ((with_reducible refine gate_dst (N := 83) rfl ?_); (try (refine gate_guard (by rfl) ?_; dsimp only)); refine wl_ld rfl rfl rfl I.out (.head _) ld_pkOf ?_)
    | ((with_reducible refine gate_dst (N := 90) rfl ?_); (try (refine gate_guard (by rfl) ?_; dsimp only)); refine wl_ld rfl rfl rfl I.out (.head _) ld_pkOf0 ?_)
    | ((with_reducible refine gate_dst (N := 122) rfl ?_); (try (refine gate_guard (by rfl) ?_; dsimp only)); refine wl_ld rfl rfl rfl I.out (.head _) ld_pkOf0 ?_)
    | ((with_reducible refine gate_dst (N := 143) rfl ?_); (try (refine gate_guard (by rfl) ?_; dsimp only)); refine wl_ld rfl rfl rfl I.out (.tail _ (.head _)) ld_st ?_)
    | ((with_reducible refine gate_dst (N := 144) rfl ?_); (try (refine gate_guard (by rfl) ?_; dsimp only)); refine wl_ld rfl rfl rfl I.out (.head _) ld_pkOf ?_)
    | ((with_reducible refine gate_dst (N := 94) rfl ?_); (try (refine gate_guard (by rfl) ?_; dsimp only)); refine wl_ld rfl rfl rfl I.out (.head _) ld_pkOf1 ?_)
    | ((with_reducible refine gate_dst (N := 96) rfl ?_); (try (refine gate_guard (by rfl) ?_; dsimp only)); refine wl_ld rfl rfl rfl I.out (.tail _ (.head _)) ld_st3 ?_)
    | ((with_reducible refine gate_dst (N := 101) rfl ?_); (try (refine gate_guard (by rfl) ?_; dsimp only)); refine wl_ld rfl rfl rfl I.out (.head _) ld_pkOf3 ?_)
    | ((with_reducible refine gate_dst (N := 110) rfl ?_); (try (refine gate_guard (by rfl) ?_; dsimp only)); refine wl_ld rfl rfl rfl I.out (.head _) ld_pkOfA ?_)
    | ((with_reducible refine gate_dst (N := 112) rfl ?_); (try (refine gate_guard (by rfl) ?_; dsimp only)); refine wl_ld rfl rfl rfl I.out (.tail _ (.head _)) ld_stA5 ?_)
    | ((with_reducible refine gate_dst (N := 113) rfl ?_); (try (refine gate_guard (by rfl) ?_; dsimp only)); refine wl_val rfl (run_eqA (p := p.f5) (q := s.a) rfl rfl rfl hA.out) ?_)
    | ((with_reducible refine gate_callee (f := 11) rfl ?_); (try (refine gate_guard (by rfl) ?_; dsimp only)); refine goesL_ (some 80) rfl rfl Tryd.func11 (by kernel_rfl) rfl #[.agg (pkOf p (.slice A16 p.f8.length c16))] rfl (by (try simp only [List.map_toArray, List.map_cons, List.map_nil]); first | done | rfl) ?_; (refine (validB hv.out hfit.out A16 c16 _ (Kd.C_below g16.out I.out.below) l16.out).mono ?_); rintro e_ w1 ⟨rfl, hb⟩; refine ⟨_, rfl, ?_⟩; have I2 := Aside0.mk (I.out.call hb); clear I hb; have I := I2; clear I2)
    | ((with_reducible refine gate_callee (f := 15) rfl ?_); (try (refine gate_guard (by rfl) ?_; dsimp only)); refine goesL_ (some 84) rfl rfl Tryd.func15 (by kernel_rfl) rfl #[.agg (pkOf p (.slice A16 p.f8.length c16))] rfl (by (try simp only [List.map_toArray, List.map_cons, List.map_nil]); first | done | rfl) ?_; (refine (dhcp_Lease.calls 1000 _ _ _ _ _ _ _ _ _ _ _ _ _ _ A16 c16 p.f8 u0 u1 u2 true _ _ (elder k60_heap g16.out I.out.below) l16.out hL.out).mono ?_); rintro e_ w1 ⟨rfl, hb⟩; refine ⟨_, rfl, ?_⟩; have I2 := Aside0.mk (I.out.call hb); clear I hb; have I := I2; clear I2)
    | ((with_reducible refine gate_callee (f := 12) rfl ?_); (try (refine gate_guard (by rfl) ?_; dsimp only)); refine goesL_ (some 146) rfl rfl Tryd.func12 (by kernel_rfl) rfl #[.agg (stA s), .agg (pkOf p (.slice A16 p.f8.length c16)), .int .i64 at_] rfl (by (try simp only [List.map_toArray, List.map_cons, List.map_nil]); first | done | rfl) ?_; (refine (ret_len (recv_J hJ.out hv.out A16 c16 _ at_ _ (elder k60_heap g16.out I.out.below) l16.out) hf_.out).mono ?_); rintro e_ w1 ⟨A0, c0, rfl, hb⟩; refine ⟨_, rfl, ?_⟩; have I2 := Aside0.mk (I.out.call hb); clear I hb; have I := I2; clear I2)
    | ((with_reducible refine gate_sr rfl ?_); refine wl_sr2 rfl rfl rfl rfl rfl I.out (by first | exact .head _ | exact .tail _ (.head _) | exact .tail _ (.tail _ (.head _)) | exact .tail _ (.tail _ (.tail _ (.head _)))) (by first | exact sr_st) (by first | exact .head | exact .tail .head | exact .tail (.tail .head) | exact .tail (.tail (.tail .head))) ?_; intro w1 hI; clear I; have I := Aside0.mk hI; clear hI)
    )
   refine hR2_mk (A := some ad) (A0 := A0) (c0 := c0) (k := l'.length) (u' := max until_ (min (sent + u0) 4294967295)) (show nakU p s client (ackU p s client sent until_) = _ from by unfold nakU ackU; rw [if_neg (fun hq => n6.out hq.1), if_pos ⟨h5.out, hx1.out, hc.out, by rw [hLP.out], ha.out⟩, hLP.out]) ?_ hJ'.out (by have := hU.out; omega) hH'.out ((I.out.imp (fun _ _ => trivial)).sub (.cons _ (.cons_cons _ .slnil)))
   kernel_rfl
  have k5 : (p.f0 == 5) = false := beq_eq_false_iff_ne.mpr h5
  by_cases h6 : p.f0 = 6
  case neg =>
   have k6 : (p.f0 == 6) = false := beq_eq_false_iff_ne.mpr h6
   have h5 := Aside0.mk h5
   have h6 := Aside0.mk h6
   have hle := Aside0.mk hle
   have hLP := Aside0.mk hLP
   go_wp2_with (first
    | ((with_reducible refine gate_dst (N := 79) rfl ?_); (try (refine gate_guard (by rfl) ?_; dsimp only)); refine wl_ld rfl rfl rfl I.out (.head _) ld_pkOf ?_)
    | ((with_reducible refine gate_dst (N := 83) rfl ?_); (try (refine gate_guard (by rfl) ?_; dsimp only)); refine wl_ld rfl rfl rfl I.out (.head _) ld_pkOf ?_)
    | ((with_reducible refine gate_dst (N := 90) rfl ?_); (try (refine gate_guard (by rfl) ?_; dsimp only)); refine wl_ld rfl rfl rfl I.out (.head _) ld_pkOf0 ?_)
    | ((with_reducible refine gate_dst (N := 122) rfl ?_); (try (refine gate_guard (by rfl) ?_; dsimp only)); refine wl_ld rfl rfl rfl I.out (.head _) ld_pkOf0 ?_)
    | ((with_reducible refine gate_dst (N := 143) rfl ?_); (try (refine gate_guard (by rfl) ?_; dsimp only)); refine wl_ld rfl rfl rfl I.out (.tail _ (.head _)) ld_st ?_)
    | ((with_reducible refine gate_dst (N := 144) rfl ?_); (try (refine gate_guard (by rfl) ?_; dsimp only)); refine wl_ld rfl rfl rfl I.out (.head _) ld_pkOf ?_)
    | ((with_reducible refine gate_callee (f := 11) rfl ?_); (try (refine gate_guard (by rfl) ?_; dsimp only)); refine goesL_ (some 80) rfl rfl Tryd.func11 (by kernel_rfl) rfl #[.agg (pkOf p (.slice A16 p.f8.length c16))] rfl (by (try simp only [List.map_toArray, List.map_cons, List.map_nil]); first | done | rfl) ?_; (refine (validB hv.out hfit.out A16 c16 _ (Kd.C_below g16.out I.out.below) l16.out).mono ?_); rintro e_ w1 ⟨rfl, hb⟩; refine ⟨_, rfl, ?_⟩; have I2 := Aside0.mk (I.out.call hb); clear I hb; have I := I2; clear I2)
    | ((with_reducible refine gate_callee (f := 15) rfl ?_); (try (refine gate_guard (by rfl) ?_; dsimp only)); refine goesL_ (some 84) rfl rfl Tryd.func15 (by kernel_rfl) rfl #[.agg (pkOf p (.slice A16 p.f8.length c16))] rfl (by (try simp only [List.map_toArray, List.map_cons, List.map_nil]); first | done | rfl) ?_; (refine (dhcp_Lease.calls 1000 _ _ _ _ _ _ _ _ _ _ _ _ _ _ A16 c16 p.f8 u0 u1 u2 ok _ _ (elder k60_heap g16.out I.out.below) l16.out hL.out).mono ?_); rintro e_ w1 ⟨rfl, hb⟩; refine ⟨_, rfl, ?_⟩; have I2 := Aside0.mk (I.out.call hb); clear I hb; have I := I2; clear I2)
    | ((with_reducible refine gate_callee (f := 12) rfl ?_); (try (refine gate_guard (by rfl) ?_; dsimp only)); refine goesL_ (some 146) rfl rfl Tryd.func12 (by kernel_rfl) rfl #[.agg (stA s), .agg (pkOf p (.slice A16 p.f8.length c16)), .int .i64 at_] rfl (by (try simp only [List.map_toArray, List.map_cons, List.map_nil]); first | done | rfl) ?_; (refine (ret_len (recv_J hJ.out hv.out A16 c16 _ at_ _ (elder k60_heap g16.out I.out.below) l16.out) hf_.out).mono ?_); rintro e_ w1 ⟨A0, c0, rfl, hb⟩; refine ⟨_, rfl, ?_⟩; have I2 := Aside0.mk (I.out.call hb); clear I hb; have I := I2; clear I2)
    | ((with_reducible refine gate_sr rfl ?_); refine wl_sr2 rfl rfl rfl rfl rfl I.out (by first | exact .head _ | exact .tail _ (.head _) | exact .tail _ (.tail _ (.head _)) | exact .tail _ (.tail _ (.tail _ (.head _)))) (by first | exact sr_st) (by first | exact .head | exact .tail .head | exact .tail (.tail .head) | exact .tail (.tail (.tail .head))) ?_; intro w1 hI; clear I; have I := Aside0.mk hI; clear hI)
    )
   refine hR2_mk (A := some ad) (A0 := A0) (c0 := c0) (k := l'.length) (u' := until_) (show nakU p s client (ackU p s client sent until_) = _ from by unfold nakU ackU; rw [if_neg (fun hq => h6.out hq.1), if_neg (fun hq => h5.out hq.1)]) ?_ hJ'.out hU.out hH'.out ((I.out.imp (fun _ _ => trivial)).sub (.cons _ (.cons_cons _ .slnil)))
   kernel_rfl
  have k6 : (p.f0 == 6) = true := by rw [h6]; rfl
  by_cases hx1 : p.f1 = s.xid
  case neg =>
   have e1 : (p.f1 == s.xid) = false := beq_eq_false_iff_ne.mpr hx1
   have h5 := Aside0.mk h5
   have h6 := Aside0.mk h6
   have hx1 := Aside0.mk hx1
   have hle := Aside0.mk hle
   have hLP := Aside0.mk hLP
   go_wp2_with (first
    | ((with_reducible refine gate_dst (N := 79) rfl ?_); (try (refine gate_guard (by rfl) ?_; dsimp only)); refine wl_ld rfl rfl rfl I.out (.head _) ld_pkOf ?_)
    | ((with_reducible refine gate_dst (N := 83) rfl ?_); (try (refine gate_guard (by rfl) ?_; dsimp only)); refine wl_ld rfl rfl rfl I.out (.head _) ld_pkOf ?_)
    | ((with_reducible refine gate_dst (N := 90) rfl ?_); (try (refine gate_guard (by rfl) ?_; dsimp only)); refine wl_ld rfl rfl rfl I.out (.head _) ld_pkOf0 ?_)
    | ((with_reducible refine gate_dst (N := 122) rfl ?_); (try (refine gate_guard (by rfl) ?_; dsimp only)); refine wl_ld rfl rfl rfl I.out (.head _) ld_pkOf0 ?_)
    | ((with_reducible refine gate_dst (N := 143) rfl ?_); (try (refine gate_guard (by rfl) ?_; dsimp only)); refine wl_ld rfl rfl rfl I.out (.tail _ (.head _)) ld_st ?_)
    | ((with_reducible refine gate_dst (N := 144) rfl ?_); (try (refine gate_guard (by rfl) ?_; dsimp only)); refine wl_ld rfl rfl rfl I.out (.head _) ld_pkOf ?_)
    | ((with_reducible refine gate_dst (N := 126) rfl ?_); (try (refine gate_guard (by rfl) ?_; dsimp only)); refine wl_ld rfl rfl rfl I.out (.head _) ld_pkOf1 ?_)
    | ((with_reducible refine gate_dst (N := 128) rfl ?_); (try (refine gate_guard (by rfl) ?_; dsimp only)); refine wl_ld rfl rfl rfl I.out (.tail _ (.head _)) ld_st3 ?_)
    | ((with_reducible refine gate_callee (f := 11) rfl ?_); (try (refine gate_guard (by rfl) ?_; dsimp only)); refine goesL_ (some 80) rfl rfl Tryd.func11 (by kernel_rfl) rfl #[.agg (pkOf p (.slice A16 p.f8.length c16))] rfl (by (try simp only [List.map_toArray, List.map_cons, List.map_nil]); first | done | rfl) ?_; (refine (validB hv.out hfit.out A16 c16 _ (Kd.C_below g16.out I.out.below) l16.out).mono ?_); rintro e_ w1 ⟨rfl, hb⟩; refine ⟨_, rfl, ?_⟩; have I2 := Aside0.mk (I.out.call hb); clear I hb; have I := I2; clear I2)
    | ((with_reducible refine gate_callee (f := 15) rfl ?_); (try (refine gate_guard (by rfl) ?_; dsimp only)); refine goesL_ (some 84) rfl rfl Tryd.func15 (by kernel_rfl) rfl #[.agg (pkOf p (.slice A16 p.f8.length c16))] rfl (by (try simp only [List.map_toArray, List.map_cons, List.map_nil]); first | done | rfl) ?_; (refine (dhcp_Lease.calls 1000 _ _ _ _ _ _ _ _ _ _ _ _ _ _ A16 c16 p.f8 u0 u1 u2 ok _ _ (elder k60_heap g16.out I.out.below) l16.out hL.out).mono ?_); rintro e_ w1 ⟨rfl, hb⟩; refine ⟨_, rfl, ?_⟩; have I2 := Aside0.mk (I.out.call hb); clear I hb; have I := I2; clear I2)
    | ((with_reducible refine gate_callee (f := 12) rfl ?_); (try (refine gate_guard (by rfl) ?_; dsimp only)); refine goesL_ (some 146) rfl rfl Tryd.func12 (by kernel_rfl) rfl #[.agg (stA s), .agg (pkOf p (.slice A16 p.f8.length c16)), .int .i64 at_] rfl (by (try simp only [List.map_toArray, List.map_cons, List.map_nil]); first | done | rfl) ?_; (refine (ret_len (recv_J hJ.out hv.out A16 c16 _ at_ _ (elder k60_heap g16.out I.out.below) l16.out) hf_.out).mono ?_); rintro e_ w1 ⟨A0, c0, rfl, hb⟩; refine ⟨_, rfl, ?_⟩; have I2 := Aside0.mk (I.out.call hb); clear I hb; have I := I2; clear I2)
    | ((with_reducible refine gate_sr rfl ?_); refine wl_sr2 rfl rfl rfl rfl rfl I.out (by first | exact .head _ | exact .tail _ (.head _) | exact .tail _ (.tail _ (.head _)) | exact .tail _ (.tail _ (.tail _ (.head _)))) (by first | exact sr_st) (by first | exact .head | exact .tail .head | exact .tail (.tail .head) | exact .tail (.tail (.tail .head))) ?_; intro w1 hI; clear I; have I := Aside0.mk hI; clear hI)
    )
   refine hR2_mk (A := some ad) (A0 := A0) (c0 := c0) (k := l'.length) (u' := until_) (show nakU p s client (ackU p s client sent until_) = _ from by unfold nakU ackU; rw [if_neg (fun hq => hx1.out hq.2.1), if_neg (fun hq => h5.out hq.1)]) ?_ hJ'.out hU.out hH'.out ((I.out.imp (fun _ _ => trivial)).sub (.cons _ (.cons_cons _ .slnil)))
   kernel_rfl
  have e1 : (p.f1 == s.xid) = true := beq_iff_eq.mpr hx1
  by_cases hc : p.f3 = client
  case neg =>
   have f1 : (p.f3.toList == client.toList) = false := beq_eq_false_iff_ne.mpr (fun h2 => hc (bytes_inj h2))
   have h5 := Aside0.mk h5
   have h6 := Aside0.mk h6
   have hx1 := Aside0.mk hx1
   have hc := Aside0.mk hc
   have hle := Aside0.mk hle
   have hLP := Aside0.mk hLP
   go_wp2_with (first
    | ((with_reducible refine gate_dst (N := 79) rfl ?_); (try (refine gate_guard (by rfl) ?_; dsimp only)); refine wl_ld rfl rfl rfl I.out (.head _) ld_pkOf ?_)
    | ((with_reducible refine gate_dst (N := 83) rfl ?_); (try (refine gate_guard (by rfl) ?_; dsimp only)); refine wl_ld rfl rfl rfl I.out (.head _) ld_pkOf ?_)
    | ((with_reducible refine gate_dst (N := 90) rfl ?_); (try (refine gate_guard (by rfl) ?_; dsimp only)); refine wl_ld rfl rfl rfl I.out (.head _) ld_pkOf0 ?_)
    | ((with_reducible refine gate_dst (N := 122) rfl ?_); (try (refine gate_guard (by rfl) ?_; dsimp only)); refine wl_ld rfl rfl rfl I.out (.head _) ld_pkOf0 ?_)
    | ((with_reducible refine gate_dst (N := 143) rfl ?_); (try (refine gate_guard (by rfl) ?_; dsimp only)); refine wl_ld rfl rfl rfl I.out (.tail _ (.head _)) ld_st ?_)
    | ((with_reducible refine gate_dst (N := 144) rfl ?_); (try (refine gate_guard (by rfl) ?_; dsimp only)); refine wl_ld rfl rfl rfl I.out (.head _) ld_pkOf ?_)
    | ((with_reducible refine gate_dst (N := 126) rfl ?_); (try (refine gate_guard (by rfl) ?_; dsimp only)); refine wl_ld rfl rfl rfl I.out (.head _) ld_pkOf1 ?_)
    | ((with_reducible refine gate_dst (N := 128) rfl ?_); (try (refine gate_guard (by rfl) ?_; dsimp only)); refine wl_ld rfl rfl rfl I.out (.tail _ (.head _)) ld_st3 ?_)
    | ((with_reducible refine gate_dst (N := 133) rfl ?_); (try (refine gate_guard (by rfl) ?_; dsimp only)); refine wl_ld rfl rfl rfl I.out (.head _) ld_pkOf3 ?_)
    | ((with_reducible refine gate_callee (f := 11) rfl ?_); (try (refine gate_guard (by rfl) ?_; dsimp only)); refine goesL_ (some 80) rfl rfl Tryd.func11 (by kernel_rfl) rfl #[.agg (pkOf p (.slice A16 p.f8.length c16))] rfl (by (try simp only [List.map_toArray, List.map_cons, List.map_nil]); first | done | rfl) ?_; (refine (validB hv.out hfit.out A16 c16 _ (Kd.C_below g16.out I.out.below) l16.out).mono ?_); rintro e_ w1 ⟨rfl, hb⟩; refine ⟨_, rfl, ?_⟩; have I2 := Aside0.mk (I.out.call hb); clear I hb; have I := I2; clear I2)
    | ((with_reducible refine gate_callee (f := 15) rfl ?_); (try (refine gate_guard (by rfl) ?_; dsimp only)); refine goesL_ (some 84) rfl rfl Tryd.func15 (by kernel_rfl) rfl #[.agg (pkOf p (.slice A16 p.f8.length c16))] rfl (by (try simp only [List.map_toArray, List.map_cons, List.map_nil]); first | done | rfl) ?_; (refine (dhcp_Lease.calls 1000 _ _ _ _ _ _ _ _ _ _ _ _ _ _ A16 c16 p.f8 u0 u1 u2 ok _ _ (elder k60_heap g16.out I.out.below) l16.out hL.out).mono ?_); rintro e_ w1 ⟨rfl, hb⟩; refine ⟨_, rfl, ?_⟩; have I2 := Aside0.mk (I.out.call hb); clear I hb; have I := I2; clear I2)
    | ((with_reducible refine gate_callee (f := 12) rfl ?_); (try (refine gate_guard (by rfl) ?_; dsimp only)); refine goesL_ (some 146) rfl rfl Tryd.func12 (by kernel_rfl) rfl #[.agg (stA s), .agg (pkOf p (.slice A16 p.f8.length c16)), .int .i64 at_] rfl (by (try simp only [List.map_toArray, List.map_cons, List.map_nil]); first | done | rfl) ?_; (refine (ret_len (recv_J hJ.out hv.out A16 c16 _ at_ _ (elder k60_heap g16.out I.out.below) l16.out) hf_.out).mono ?_); rintro e_ w1 ⟨A0, c0, rfl, hb⟩; refine ⟨_, rfl, ?_⟩; have I2 := Aside0.mk (I.out.call hb); clear I hb; have I := I2; clear I2)
    | ((with_reducible refine gate_sr rfl ?_); refine wl_sr2 rfl rfl rfl rfl rfl I.out (by first | exact .head _ | exact .tail _ (.head _) | exact .tail _ (.tail _ (.head _)) | exact .tail _ (.tail _ (.tail _ (.head _)))) (by first | exact sr_st) (by first | exact .head | exact .tail .head | exact .tail (.tail .head) | exact .tail (.tail (.tail .head))) ?_; intro w1 hI; clear I; have I := Aside0.mk hI; clear hI)
    )
   refine hR2_mk (A := some ad) (A0 := A0) (c0 := c0) (k := l'.length) (u' := until_) (show nakU p s client (ackU p s client sent until_) = _ from by unfold nakU ackU; rw [if_neg (fun hq => hc.out hq.2.2.1), if_neg (fun hq => h5.out hq.1)]) ?_ hJ'.out hU.out hH'.out ((I.out.imp (fun _ _ => trivial)).sub (.cons _ (.cons_cons _ .slnil)))
   kernel_rfl
  have f1 : (p.f3.toList == client.toList) = true := by rw [hc]; exact beq_self_eq_true _
  have h5 := Aside0.mk h5
  have h6 := Aside0.mk h6
  have hx1 := Aside0.mk hx1
  have hc := Aside0.mk hc
  have hle := Aside0.mk hle
  have hLP := Aside0.mk hLP
  by_cases h3 : s.st = 3
  case pos =>
   have g2 : Aside0 ((s.st != 3) = false) := ⟨bne_eq_false_iff_eq.mpr h3⟩
   replace h3 := Aside0.mk h3
   go_wp2_with (first
    | ((with_reducible refine gate_dst (N := 79) rfl ?_); (try (refine gate_guard (by rfl) ?_; dsimp only)); refine wl_ld rfl rfl rfl I.out (.head _) ld_pkOf ?_)
    | ((with_reducible refine gate_dst (N := 83) rfl ?_); (try (refine gate_guard (by rfl) ?_; dsimp only)); refine wl_ld rfl rfl rfl I.out (.head _) ld_pkOf ?_)
    | ((with_reducible refine gate_dst (N := 90) rfl ?_); (try (refine gate_guard (by rfl) ?_; dsimp only)); refine wl_ld rfl rfl rfl I.out (.head _) ld_pkOf0 ?_)
    | ((with_reducible refine gate_dst (N := 122) rfl ?_); (try (refine gate_guard (by rfl) ?_; dsimp only)); refine wl_ld rfl rfl rfl I.out (.head _) ld_pkOf0 ?_)
    | ((with_reducible refine gate_dst (N := 143) rfl ?_); (try (refine gate_guard (by rfl) ?_; dsimp only)); refine wl_ld rfl rfl rfl I.out (.tail _ (.head _)) ld_st ?_)
    | ((with_reducible refine gate_dst (N := 144) rfl ?_); (try (refine gate_guard (by rfl) ?_; dsimp only)); refine wl_ld rfl rfl rfl I.out (.head _) ld_pkOf ?_)
    | ((with_reducible refine gate_dst (N := 126) rfl ?_); (try (refine gate_guard (by rfl) ?_; dsimp only)); refine wl_ld rfl rfl rfl I.out (.head _) ld_pkOf1 ?_)
    | ((with_reducible refine gate_dst (N := 128) rfl ?_); (try (refine gate_guard (by rfl) ?_; dsimp only)); refine wl_ld rfl rfl rfl I.out (.tail _ (.head _)) ld_st3 ?_)
    | ((with_reducible refine gate_dst (N := 133) rfl ?_); (try (refine gate_guard (by rfl) ?_; dsimp only)); refine wl_ld rfl rfl rfl I.out (.head _) ld_pkOf3 ?_)
    | ((with_reducible refine gate_dst (N := 139) rfl ?_); (try (refine gate_guard (by rfl) ?_; dsimp only)); refine wl_ld rfl rfl rfl I.out (.tail _ (.head _)) ld_st2 ?_)
    | ((with_reducible refine gate_dst (N := 140) rfl ?_); (try (refine gate_guard (by rfl) ?_; dsimp only)); refine wl_val rfl (run_neI rfl rfl rfl g2.out) ?_)
    | ((with_reducible refine gate_callee (f := 11) rfl ?_); (try (refine gate_guard (by rfl) ?_; dsimp only)); refine goesL_ (some 80) rfl rfl Tryd.func11 (by kernel_rfl) rfl #[.agg (pkOf p (.slice A16 p.f8.length c16))] rfl (by (try simp only [List.map_toArray, List.map_cons, List.map_nil]); first | done | rfl) ?_; (refine (validB hv.out hfit.out A16 c16 _ (Kd.C_below g16.out I.out.below) l16.out).mono ?_); rintro e_ w1 ⟨rfl, hb⟩; refine ⟨_, rfl, ?_⟩; have I2 := Aside0.mk (I.out.call hb); clear I hb; have I := I2; clear I2)
    | ((with_reducible refine gate_callee (f := 15) rfl ?_); (try (refine gate_guard (by rfl) ?_; dsimp only)); refine goesL_ (some 84) rfl rfl Tryd.func15 (by kernel_rfl) rfl #[.agg (pkOf p (.slice A16 p.f8.length c16))] rfl (by (try simp only [List.map_toArray, List.map_cons, List.map_nil]); first | done | rfl) ?_; (refine (dhcp_Lease.calls 1000 _ _ _ _ _ _ _ _ _ _ _ _ _ _ A16 c16 p.f8 u0 u1 u2 ok _ _ (elder k60_heap g16.out I.out.below) l16.out hL.out).mono ?_); rintro e_ w1 ⟨rfl, hb⟩; refine ⟨_, rfl, ?_⟩; have I2 := Aside0.mk (I.out.call hb); clear I hb; have I := I2; clear I2)
    | ((with_reducible refine gate_callee (f := 12) rfl ?_); (try (refine gate_guard (by rfl) ?_; dsimp only)); refine goesL_ (some 146) rfl rfl Tryd.func12 (by kernel_rfl) rfl #[.agg (stA s), .agg (pkOf p (.slice A16 p.f8.length c16)), .int .i64 at_] rfl (by (try simp only [List.map_toArray, List.map_cons, List.map_nil]); first | done | rfl) ?_; (refine (ret_len (recv_J hJ.out hv.out A16 c16 _ at_ _ (elder k60_heap g16.out I.out.below) l16.out) hf_.out).mono ?_); rintro e_ w1 ⟨A0, c0, rfl, hb⟩; refine ⟨_, rfl, ?_⟩; have I2 := Aside0.mk (I.out.call hb); clear I hb; have I := I2; clear I2)
    | ((with_reducible refine gate_sr rfl ?_); refine wl_sr2 rfl rfl rfl rfl rfl I.out (by first | exact .head _ | exact .tail _ (.head _) | exact .tail _ (.tail _ (.head _)) | exact .tail _ (.tail _ (.tail _ (.head _)))) (by first | exact sr_st) (by first | exact .head | exact .tail .head | exact .tail (.tail .head) | exact .tail (.tail (.tail .head))) ?_; intro w1 hI; clear I; have I := Aside0.mk hI; clear hI)
    )
   refine hR2_mk (A := some ad) (A0 := A0) (c0 := c0) (k := l'.length) (u' := until_) (show nakU p s client (ackU p s client sent until_) = _ from by unfold nakU ackU; rw [if_neg (fun hq => hq.2.2.2 h3.out), if_neg (fun hq => h5.out hq.1)]) ?_ hJ'.out hU.out hH'.out ((I.out.imp (fun _ _ => trivial)).sub (.cons _ (.cons_cons _ .slnil)))
   kernel_rfl
  have g2 : Aside0 ((s.st != 3) = true) := ⟨bne_iff_ne.mpr h3⟩
  replace h3 := Aside0.mk h3
  go_wp2_with (first
   | ((with_reducible refine gate_dst (N := 79) rfl ?_); (try (refine gate_guard (by rfl) ?_; dsimp only)); refine wl_ld rfl rfl rfl I.out (.head _) ld_pkOf ?_)
   | ((with_reducible refine gate_dst (N := 83) rfl ?_); (try (refine gate_guard (by rfl) ?_; dsimp only)); refine wl_ld rfl rfl rfl I.out (.head _) ld_pkOf ?_)
   | ((with_reducible refine gate_dst (N := 90) rfl ?_); (try (refine gate_guard (by rfl) ?_; dsimp only)); refine wl_ld rfl rfl rfl I.out (.head _) ld_pkOf0 ?_)
   | ((with_reducible refine gate_dst (N := 122) rfl ?_); (try (refine gate_guard (by rfl) ?_; dsimp only)); refine wl_ld rfl rfl rfl I.out (.head _) ld_pkOf0 ?_)
   | ((with_reducible refine gate_dst (N := 143) rfl ?_); (try (refine gate_guard (by rfl) ?_; dsimp only)); refine wl_ld rfl rfl rfl I.out (.tail _ (.head _)) ld_st ?_)
   | ((with_reducible refine gate_dst (N := 144) rfl ?_); (try (refine gate_guard (by rfl) ?_; dsimp only)); refine wl_ld rfl rfl rfl I.out (.head _) ld_pkOf ?_)
   | ((with_reducible refine gate_dst (N := 126) rfl ?_); (try (refine gate_guard (by rfl) ?_; dsimp only)); refine wl_ld rfl rfl rfl I.out (.head _) ld_pkOf1 ?_)
   | ((with_reducible refine gate_dst (N := 128) rfl ?_); (try (refine gate_guard (by rfl) ?_; dsimp only)); refine wl_ld rfl rfl rfl I.out (.tail _ (.head _)) ld_st3 ?_)
   | ((with_reducible refine gate_dst (N := 133) rfl ?_); (try (refine gate_guard (by rfl) ?_; dsimp only)); refine wl_ld rfl rfl rfl I.out (.head _) ld_pkOf3 ?_)
   | ((with_reducible refine gate_dst (N := 139) rfl ?_); (try (refine gate_guard (by rfl) ?_; dsimp only)); refine wl_ld rfl rfl rfl I.out (.tail _ (.head _)) ld_st2 ?_)
   | ((with_reducible refine gate_dst (N := 140) rfl ?_); (try (refine gate_guard (by rfl) ?_; dsimp only)); refine wl_val rfl (run_neI rfl rfl rfl g2.out) ?_)
   | ((with_reducible refine gate_callee (f := 11) rfl ?_); (try (refine gate_guard (by rfl) ?_; dsimp only)); refine goesL_ (some 80) rfl rfl Tryd.func11 (by kernel_rfl) rfl #[.agg (pkOf p (.slice A16 p.f8.length c16))] rfl (by (try simp only [List.map_toArray, List.map_cons, List.map_nil]); first | done | rfl) ?_; (refine (validB hv.out hfit.out A16 c16 _ (Kd.C_below g16.out I.out.below) l16.out).mono ?_); rintro e_ w1 ⟨rfl, hb⟩; refine ⟨_, rfl, ?_⟩; have I2 := Aside0.mk (I.out.call hb); clear I hb; have I := I2; clear I2)
   | ((with_reducible refine gate_callee (f := 15) rfl ?_); (try (refine gate_guard (by rfl) ?_; dsimp only)); refine goesL_ (some 84) rfl rfl Tryd.func15 (by kernel_rfl) rfl #[.agg (pkOf p (.slice A16 p.f8.length c16))] rfl (by (try simp only [List.map_toArray, List.map_cons, List.map_nil]); first | done | rfl) ?_; (refine (dhcp_Lease.calls 1000 _ _ _ _ _ _ _ _ _ _ _ _ _ _ A16 c16 p.f8 u0 u1 u2 ok _ _ (elder k60_heap g16.out I.out.below) l16.out hL.out).mono ?_); rintro e_ w1 ⟨rfl, hb⟩; refine ⟨_, rfl, ?_⟩; have I2 := Aside0.mk (I.out.call hb); clear I hb; have I := I2; clear I2)
   | ((with_reducible refine gate_callee (f := 12) rfl ?_); (try (refine gate_guard (by rfl) ?_; dsimp only)); refine goesL_ (some 146) rfl rfl Tryd.func12 (by kernel_rfl) rfl #[.agg (stA s), .agg (pkOf p (.slice A16 p.f8.length c16)), .int .i64 at_] rfl (by (try simp only [List.map_toArray, List.map_cons, List.map_nil]); first | done | rfl) ?_; (refine (ret_len (recv_J hJ.out hv.out A16 c16 _ at_ _ (elder k60_heap g16.out I.out.below) l16.out) hf_.out).mono ?_); rintro e_ w1 ⟨A0, c0, rfl, hb⟩; refine ⟨_, rfl, ?_⟩; have I2 := Aside0.mk (I.out.call hb); clear I hb; have I := I2; clear I2)
   | ((with_reducible refine gate_sr rfl ?_); refine wl_sr2 rfl rfl rfl rfl rfl I.out (by first | exact .head _ | exact .tail _ (.head _) | exact .tail _ (.tail _ (.head _)) | exact .tail _ (.tail _ (.tail _ (.head _)))) (by first | exact sr_st) (by first | exact .head | exact .tail .head | exact .tail (.tail .head) | exact .tail (.tail (.tail .head))) ?_; intro w1 hI; clear I; have I := Aside0.mk hI; clear hI)
   )
  refine hR2_mk (A := some ad) (A0 := A0) (c0 := c0) (k := l'.length) (u' := 0) (show nakU p s client (ackU p s client sent until_) = _ from by unfold nakU ackU; rw [if_pos ⟨h6.out, hx1.out, hc.out, h3.out⟩]) ?_ hJ'.out zr hH'.out ((I.out.imp (fun _ _ => trivial)).sub (.cons _ (.cons_cons _ .slnil)))
  kernel_rfl
end
end Go.Proofs.YtlabnocmmeciaaaDoor.LAW


namespace Go.Proofs.YtlabnocmmeciaaaDoor.LAW
open Go Go.RowKit Go.Proofs.YtlabnocmmeciaaaDoorW.PrintWords Go.Proofs.YtlabnocmmeciaaaDoorW.PrintLast Go.Proofs.YtlabnocmmeciaaaDoorW.PrintMore Go.Proofs.YtlabnocmmeciaaaDoor.Pa Go.Proofs.YtlabnocmmeciaaaDoor.STN Go.Proofs.YtlabnocmmeciaaaDoor.DN Go.Proofs.YtlabnocmmeciaaaDoor.OPT Go.Proofs.YtlabnocmmeciaaaDoor.PLN Go.Proofs.YtlabnocmmeciaaaDoor.BQ
set_option linter.unusedVariables false
set_option linter.unusedSimpArgs false
section
variable {client host : ByteArray} {now at_ sent until_ : Int} {n cc g9 i : Nat} {ad : Addr} {A16 : Option Addr} {c16 : Nat} {w wr : World} {u : Nat → Value} {s : Stn} {K : Act → World → Prop} {Q : Exit → Act → World → Prop} {x : S41} {v15 v16 v59 : Value}
set_option maxHeartbeats 4000000 in
set_option maxRecDepth 100000 in
theorem hld_tail {a_ : Act} (h2 : hR2 client host now (some ad) n cc g9 w i at_ sent a_ wr) (hat : (0 ≤ at_ ∧ at_ ≤ 4294967295)) (hS : (0 ≤ sent ∧ sent ≤ 4294967295)) (hK : ∀ a' w', hR0 client host now (some ad) n cc g9 w i a' w' → Q .normal a' w') : Code.wp Tryd.prog (csnd (csnd (csnd (cblk (cfst (csnd (clp (cblk (csnd (cfst (csnd (csnd (csnd (csnd (cbody Tryd.f5))))))))))))))) Q a_ wr := by
 obtain ⟨s, until_, A0, k, c0, v16, v59, u, rfl, hJ, hU, hH, hi_⟩ := h2
 dsimp only [cbody, cfst, csnd, cblk, clp, Tryd.f5, Option.getD]
 dsimp only [frH]
 have hK := Aside0.mk hK
 have I := Aside0.mk hi_
 clear hi_
 have hJ := Aside0.mk hJ
 have hat := Aside0.mk hat
 have hS := Aside0.mk hS
 have hU := Aside0.mk hU
 have hu26 := Tryd.underlying26
 have hu39 := Tryd.underlying39
 have hu24 := Tryd.underlying24
 by_cases hk : k = 0
 · subst hk
   rw [if_pos rfl] at hH
   have hH := Aside0.mk hH
   cases hb : (holdsF s at_).2
   ·
     have hb := Aside0.mk hb
     go_wp2_with (first
      | ((with_reducible refine gate_alloc (ty := 24) rfl ?_); refine wl_box (t := 24) (cs := #[.bool false, .int .u64 0, .int .u64 0]) rfl ?hr I.out ?_; (case hr => first | (go_simp; done) | (go_simp; rfl)); intro gb w1 hI; clear I; have I := Aside0.mk hI; clear hI)
      | ((with_reducible refine gate_dst (N := 170) rfl ?_); (try (refine gate_guard (by rfl) ?_; dsimp only)); refine wl_ld rfl rfl rfl I.out (.head _) ld_st ?_)
      | ((with_reducible refine gate_callee (f := 16) rfl ?_); (try (refine gate_guard (by rfl) ?_; dsimp only)); refine goesL_ (some 172) rfl rfl Tryd.func16 (by kernel_rfl) rfl #[.agg (stA s), .int .i64 at_] rfl (by (try simp only [List.map_toArray, List.map_cons, List.map_nil]); first | done | rfl) ?_; (refine (holds_b hb.out _).mono ?_); rintro e_ w1 ⟨x_, y_, z_, rfl, hb_⟩; refine ⟨_, rfl, ?_⟩; have I2 := Aside0.mk (I.out.call hb_); clear I hb_; have I := I2; clear I2)
      | ((with_reducible refine gate_sr rfl ?_); refine wl_sr2 rfl rfl rfl rfl rfl I.out (by first | exact .head _ | exact .tail _ (.head _) | exact .tail _ (.tail _ (.head _)) | exact .tail _ (.tail _ (.tail _ (.head _)))) (by first | exact sr_ad) (by first | exact .head | exact .tail .head | exact .tail (.tail .head) | exact .tail (.tail (.tail .head))) ?_; intro w1 hI; clear I; have I := Aside0.mk hI; clear hI)
      )
     refine hR0_mk (A := some ad) (at_ := at_) (sent := sent) (until_ := until_) ?_ hJ.out hat.out hS.out hU.out hH.out ((I.out.imp (fun _ _ => trivial)).sub (.cons _ (.cons_cons _ .slnil)))
     kernel_rfl
   ·
     have hlt := holds_hd hH.out hb
     have g3 : decide (until_ ≤ at_) = false := decide_eq_false (by omega)
     clear hlt
     have hb := Aside0.mk hb
     go_wp2_with (first
      | ((with_reducible refine gate_alloc (ty := 24) rfl ?_); refine wl_box (t := 24) (cs := #[.bool false, .int .u64 0, .int .u64 0]) rfl ?hr I.out ?_; (case hr => first | (go_simp; done) | (go_simp; rfl)); intro gb w1 hI; clear I; have I := Aside0.mk hI; clear hI)
      | ((with_reducible refine gate_dst (N := 170) rfl ?_); (try (refine gate_guard (by rfl) ?_; dsimp only)); refine wl_ld rfl rfl rfl I.out (.head _) ld_st ?_)
      | ((with_reducible refine gate_callee (f := 16) rfl ?_); (try (refine gate_guard (by rfl) ?_; dsimp only)); refine goesL_ (some 172) rfl rfl Tryd.func16 (by kernel_rfl) rfl #[.agg (stA s), .int .i64 at_] rfl (by (try simp only [List.map_toArray, List.map_cons, List.map_nil]); first | done | rfl) ?_; (refine (holds_b hb.out _).mono ?_); rintro e_ w1 ⟨x_, y_, z_, rfl, hb_⟩; refine ⟨_, rfl, ?_⟩; have I2 := Aside0.mk (I.out.call hb_); clear I hb_; have I := I2; clear I2)
      | ((with_reducible refine gate_sr rfl ?_); refine wl_sr2 rfl rfl rfl rfl rfl I.out (by first | exact .head _ | exact .tail _ (.head _) | exact .tail _ (.tail _ (.head _)) | exact .tail _ (.tail _ (.tail _ (.head _)))) (by first | exact sr_ad) (by first | exact .head | exact .tail .head | exact .tail (.tail .head) | exact .tail (.tail (.tail .head))) ?_; intro w1 hI; clear I; have I := Aside0.mk hI; clear hI)
      )
     refine hR0_mk (A := some ad) (at_ := at_) (sent := sent) (until_ := until_) ?_ hJ.out hat.out hS.out hU.out hH.out ((I.out.imp (fun _ _ => trivial)).sub (.cons _ (.cons_cons _ .slnil)))
     kernel_rfl
 have g1 : decide ((0 : Int) < (k : Int)) = true := decide_eq_true (by omega)
 have g2 : decide (0 < k) = true := decide_eq_true (by omega)
 rw [if_neg hk] at hH
 have hH := Aside0.mk hH
 cases hb : (holdsF s at_).2
 ·
   have hb := Aside0.mk hb
   go_wp2_with (first
    | ((with_reducible refine gate_alloc (ty := 24) rfl ?_); refine wl_box (t := 24) (cs := #[.bool false, .int .u64 0, .int .u64 0]) rfl ?hr I.out ?_; (case hr => first | (go_simp; done) | (go_simp; rfl)); intro gb w1 hI; clear I; have I := Aside0.mk hI; clear hI)
    | ((with_reducible refine gate_dst (N := 170) rfl ?_); (try (refine gate_guard (by rfl) ?_; dsimp only)); refine wl_ld rfl rfl rfl I.out (.head _) ld_st ?_)
    | ((with_reducible refine gate_callee (f := 16) rfl ?_); (try (refine gate_guard (by rfl) ?_; dsimp only)); refine goesL_ (some 172) rfl rfl Tryd.func16 (by kernel_rfl) rfl #[.agg (stA s), .int .i64 at_] rfl (by (try simp only [List.map_toArray, List.map_cons, List.map_nil]); first | done | rfl) ?_; (refine (holds_b hb.out _).mono ?_); rintro e_ w1 ⟨x_, y_, z_, rfl, hb_⟩; refine ⟨_, rfl, ?_⟩; have I2 := Aside0.mk (I.out.call hb_); clear I hb_; have I := I2; clear I2)
    | ((with_reducible refine gate_sr rfl ?_); refine wl_sr2 rfl rfl rfl rfl rfl I.out (by first | exact .head _ | exact .tail _ (.head _) | exact .tail _ (.tail _ (.head _)) | exact .tail _ (.tail _ (.tail _ (.head _)))) (by first | exact sr_ad) (by first | exact .head | exact .tail .head | exact .tail (.tail .head) | exact .tail (.tail (.tail .head))) ?_; intro w1 hI; clear I; have I := Aside0.mk hI; clear hI)
    )
   refine hR0_mk (A := some ad) (at_ := at_) (sent := at_) (until_ := until_) ?_ hJ.out hat.out hat.out hU.out hH.out ((I.out.imp (fun _ _ => trivial)).sub (.cons _ (.cons_cons _ .slnil)))
   kernel_rfl
 ·
   have hlt := holds_hd hH.out hb
   have g3 : decide (until_ ≤ at_) = false := decide_eq_false (by omega)
   clear hlt
   have hb := Aside0.mk hb
   go_wp2_with (first
    | ((with_reducible refine gate_alloc (ty := 24) rfl ?_); refine wl_box (t := 24) (cs := #[.bool false, .int .u64 0, .int .u64 0]) rfl ?hr I.out ?_; (case hr => first | (go_simp; done) | (go_simp; rfl)); intro gb w1 hI; clear I; have I := Aside0.mk hI; clear hI)
    | ((with_reducible refine gate_dst (N := 170) rfl ?_); (try (refine gate_guard (by rfl) ?_; dsimp only)); refine wl_ld rfl rfl rfl I.out (.head _) ld_st ?_)
    | ((with_reducible refine gate_callee (f := 16) rfl ?_); (try (refine gate_guard (by rfl) ?_; dsimp only)); refine goesL_ (some 172) rfl rfl Tryd.func16 (by kernel_rfl) rfl #[.agg (stA s), .int .i64 at_] rfl (by (try simp only [List.map_toArray, List.map_cons, List.map_nil]); first | done | rfl) ?_; (refine (holds_b hb.out _).mono ?_); rintro e_ w1 ⟨x_, y_, z_, rfl, hb_⟩; refine ⟨_, rfl, ?_⟩; have I2 := Aside0.mk (I.out.call hb_); clear I hb_; have I := I2; clear I2)
    | ((with_reducible refine gate_sr rfl ?_); refine wl_sr2 rfl rfl rfl rfl rfl I.out (by first | exact .head _ | exact .tail _ (.head _) | exact .tail _ (.tail _ (.head _)) | exact .tail _ (.tail _ (.tail _ (.head _)))) (by first | exact sr_ad) (by first | exact .head | exact .tail .head | exact .tail (.tail .head) | exact .tail (.tail (.tail .head))) ?_; intro w1 hI; clear I; have I := Aside0.mk hI; clear hI)
    )
   refine hR0_mk (A := some ad) (at_ := at_) (sent := at_) (until_ := until_) ?_ hJ.out hat.out hat.out hU.out hH.out ((I.out.imp (fun _ _ => trivial)).sub (.cons _ (.cons_cons _ .slnil)))
   kernel_rfl
end
end Go.Proofs.YtlabnocmmeciaaaDoor.LAW


namespace Go.Proofs.YtlabnocmmeciaaaDoor.LAW
open Go Go.RowKit Go.Proofs.YtlabnocmmeciaaaDoorW.PrintWords Go.Proofs.YtlabnocmmeciaaaDoorW.PrintLast Go.Proofs.YtlabnocmmeciaaaDoorW.PrintMore Go.Proofs.YtlabnocmmeciaaaDoor.Pa Go.Proofs.YtlabnocmmeciaaaDoor.STN Go.Proofs.YtlabnocmmeciaaaDoor.DN Go.Proofs.YtlabnocmmeciaaaDoor.OPT Go.Proofs.YtlabnocmmeciaaaDoor.PLN Go.Proofs.YtlabnocmmeciaaaDoor.BQ
set_option linter.unusedVariables false
set_option linter.unusedSimpArgs false
section
variable {client host : ByteArray} {now : Int} {cc g9 i n : Nat} {A : Option Addr} {w wr : World} {K : Act → World → Prop} {Q : Exit → Act → World → Prop} {a : Act}
theorem inb1H {Q0 : Exit → Act → World → Prop} (h : K a wr) : Exit.inBlock 1 (Exit.then K Q0) (.exit 1) a wr := by
  show (if (1 : Nat) = 1 then Exit.then K Q0 .normal a wr else Exit.then K Q0 (.exit 1) a wr)
  rw [if_pos rfl]; exact h
set_option maxHeartbeats 4000000 in
set_option maxRecDepth 100000 in
theorem hld_next (h0 : hR0 client host now A n cc g9 w i a wr) (hi : i < n) (hn : n ≤ 80) (hK : ∀ a' w', hR0 client host now A n cc g9 w (i + 1) a' w' → Q .normal a' w') : Code.wp Tryd.prog (csnd (csnd (clp (cblk (csnd (cfst (csnd (csnd (csnd (csnd (cbody Tryd.f5))))))))))) Q a wr := by
 obtain ⟨s, at_, sent, until_, v15, v16, v59, u, rfl, hJ, hat, hS, hU, hH, hI⟩ := h0
 dsimp only [cbody, cfst, csnd, cblk, clp, Tryd.f5, Option.getD]
 dsimp only [frH]
 replace hK := Aside0.mk hK
 replace hJ := Aside0.mk hJ
 replace hat := Aside0.mk hat
 replace hS := Aside0.mk hS
 replace hU := Aside0.mk hU
 replace hH := Aside0.mk hH
 have I := Aside0.mk hI
 clear hI
 have b1 : (i : Int) ≤ 80 := by omega
 go_wp2
 try refine hK.out _ _ ?_
 refine hR0_mk (s := s) (at_ := at_) (A := A) (i := i + 1) ?_ hJ.out hat.out hS.out hU.out hH.out I.out
 kernel_rfl
set_option maxHeartbeats 4000000 in
set_option maxRecDepth 100000 in
theorem hld_round {l : List S41} (hr : Kd.C k41 w A l.length l) (hx : ∀ x ∈ l, okS x) (hn : l.length ≤ 80) (h0 : hR0 client host now A l.length cc g9 w i a wr) (hi : i ≤ l.length) (hK : ∀ a' w', i < l.length → hR0 client host now A l.length cc g9 w (i + 1) a' w' → K a' w') (hE : ∀ a' w', hR0 client host now A l.length cc g9 w i a' w' → Q (.exit 0) a' w') (hP : ∀ c (a : Act) w' N v, Q (.panic c) (a.put N v) w' → Q (.panic c) a w') : Code.wp Tryd.prog (clp (cblk (csnd (cfst (csnd (csnd (csnd (csnd (cbody Tryd.f5))))))))) (Exit.then K Q) a wr := by
 have hnext : ∀ a' w', i < l.length → hR0 client host now A l.length cc g9 w i a' w' → Code.wp Tryd.prog (csnd (csnd (clp (cblk (csnd (cfst (csnd (csnd (csnd (csnd (cbody Tryd.f5))))))))))) (Exit.then K Q) a' w' := fun a' w' hlt h => hld_next h hlt hn (fun a2 w2 h2 => hK a2 w2 hlt h2)
 obtain ⟨s, at_, sent, until_, v15, v16, v59, u, rfl, hJ, hat, hS, hU, hH, hI⟩ := h0
 replace hJ := Aside0.mk hJ
 replace hat := Aside0.mk hat
 replace hS := Aside0.mk hS
 replace hU := Aside0.mk hU
 replace hH := Aside0.mk hH
 replace hnext := Aside0.mk hnext
 replace hE := Aside0.mk hE
 replace hP := Aside0.mk hP
 replace hK := Aside0.mk hK
 have I := Aside0.mk hI
 clear hI
 by_cases hlt : i < l.length
 case neg =>
  have g1 : decide ((i : Int) < (l.length : Int)) = false := decide_eq_false (by omega)
  have g2 : decide (i < l.length) = false := decide_eq_false hlt
  clear hlt
  dsimp only [cbody, cfst, csnd, cblk, clp, Tryd.f5, Option.getD]
  dsimp only [frH]
  go_wp2
  refine hE.out _ _ (hR0_mk (s := s) (at_ := at_) (A := A) ?_ hJ.out hat.out hS.out hU.out hH.out I.out)
  kernel_rfl
 have g1 : decide ((i : Int) < (l.length : Int)) = true := decide_eq_true (by omega)
 have g2 : decide (i < l.length) = true := decide_eq_true hlt
 obtain ⟨ad, A16, c16, eA, l16, g16, q0, q1, q2⟩ := row_at hr i hlt
 subst eA
 have hxs : okS l[i] := hx _ (List.getElem_mem hlt)
 generalize l[i] = x at l16 g16 q0 q1 q2 hxs
 have q0 := Aside0.mk q0
 have q1 := Aside0.mk q1
 have q2 := Aside0.mk q2
 have g16 := Aside0.mk g16
 have l16 := Aside0.mk l16
 have p0 : 0 ≤ (i : Int) := by omega
 have p1 : (i : Int) < (l.length : Int) := by omega
 obtain ⟨⟨k0, k1⟩, ⟨b0, b1⟩, _⟩ := id hxs
 obtain ⟨t0, t1⟩ := hat.out
 have hxs := Aside0.mk hxs
 have hu26 := Tryd.underlying26
 have hu39 := Tryd.underlying39
 have hu24 := Tryd.underlying24
 dsimp only [cbody, cfst, csnd, cblk, clp, Tryd.f5, Option.getD]
 dsimp only [frH]
 refine wp_seq_k (fun K1 hK1 => ?_)
 replace hK1 := Aside0.mk hK1
 go_wp2
 refine hK1.out _ _ ?_
 refine wp_seq_k (fun K2 hK2 => ?_)
 replace hK2 := Aside0.mk hK2
 refine wp_block ?_
 refine wp_seq_k (fun K3 hK3 => ?_)
 replace hK3 := Aside0.mk hK3
 go_wp2_with (first
  | ((with_reducible refine gate_ld rfl ?_); (try (refine gate_guard (by rfl) ?_; dsimp only)); refine wl_cell rfl rfl rfl _ Tryd.underlying35 rfl (q1.out _ I.out.below) ?_)
  )
 refine hK3.out _ _ ?_
 refine wp_seq_k (fun K4 hK4 => ?_)
 replace hK4 := Aside0.mk hK4
 go_wp2
 refine hK4.out _ _ ?_
 refine wp_seq_k (fun K5 hK5 => ?_)
 replace hK5 := Aside0.mk hK5
 refine wp_seq_k (fun K6 hK6 => ?_)
 replace hK6 := Aside0.mk hK6
 go_wp2_with (first
  | ((with_reducible refine gate_ld rfl ?_); (try (refine gate_guard (by rfl) ?_; dsimp only)); refine wl_cell rfl rfl rfl _ Tryd.underlying5 rfl (q0.out _ I.out.below) ?_)
  )
 refine hK6.out _ _ ?_
 have hatN : 0 ≤ (min (at_ + x.f1) 4294967295) ∧ (min (at_ + x.f1) 4294967295) ≤ 4294967295 := by omega
 have h5 : ∀ a' w', hR2 client host now (some ad) l.length cc g9 w i (min (at_ + x.f1) 4294967295) sent a' w' → K5 a' w' := fun a' w' h => hK5.out a' w' (hld_tail h hatN hS.out (fun a2 w2 h2 => hK2.out _ _ (hnext.out _ _ hlt h2)))
 have hm5 : x.f0 % 5 = 0 ∨ x.f0 % 5 = 1 ∨ x.f0 % 5 = 2 ∨ x.f0 % 5 = 3 ∨ x.f0 % 5 = 4 := by omega
 refine at_frH (client := client) (host := host) (now := now) (n := l.length) (cc := cc) (g9 := g9) (A := some ad) (at_ := (min (at_ + x.f1) 4294967295)) (sent := sent) (until_ := until_) (i := i) (v15 := .slice none 0 0) (v59 := .int .u8 (x.f0 % 5)) ?_ (fun v16 u => ?_)
 kernel_rfl
 rcases hm5 with hm | hm | hm | hm | hm
 · exact hld_tick hJ.out hatN hS.out hU.out hH.out I.out hxs.out hm h5
 · exact hld_recv hJ.out hatN hS.out hU.out hH.out I.out hxs.out hm hlt q2.out l16.out g16.out (fun a' w' h => inb1H (hK2.out _ _ (hnext.out _ _ hlt h))) (fun c a w' N v h => hP.out c a w' N v h) h5
 · exact hld_leave hJ.out hatN hS.out hU.out hH.out I.out hxs.out hm h5
 · exact hld_refuse hJ.out hatN hS.out hU.out hH.out I.out hxs.out hm h5
 · exact hld_none hJ.out hatN hS.out hU.out hH.out I.out hxs.out hm h5
end
set_option maxHeartbeats 4000000 in
set_option maxRecDepth 100000 in
theorem holdsLaw_c (client host : ByteArray) (now : Int) (A : Option Addr) (cc : Nat) (l : List S41) (w : World) (hr : Kd.C k41 w A l.length l) (hcc : l.length ≤ cc) (h1 : client.size ≤ 140737488351232) (h2 : host.size ≤ 140737488351232) (hn : 0 ≤ now ∧ now ≤ 4294967295) (hx : ∀ x ∈ l, okS x) :
  Calls Tryd.prog 5 #[.string client, .string host, .int .u32 now, .slice A l.length cc] w fun e w' => e = .returned (.bool true) ∧ Below w.heap.size w w' := by
 have hu26 := Tryd.underlying26
 have hu39 := Tryd.underlying39
 have hu24 := Tryd.underlying24
 have hu60 := Tryd.underlying60
 have hr := Aside0.mk hr
 have hx := Aside0.mk hx
 have I := Aside0.mk (Inv.start0 (w0 := w))
 have hnew := new_f client host h1 h2 (client.size + 3001) (by omega)
 by_cases hok : cli client = true ∧ hostOk host = true
 case neg =>
  have he : ∃ e : Int, e ≠ 0 ∧ newL client host = ((⟨#[]⟩ : ByteArray), (⟨#[]⟩ : ByteArray), 0, 0, 0, false, 0, 0, 0, 0, 0, 0, 0, e) := by
   unfold newL
   by_cases hc : cli client = true
   · rw [if_pos hc, if_neg (fun hh => hok ⟨hc, hh⟩)]; exact ⟨2, by decide, rfl⟩
   · rw [if_neg hc]; exact ⟨1, by decide, rfl⟩
  obtain ⟨e, he0, he⟩ := he
  rw [he] at hnew
  have HN := Aside0.mk hnew
  have f1 : (e == 0) = false := beq_eq_false_iff_ne.mpr he0
  have f2 : (e != 0) = true := bne_iff_ne.mpr he0
  clear hnew he hok he0
  go_enter Tryd.func5, Tryd.ntmps5
  go_wp2_with (first
   | ((with_reducible refine gate_alloc (ty := 26) rfl ?_); refine wl_box (t := 26) (cs := (stC (⟨#[]⟩ : ByteArray) (⟨#[]⟩ : ByteArray) 0 0 0 false 0 0 0 0 0 0 0)) rfl ?hr I.out ?_; (case hr => first | (go_simp; done) | (go_simp; rfl)); intro gb w1 hI; clear I; have I := Aside0.mk hI; clear hI)
   | ((with_reducible refine gate_callee (f := 6) rfl ?_); (try (refine gate_guard (by rfl) ?_; dsimp only)); refine goesL_ (some 26) rfl rfl Tryd.func6 (by kernel_rfl) rfl #[.string client, .string host] rfl (by (try simp only [List.map_toArray, List.map_cons, List.map_nil]); first | done | rfl) ?_; (refine (station_New.calls (client.size + 3001) client host _ _ _ _ _ _ _ _ _ _ _ _ _ e _ HN.out).mono ?_); rintro e_ w1 ⟨rfl, hb⟩; refine ⟨_, rfl, ?_⟩; have I2 := Aside0.mk (I.out.call hb); clear I hb; have I := I2; clear I2)
   | ((with_reducible refine gate_callee (f := 8) rfl ?_); (try (refine gate_guard (by rfl) ?_; dsimp only)); refine goesL_ (some 36) rfl rfl Tryd.func8 (by kernel_rfl) rfl #[] rfl (by (try simp only [List.map_toArray, List.map_cons, List.map_nil]); first | done | rfl) ?_; (refine (BQ.awake_c _).mono ?_); rintro e_ w1 ⟨rfl, hb⟩; refine ⟨_, rfl, ?_⟩; have I2 := Aside0.mk (I.out.call hb); clear I hb; have I := I2; clear I2)
   | ((with_reducible refine gate_sr rfl ?_); refine wl_sr2 rfl rfl rfl rfl rfl I.out (by first | exact .head _ | exact .tail _ (.head _) | exact .tail _ (.tail _ (.head _)) | exact .tail _ (.tail _ (.tail _ (.head _)))) (by first | exact sr_st) (by first | exact .head | exact .tail .head | exact .tail (.tail .head) | exact .tail (.tail (.tail .head))) ?_; intro w1 hI; clear I; have I := Aside0.mk hI; clear hI)
   )
  go_ret
  exact ⟨rfl, I.out.below⟩
 obtain ⟨hcl, hho⟩ := hok
 have hJ0 := J_new hcl hho
 rw [show newL client host = (client, host, 0, 0, 0, false, 0, 0, 0, 0, 0, 0, 0, 0) from by unfold newL; rw [if_pos hcl, if_pos hho]] at hnew
 have HN := Aside0.mk hnew
 clear hnew hcl hho
 have hJ0 := Aside0.mk hJ0
 by_cases hlen : 80 < l.length
 · have f1 : decide ((80 : Int) < (l.length : Int)) = true := decide_eq_true (by omega)
   have f2 : decide (80 < l.length) = true := decide_eq_true hlen
   clear hlen
   go_enter Tryd.func5, Tryd.ntmps5
   go_wp2_with (first
    | ((with_reducible refine gate_alloc (ty := 26) rfl ?_); refine wl_box (t := 26) (cs := (stC (⟨#[]⟩ : ByteArray) (⟨#[]⟩ : ByteArray) 0 0 0 false 0 0 0 0 0 0 0)) rfl ?hr I.out ?_; (case hr => first | (go_simp; done) | (go_simp; rfl)); intro gb w1 hI; clear I; have I := Aside0.mk hI; clear hI)
    | ((with_reducible refine gate_callee (f := 6) rfl ?_); (try (refine gate_guard (by rfl) ?_; dsimp only)); refine goesL_ (some 26) rfl rfl Tryd.func6 (by kernel_rfl) rfl #[.string client, .string host] rfl (by (try simp only [List.map_toArray, List.map_cons, List.map_nil]); first | done | rfl) ?_; (refine (station_New.calls (client.size + 3001) client host _ _ _ _ _ _ _ _ _ _ _ _ _ 0 _ HN.out).mono ?_); rintro e_ w1 ⟨rfl, hb⟩; refine ⟨_, rfl, ?_⟩; have I2 := Aside0.mk (I.out.call hb); clear I hb; have I := I2; clear I2)
    | ((with_reducible refine gate_callee (f := 8) rfl ?_); (try (refine gate_guard (by rfl) ?_; dsimp only)); refine goesL_ (some 36) rfl rfl Tryd.func8 (by kernel_rfl) rfl #[] rfl (by (try simp only [List.map_toArray, List.map_cons, List.map_nil]); first | done | rfl) ?_; (refine (BQ.awake_c _).mono ?_); rintro e_ w1 ⟨rfl, hb⟩; refine ⟨_, rfl, ?_⟩; have I2 := Aside0.mk (I.out.call hb); clear I hb; have I := I2; clear I2)
    | ((with_reducible refine gate_sr rfl ?_); refine wl_sr2 rfl rfl rfl rfl rfl I.out (by first | exact .head _ | exact .tail _ (.head _) | exact .tail _ (.tail _ (.head _)) | exact .tail _ (.tail _ (.tail _ (.head _)))) (by first | exact sr_st) (by first | exact .head | exact .tail .head | exact .tail (.tail .head) | exact .tail (.tail (.tail .head))) ?_; intro w1 hI; clear I; have I := Aside0.mk hI; clear hI)
    )
   go_ret
   exact ⟨rfl, I.out.below⟩
 have f1 : decide ((80 : Int) < (l.length : Int)) = false := decide_eq_false (by omega)
 have f2 : decide (80 < l.length) = false := decide_eq_false hlen
 go_enter Tryd.func5, Tryd.ntmps5
 go_wp2_with (first
  | ((with_reducible refine gate_alloc (ty := 26) rfl ?_); refine wl_box (t := 26) (cs := (stC (⟨#[]⟩ : ByteArray) (⟨#[]⟩ : ByteArray) 0 0 0 false 0 0 0 0 0 0 0)) rfl ?hr I.out ?_; (case hr => first | (go_simp; done) | (go_simp; rfl)); intro gb w1 hI; clear I; have I := Aside0.mk hI; clear hI)
  | ((with_reducible refine gate_callee (f := 6) rfl ?_); (try (refine gate_guard (by rfl) ?_; dsimp only)); refine goesL_ (some 26) rfl rfl Tryd.func6 (by kernel_rfl) rfl #[.string client, .string host] rfl (by (try simp only [List.map_toArray, List.map_cons, List.map_nil]); first | done | rfl) ?_; (refine (station_New.calls (client.size + 3001) client host _ _ _ _ _ _ _ _ _ _ _ _ _ 0 _ HN.out).mono ?_); rintro e_ w1 ⟨rfl, hb⟩; refine ⟨_, rfl, ?_⟩; have I2 := Aside0.mk (I.out.call hb); clear I hb; have I := I2; clear I2)
  | ((with_reducible refine gate_sr rfl ?_); refine wl_sr2 rfl rfl rfl rfl rfl I.out (by first | exact .head _ | exact .tail _ (.head _) | exact .tail _ (.tail _ (.head _)) | exact .tail _ (.tail _ (.tail _ (.head _)))) (by first | exact sr_st) (by first | exact .head | exact .tail .head | exact .tail (.tail .head) | exact .tail (.tail (.tail .head))) ?_; intro w1 hI; clear I; have I := Aside0.mk hI; clear hI)
  )
 clear f1 f2
 refine wp_loop_ghost (fun m a wr => ∃ i, m = l.length - i ∧ i ≤ l.length ∧ hR0 client host now A l.length cc gb w i a wr) l.length ⟨0, rfl, Nat.zero_le _, hR0_mk (s := ⟨client, host, 0, 0, 0, zA, 0, 0, 0, 0, 0⟩) (at_ := now) (sent := 0) (until_ := 0) (A := A) ?_ hJ0.out ⟨hn.1, hn.2⟩ zr zr (Hd.none _ rfl _ _) I.out⟩ ?_
 · kernel_rfl
 · rintro m a wr ⟨i, hm, hi, h0⟩
   refine hld_round hr.out hx.out (by omega) h0 hi (fun a' w' hlt h => ⟨l.length - (i + 1), by omega, i + 1, rfl, by omega, h⟩) (fun a' w' h => ?_) (fun c a w N v h => ?_)
   obtain ⟨s, at_, sent, until_, v15, v16, v59, u, rfl, hJ, hat, hS, hU, hH, hI⟩ := h
   clear I h0
   have I := Aside0.mk hI
   clear hI
   dsimp only [frH]
   try simp only [Exit.inBlock, Exit.then, if_true]
   go_wp2_with (first
    | ((with_reducible refine gate_callee (f := 8) rfl ?_); (try (refine gate_guard (by rfl) ?_; dsimp only)); refine goesL_ (some 181) rfl rfl Tryd.func8 (by kernel_rfl) rfl #[] rfl (by (try simp only [List.map_toArray, List.map_cons, List.map_nil]); first | done | rfl) ?_; (refine (BQ.awake_c _).mono ?_); rintro e_ w1 ⟨rfl, hb⟩; refine ⟨_, rfl, ?_⟩; have I2 := Aside0.mk (I.out.call hb); clear I hb; have I := I2; clear I2)
    )
   go_ret
   exact ⟨rfl, I.out.below⟩
   cases N <;> exact h
end Go.Proofs.YtlabnocmmeciaaaDoor.LAW


namespace Go.Proofs.YtlabnocmmeciaaaDoor.Pa
open Go Go.RowKit Go.Proofs.YtlabnocmmeciaaaDoorW.PrintWords Go.Proofs.YtlabnocmmeciaaaDoorW.PrintLast Go.Proofs.YtlabnocmmeciaaaDoorW.PrintMore Go.Proofs.YtlabnocmmeciaaaDoor.LAW
set_option linter.unusedVariables false
set_option linter.unusedSimpArgs false
def Wf24 (x : S24) : Prop := (True) ∧ ((Lit.int .u64 x.f1).wf = true) ∧ ((Lit.int .u64 x.f2).wf = true)
def Wf60 (x : S60) : Prop := ((Lit.int .i64 x.f0).wf = true) ∧ (x.f1.size ≤ 140737488351232)
def Wf39 (x : S39) : Prop := ((Lit.int .i64 x.f0).wf = true) ∧ ((Lit.int .i64 x.f1).wf = true) ∧ ((Lit.int .i64 x.f2).wf = true) ∧ (x.f3.size ≤ 140737488351232) ∧ (Wf24 x.f4) ∧ (Wf24 x.f5) ∧ (Wf24 x.f6) ∧ (True) ∧ (x.f8.length * 24 ≤ 140737488351232 ∧ ∀ y ∈ x.f8, Wf60 y)
def Wf41 (x : S41) : Prop := ((Lit.int .u8 x.f0).wf = true) ∧ ((Lit.int .u32 x.f1).wf = true) ∧ (Wf39 x.f2) ∧ (True)
theorem wf_u64 {n : Int} (h : (Lit.int .u64 n).wf = true) : 0 ≤ n ∧ n ≤ 18446744073709551615 := by
  have e1 : IntKind.u64.min = 0 := rfl
  have e2 : IntKind.u64.max = 18446744073709551615 := rfl
  simp [Lit.wf, e1, e2] at h
  exact h
theorem wf_i64 {n : Int} (h : (Lit.int .i64 n).wf = true) : -9223372036854775808 ≤ n ∧ n ≤ 9223372036854775807 := by
  have e1 : IntKind.i64.min = -9223372036854775808 := rfl
  have e2 : IntKind.i64.max = 9223372036854775807 := rfl
  simp [Lit.wf, e1, e2] at h
  exact h
theorem wf_u8 {n : Int} (h : (Lit.int .u8 n).wf = true) : 0 ≤ n ∧ n ≤ 255 := by
  have e1 : IntKind.u8.min = 0 := rfl
  have e2 : IntKind.u8.max = 255 := rfl
  simp [Lit.wf, e1, e2] at h
  exact h
theorem wf_u32 {n : Int} (h : (Lit.int .u32 n).wf = true) : 0 ≤ n ∧ n ≤ 4294967295 := by
  have e1 : IntKind.u32.min = 0 := rfl
  have e2 : IntKind.u32.max = 4294967295 := rfl
  simp [Lit.wf, e1, e2] at h
  exact h
theorem okS_of {x : S41} (h : Wf41 x) : okS x := by
  obtain ⟨h0, h1, ⟨_, hx, _, _, h4, h5, h6, _, _, h8⟩, _⟩ := h
  exact ⟨wf_u8 h0, wf_u32 h1, wf_i64 hx, (wf_u64 h4.2.2).1, (wf_u64 h5.2.2).1, (wf_u64 h6.2.2).1, fun o ho => (h8 o ho).2⟩
end Go.Proofs.YtlabnocmmeciaaaDoor.Pa

