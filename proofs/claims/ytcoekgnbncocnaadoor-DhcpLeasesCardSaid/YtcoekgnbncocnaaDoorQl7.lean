/- Parts of the proof of this claim's statement (joined by a program of this session): Ref, Pk, Put, TimeP, GrantP, Short, Awake36, PureDhcpLeases. -/
import Derived.Test.YtcoekgnbncocnaaDoorQl4
import Derived.Test.YtcoekgnbncocnaaDoorQl2
import Derived.Test.YtcoekgnbncocnaaDoorQl3
import Derived.Test.YtcoekgnbncocnaaDoorQl5
import Derived.Test.YtcoekgnbncocnaaDoorQl1
import Derived.Test.YtcoekgnbncocnaaDoorQl6
namespace Go.Proofs.YtcoekgnbncocnaaDoor.Pa
open Go Go.RowKit
/-- what a row tells of an option -/
def Wf61 (x : S61) : Prop := ((Lit.int .i64 x.f0).wf = true) ∧ (x.f1.size ≤ 140737488351232)
end Go.Proofs.YtcoekgnbncocnaaDoor.Pa
namespace Go.Proofs.YtcoekgnbncocnaaDoor.OPT
open Go Go.RowKit Go.Proofs.YtcoekgnbncocnaaDoorW.PrintWords Go.Proofs.YtcoekgnbncocnaaDoor.DN Go.Proofs.YtcoekgnbncocnaaDoor.Pa
set_option linter.unusedVariables false
set_option linter.unusedSimpArgs false

theorem w2 {a b : Nat} (h : a + b < 9223372036854775807) : wrap64 ((a : Int) + (b : Int)) = ((a + b : Nat) : Int) := by rw [wrap_id (by omega) (by omega)]; rfl
end Go.Proofs.YtcoekgnbncocnaaDoor.OPT


namespace Go.Proofs.YtcoekgnbncocnaaDoor.PK
open Go Go.RowKit Go.Proofs.YtcoekgnbncocnaaDoorW.PrintWords Go.Proofs.YtcoekgnbncocnaaDoorW.PrintLast Go.Proofs.YtcoekgnbncocnaaDoorW.PrintMore Go.Proofs.YtcoekgnbncocnaaDoor.DN Go.Proofs.YtcoekgnbncocnaaDoor.OPT Go.Proofs.YtcoekgnbncocnaaDoor.ADR Go.Proofs.YtcoekgnbncocnaaDoor.Pa
set_option linter.unusedVariables false
set_option linter.unusedSimpArgs false

def vis (b : UInt8) : Bool := decide (33 ≤ b.toNat ∧ b.toNat ≤ 126)
def cli (s : ByteArray) : Bool := decide (1 ≤ s.size ∧ s.size ≤ 32) && (L s).all vis
theorem client_l (s : ByteArray) (hs : s.size ≤ 32) : ∀ (n k i : Nat), s.size - i ≤ n → n < k → i ≤ s.size → dhcp_client.l0 k s (s.size : Int) (i : Int) = some (((L s).drop i).all vis) := by
  intro n
  induction n with
  | zero =>
    intro k i hn hk hi
    obtain ⟨k, rfl⟩ : ∃ q, k = q + 1 := ⟨k - 1, by omega⟩
    rw [dhcp_client.l0, if_neg (by omega), List.drop_eq_nil_of_le (by rw [L_len]; omega)]; rfl
  | succ n ih =>
    intro k i hn hk hi
    obtain ⟨k, rfl⟩ : ∃ q, k = q + 1 := ⟨k - 1, by omega⟩
    by_cases hlt : i < s.size
    · have hL : i < (L s).length := by rw [L_len]; exact hlt
      rw [dhcp_client.l0, if_pos (by omega), if_pos (by omega), if_pos (by omega), bt_L s i hL, drop_at hL, List.all_cons]
      by_cases h1 : (L s)[i].toNat < 33
      · rw [if_pos (by omega), show vis (L s)[i] = false from decide_eq_false (by omega)]; rfl
      · rw [if_neg (by omega)]
        by_cases h2 : 126 < (L s)[i].toNat
        · rw [if_pos (by omega), show vis (L s)[i] = false from decide_eq_false (by omega)]; rfl
        · rw [if_neg (by omega), show vis (L s)[i] = true from decide_eq_true (by omega), Bool.true_and, wsucc (by omega)]
          exact ih k (i + 1) (by omega) (by omega) (by omega)
    · rw [dhcp_client.l0, if_neg (by omega), List.drop_eq_nil_of_le (by rw [L_len]; omega)]; rfl
theorem rclient_l (s : ByteArray) (hs : s.size ≤ 32) : ∀ (n k i : Nat), s.size - i ≤ n → n < k → i ≤ s.size → ddiref36_isClient.l0 k s (i : Int) = some (((L s).drop i).all vis) := by
  intro n
  induction n with
  | zero =>
    intro k i hn hk hi
    obtain ⟨k, rfl⟩ : ∃ q, k = q + 1 := ⟨k - 1, by omega⟩
    rw [ddiref36_isClient.l0, if_neg (by omega), List.drop_eq_nil_of_le (by rw [L_len]; omega)]; rfl
  | succ n ih =>
    intro k i hn hk hi
    obtain ⟨k, rfl⟩ : ∃ q, k = q + 1 := ⟨k - 1, by omega⟩
    by_cases hlt : i < s.size
    · have hL : i < (L s).length := by rw [L_len]; exact hlt
      rw [ddiref36_isClient.l0, if_pos (by omega), if_pos (by omega), bt_L s i hL, drop_at hL, List.all_cons]
      by_cases h1 : (L s)[i].toNat < 33
      · rw [if_pos (by omega), show vis (L s)[i] = false from decide_eq_false (by omega)]; rfl
      · rw [if_neg (by omega)]
        by_cases h2 : 126 < (L s)[i].toNat
        · rw [if_pos (by omega), show vis (L s)[i] = false from decide_eq_false (by omega)]; rfl
        · rw [if_neg (by omega), show vis (L s)[i] = true from decide_eq_true (by omega), Bool.true_and, wsucc (by omega)]
          exact ih k (i + 1) (by omega) (by omega) (by omega)
    · rw [ddiref36_isClient.l0, if_neg (by omega), List.drop_eq_nil_of_le (by rw [L_len]; omega)]; rfl
theorem client_f (s : ByteArray) (k : Nat) (hk : 100 < k) : dhcp_client.f k s = some (cli s) ∧ ddiref36_isClient.f k s = some (cli s) := by
  obtain ⟨k, rfl⟩ : ∃ q, k = q + 1 := ⟨k - 1, by omega⟩
  unfold dhcp_client.f ddiref36_isClient.f cli
  have he : s.toList = ([] : List UInt8) ↔ s.size = 0 := by rw [toList_L, ← L_len]; exact List.length_eq_zero_iff.symm
  by_cases h0 : s.size = 0
  · rw [if_pos (he.2 h0), if_pos (by omega), dhcp_client.j0, if_pos rfl, ddiref36_isClient.j0, if_pos rfl, decide_eq_false (by omega)]; exact ⟨rfl, rfl⟩
  · rw [if_neg (fun e => h0 (he.1 e)), if_neg (by omega), dhcp_client.j0, ddiref36_isClient.j0]
    by_cases h : s.size ≤ 32
    · rw [decide_eq_false (show ¬ ((s.size : Int) > 32) by omega), if_neg (by decide), if_neg (by decide), decide_eq_true (by omega), Bool.true_and]
      exact ⟨client_l s h s.size k 0 (by omega) (by omega) (by omega), rclient_l s h s.size k 0 (by omega) (by omega) (by omega)⟩
    · rw [decide_eq_true (show (s.size : Int) > 32 by omega), if_pos rfl, if_pos rfl, decide_eq_false (by omega)]; exact ⟨rfl, rfl⟩

theorem ipv4_f (x : S24) (h0 : 0 ≤ x.f2) : dhcp_ipv4.f x.f0 x.f1 x.f2 = some (decide (okA x)) := by
  unfold dhcp_ipv4.f addr_Valid.f
  obtain ⟨b, hi, lo⟩ := x
  simp only at h0 ⊢
  cases b
  · by_cases h1 : hi = 0
    · subst h1
      by_cases h2 : lo ≤ 4294967295
      · have h3 : lo < 4294967296 := by omega
        simp [okA, h2, h3]
      · have h3 : ¬ lo < 4294967296 := by omega
        simp [okA, h2, h3]
    · simp [okA, h1]
  · simp [okA]
def opr (n : Int) : Int := if n = 1 ∨ n = 3 ∨ n = 4 ∨ n = 7 ∨ n = 8 then 1 else if n = 2 ∨ n = 5 ∨ n = 6 then 2 else 0
theorem operation_f (n : Int) (k : Nat) (hk : 1 ≤ k) : dhcp_operation.f k n = some (opr n) := by
  obtain ⟨k, rfl⟩ : ∃ q, k = q + 1 := ⟨k - 1, by omega⟩
  unfold dhcp_operation.f opr
  simp only [dhcp_operation.j0]
  by_cases h1 : n = 1
  · simp [h1]
  by_cases h3 : n = 3
  · simp [h3]
  by_cases h4 : n = 4
  · simp [h4]
  by_cases h7 : n = 7
  · simp [h7]
  by_cases h8 : n = 8
  · simp [h8]
  by_cases h2 : n = 2
  · simp [h2]
  by_cases h5 : n = 5
  · simp [h5]
  by_cases h6 : n = 6
  · simp [h6]
  simp [h1, h2, h3, h4, h5, h6, h7, h8]
theorem opr_zero (n : Int) : opr n = 0 ↔ ¬ (1 ≤ n ∧ n ≤ 8) := by
  unfold opr
  split
  · constructor
    · intro h; cases h
    · intro h; omega
  · split
    · constructor
      · intro h; cases h
      · intro h; omega
    · constructor
      · intro _; omega
      · intro _; rfl

def zeroA (x : S24) : Prop := x.f0 = false ∧ x.f1 = 0 ∧ x.f2 = 0
instance (x : S24) : Decidable (zeroA x) := inferInstanceAs (Decidable (_ ∧ _ ∧ _))
/-- a message but for its options -/
def vhd (a0 a1 a2 : Int) (a3 : ByteArray) (x y z : S24) (a13 : Bool) : Bool :=
  decide ((1 ≤ a0 ∧ a0 ≤ 8) ∧ (0 ≤ a1 ∧ a1 < 4294967296) ∧ (0 ≤ a2 ∧ a2 < 65536) ∧ cli a3 = true ∧ okA x ∧ okA y ∧ okA z ∧ (a13 = true ∨ zeroA z))
def vpk (a0 a1 a2 : Int) (a3 : ByteArray) (x y z : S24) (a13 : Bool) (l : List S61) : Bool := vhd a0 a1 a2 a3 x y z a13 && decide (vld (ab l))
theorem ne_zeroA (x : S24) : (x.f0 || (!(x.f1 == 0) || (!(x.f2 == 0)))) = !decide (zeroA x) := by
  obtain ⟨b, h, l⟩ := x
  cases b
  · by_cases h1 : h = 0
    · by_cases h2 : l = 0
      · subst h1; subst h2; rfl
      · subst h1; simp [zeroA, h2]
    · simp [zeroA, h1]
  · simp [zeroA]
theorem vhd_false {a0 a1 a2 : Int} {a3 : ByteArray} {x y z : S24} {a13 : Bool} {l : List S61} (h : ¬ ((1 ≤ a0 ∧ a0 ≤ 8) ∧ (0 ≤ a1 ∧ a1 < 4294967296) ∧ (0 ≤ a2 ∧ a2 < 65536) ∧ cli a3 = true ∧ okA x ∧ okA y ∧ okA z ∧ (a13 = true ∨ zeroA z))) : vpk a0 a1 a2 a3 x y z a13 l = false := by
  unfold vpk vhd; rw [decide_eq_false h]; rfl
theorem vhd_true {a0 a1 a2 : Int} {a3 : ByteArray} {x y z : S24} {a13 : Bool} {l : List S61} (h : (1 ≤ a0 ∧ a0 ≤ 8) ∧ (0 ≤ a1 ∧ a1 < 4294967296) ∧ (0 ≤ a2 ∧ a2 < 65536) ∧ cli a3 = true ∧ okA x ∧ okA y ∧ okA z ∧ (a13 = true ∨ zeroA z)) : vpk a0 a1 a2 a3 x y z a13 l = decide (vld (ab l)) := by
  unfold vpk vhd; rw [decide_eq_true h, Bool.true_and]
theorem dtail (a0 a1 a2 : Int) (a3 : ByteArray) (x y z : S24) (a13 : Bool) (l : List S61) (hx : 0 ≤ x.f2) (hy : 0 ≤ y.f2) (hz : 0 ≤ z.f2) (hl : ∀ o ∈ l, o.f1.size ≤ 140737488351232) (k : Nat) (hk : 100 < k)
    (h0 : 1 ≤ a0 ∧ a0 ≤ 8) (h1 : 0 ≤ a1 ∧ a1 < 4294967296) (h2 : 0 ≤ a2 ∧ a2 < 65536) (hc : cli a3 = true) :
    dhcp_Valid.j0 (k + 1) false a0 a1 a2 a3 x.f0 x.f1 x.f2 y.f0 y.f1 y.f2 z.f0 z.f1 z.f2 a13 l = some (vpk a0 a1 a2 a3 x y z a13 l) := by
  rw [dhcp_Valid.j0, if_neg Bool.false_ne_true, ipv4_f x hx, Option.bind_some]
  by_cases hx' : okA x
  case neg => rw [decide_eq_false hx', if_neg Bool.false_ne_true, vhd_false (fun h => hx' h.2.2.2.2.1)]
  rw [decide_eq_true hx', if_pos rfl, ipv4_f y hy, Option.bind_some]
  by_cases hy' : okA y
  case neg => rw [decide_eq_false hy', if_neg Bool.false_ne_true, vhd_false (fun h => hy' h.2.2.2.2.2.1)]
  rw [decide_eq_true hy', if_pos rfl, ipv4_f z hz, Option.bind_some]
  by_cases hz' : okA z
  case neg => rw [decide_eq_false hz', if_neg Bool.false_ne_true, vhd_false (fun h => hz' h.2.2.2.2.2.2.1)]
  rw [decide_eq_true hz', if_pos rfl, ne_zeroA z, valid_f l hl k hk]
  by_cases h13 : a13 = true
  · rw [if_pos h13]
    rw [vhd_true ⟨h0, h1, h2, hc, hx', hy', hz', .inl h13⟩]
    rfl
  · rw [if_neg h13]
    by_cases hz0 : zeroA z
    · rw [decide_eq_true hz0, Bool.not_true, if_neg Bool.false_ne_true]
      rw [vhd_true ⟨h0, h1, h2, hc, hx', hy', hz', .inr hz0⟩]
      rfl
    · rw [decide_eq_false hz0, Bool.not_false, if_pos rfl, vhd_false (fun h => h.2.2.2.2.2.2.2.elim h13 hz0)]
theorem dj_true (k : Nat) (a0 a1 a2 : Int) (a3 : ByteArray) (b4 : Bool) (a5 a6 : Int) (b7 : Bool) (a8 a9 : Int) (b10 : Bool) (a11 a12 : Int) (a13 : Bool) (l : List S61) :
    dhcp_Valid.j0 (k + 1) true a0 a1 a2 a3 b4 a5 a6 b7 a8 a9 b10 a11 a12 a13 l = some false := by rw [dhcp_Valid.j0, if_pos rfl]
theorem dvalid_f (a0 a1 a2 : Int) (a3 : ByteArray) (x y z : S24) (a13 : Bool) (l : List S61) (hx : 0 ≤ x.f2) (hy : 0 ≤ y.f2) (hz : 0 ≤ z.f2) (hl : ∀ o ∈ l, o.f1.size ≤ 140737488351232) (k : Nat) (hk : 200 < k) :
    dhcp_Valid.f k a0 a1 a2 a3 x.f0 x.f1 x.f2 y.f0 y.f1 y.f2 z.f0 z.f1 z.f2 a13 l = some (vpk a0 a1 a2 a3 x y z a13 l) := by
  obtain ⟨k, rfl⟩ : ∃ q, k = q + 1 := ⟨k - 1, by omega⟩
  unfold dhcp_Valid.f
  rw [operation_f a0 (k + 1) (by omega), Option.bind_some, (client_f a3 (k + 1) (by omega)).1, Option.bind_some]
  by_cases h0 : 1 ≤ a0 ∧ a0 ≤ 8
  case neg => rw [if_pos ((opr_zero a0).2 h0), dj_true k, vhd_false (fun h => h0 h.1)]
  rw [if_neg (fun e => (opr_zero a0).1 e h0)]
  by_cases h1 : a1 < 0
  · rw [if_pos h1, dj_true k, vhd_false (fun h => by have := h.2.1; omega)]
  rw [if_neg h1]
  by_cases h2 : a1 ≥ 4294967296
  · rw [if_pos h2, dj_true k, vhd_false (fun h => by have := h.2.1; omega)]
  rw [if_neg h2]
  by_cases h3 : a2 < 0
  · rw [if_pos h3, dj_true k, vhd_false (fun h => by have := h.2.2.1; omega)]
  rw [if_neg h3]
  by_cases h4 : a2 ≥ 65536
  · rw [if_pos (by omega), dj_true k, vhd_false (fun h => by have := h.2.2.1; omega)]
  rw [if_neg (by omega)]
  by_cases hc : cli a3 = true
  · rw [hc]; exact dtail a0 a1 a2 a3 x y z a13 l hx hy hz hl k (by omega) h0 (by omega) (by omega) hc
  · rw [Bool.not_eq_true] at hc
    rw [hc, Bool.not_false, dj_true k, vhd_false (fun h => by rw [hc] at h; cases h.2.2.2.1)]
theorem vpk_parts {a0 a1 a2 : Int} {a3 : ByteArray} {x y z : S24} {a13 : Bool} {l : List S61} (h : vpk a0 a1 a2 a3 x y z a13 l = true) :
    ((1 ≤ a0 ∧ a0 ≤ 8) ∧ (0 ≤ a1 ∧ a1 < 4294967296) ∧ (0 ≤ a2 ∧ a2 < 65536) ∧ cli a3 = true ∧ okA x ∧ okA y ∧ okA z ∧ (a13 = true ∨ zeroA z)) ∧ vld (ab l) := by
  unfold vpk vhd at h
  rw [Bool.and_eq_true] at h
  exact ⟨of_decide_eq_true h.1, of_decide_eq_true h.2⟩
end Go.Proofs.YtcoekgnbncocnaaDoor.PK


namespace Go.Proofs.YtcoekgnbncocnaaDoor.OPT
open Go Go.RowKit Go.Proofs.YtcoekgnbncocnaaDoorW.PrintWords Go.Proofs.YtcoekgnbncocnaaDoor.DN Go.Proofs.YtcoekgnbncocnaaDoor.Pa
set_option linter.unusedVariables false
set_option linter.unusedSimpArgs false

def ptS : List S61 → Int → ByteArray → List S61
  | [], c, v => [⟨c, v⟩]
  | x :: l, c, v => if x.f0 = c then ⟨x.f0, v⟩ :: l else x :: ptS l c v
def putS (l : List S61) (c : Int) (v : ByteArray) : List S61 := if 1 ≤ c ∧ c ≤ 254 then ptS l c v else l
theorem ab_ptS (l : List S61) (c : Int) (v : ByteArray) : ab (ptS l c v) = pt (ab l) c (L v) := by
  induction l with
  | nil => rfl
  | cons x l ih =>
    rw [ptS, ab_cons, pt]
    by_cases h : x.f0 = c
    · rw [if_pos h, if_pos (show (o1 x).1 = c from h), ab_cons]
      simp only [o1, h]
    · rw [if_neg h, if_neg (show ¬ (o1 x).1 = c from h), ab_cons, ih]
theorem ptS_length (l : List S61) (c : Int) (v : ByteArray) : (ptS l c v).length ≤ l.length + 1 := by
  induction l with
  | nil => simp [ptS]
  | cons x l ih => rw [ptS]; split <;> simp <;> omega
theorem put_l (l : List S61) (c : Int) (v : ByteArray) (hl : l.length ≤ 5864062014800) : ∀ (n k i : Nat), l.length - i ≤ n → n < k → i ≤ l.length →
    option_Put.l0 k c v l (l.length : Int) (i : Int) = some (l.take i ++ ptS (l.drop i) c v) := by
  intro n
  induction n with
  | zero =>
    intro k i hn hk hi
    obtain ⟨k, rfl⟩ : ∃ q, k = q + 1 := ⟨k - 1, by omega⟩
    obtain rfl : i = l.length := by omega
    rw [option_Put.l0, if_neg (by omega), if_pos (by omega), List.drop_length, List.take_length]; rfl
  | succ n ih =>
    intro k i hn hk hi
    obtain ⟨k, rfl⟩ : ∃ q, k = q + 1 := ⟨k - 1, by omega⟩
    by_cases hlt : i < l.length
    · rw [option_Put.l0, if_pos (by omega), if_pos (by omega), if_pos (by omega), rd_at hlt, drop_at hlt, ptS]
      by_cases h : l[i].f0 = c
      · rw [if_pos h, if_pos h, Int.toNat_natCast, List.set_eq_take_append_cons_drop, if_pos hlt]
      · rw [if_neg h, if_neg h, wsucc (by omega), ih k (i + 1) (by omega) (by omega) (by omega), List.take_succ_eq_append_getElem hlt, List.append_assoc]; rfl
    · obtain rfl : i = l.length := by omega
      rw [option_Put.l0, if_neg (by omega), if_pos (by omega), List.drop_length, List.take_length]; rfl
theorem put_f (l : List S61) (c : Int) (v : ByteArray) (hl : l.length ≤ 5864062014800) (k : Nat) (hk : l.length < k) : option_Put.f k l c v = some (putS l c v) := by
  unfold option_Put.f
  rw [if_pos (by simp; omega), Option.bind_some, isCode_f, Option.bind_some, List.nil_append]
  unfold putS
  by_cases hc : 1 ≤ c ∧ c ≤ 254
  · rw [if_pos (decide_eq_true hc), if_pos hc]
    have := put_l l c v hl l.length k 0 (by omega) hk (by omega)
    simpa using this
  · rw [if_neg (by rw [decide_eq_false hc]; decide), if_neg hc]
end Go.Proofs.YtcoekgnbncocnaaDoor.OPT


namespace Go.Proofs.YtcoekgnbncocnaaDoor.PK
open Go Go.RowKit Go.Proofs.YtcoekgnbncocnaaDoorW.PrintWords Go.Proofs.YtcoekgnbncocnaaDoorW.PrintLast Go.Proofs.YtcoekgnbncocnaaDoorW.PrintMore Go.Proofs.YtcoekgnbncocnaaDoor.DN Go.Proofs.YtcoekgnbncocnaaDoor.OPT Go.Proofs.YtcoekgnbncocnaaDoor.ADR Go.Proofs.YtcoekgnbncocnaaDoor.Pa
set_option linter.unusedVariables false
set_option linter.unusedSimpArgs false

def numP (s : ByteArray) : Int × Bool := if s.size = 1 ∨ s.size = 2 ∨ s.size = 4 then (((foldN (L s) 0 : Nat) : Int), true) else (0, false)
theorem foldN_lt : ∀ (l : List UInt8) (n : Nat), foldN l n < (n + 1) * 256 ^ l.length
  | [], n => by simp [foldN]
  | c :: l, n => by
    have h := foldN_lt l (n * 256 + c.toNat)
    have hc := c.toNat_lt
    show foldN l (n * 256 + c.toNat) < _
    rw [List.length_cons, Nat.pow_succ]
    refine Nat.lt_of_lt_of_le h ?_
    rw [Nat.mul_comm (256 ^ l.length) 256, ← Nat.mul_assoc]
    exact Nat.mul_le_mul_right _ (by omega)
theorem numP_range (s : ByteArray) : 0 ≤ (numP s).1 ∧ (numP s).1 < 4294967296 := by
  unfold numP
  split
  · rename_i h
    have := foldN_lt (L s) 0
    rw [L_len, Nat.zero_add, Nat.one_mul] at this
    have h2 : (256 : Nat) ^ s.size ≤ 4294967296 := by rcases h with h | h | h <;> rw [h] <;> decide
    dsimp only; omega
  · decide
theorem num_f (s : ByteArray) (k : Nat) (hk : 100 < k) : option_Number.f k s = some (numP s) ∧ ddiref35_Number.f k s = some (numP s) := by
  obtain ⟨k, rfl⟩ : ∃ q, k = q + 1 := ⟨k - 1, by omega⟩
  unfold numP
  by_cases h : s.size = 1 ∨ s.size = 2 ∨ s.size = 4
  · rw [if_pos h]
    have hp : (0 + 1) * 256 ^ (s.size - 0) ≤ 4294967296 := by rcases h with h | h | h <;> rw [h] <;> decide
    have h0 : (1 : Nat) ≤ s.size ∧ s.size ≤ 4 := by omega
    have a := num_l s h0.2 s.size (k + 1) 0 0 (by omega) (by omega) (by omega) hp
    have b := num_l s h0.2 s.size k 0 0 (by omega) (by omega) (by omega) hp
    refine ⟨?_, ?_⟩
    · unfold option_Number.f
      rw [isSize_f, Option.bind_some, if_pos (decide_eq_true (by omega))]
      exact a.1
    · unfold ddiref35_Number.f
      rcases h with h | h | h
      · rw [if_pos (by omega), ddiref35_Number.j0, if_neg (by decide)]; exact b.2
      · rw [if_neg (by omega), if_pos (by omega), ddiref35_Number.j0, if_neg (by decide)]; exact b.2
      · rw [if_neg (by omega), if_neg (by omega), ddiref35_Number.j0, if_neg (by rw [h]; decide)]; exact b.2
  · rw [if_neg h]
    refine ⟨?_, ?_⟩
    · unfold option_Number.f
      rw [isSize_f, Option.bind_some, if_neg (by rw [decide_eq_false (by omega)]; decide)]
    · unfold ddiref35_Number.f
      rw [if_neg (by omega), if_neg (by omega), ddiref35_Number.j0, if_pos (by simp; omega)]
theorem and7 (n : Int) (h0 : -9223372036854775808 ≤ n) (h1 : n ≤ 9223372036854775807) : Go.bits .and .i64 n 7 = n % 8 := by
  have h2 : (BitVec.ofInt 64 (7 : Int)).toNat = 7 := by decide
  have h3 : (BitVec.ofInt 64 n).toNat = (n % 18446744073709551616).toNat := by rw [BitVec.toNat_ofInt]; rfl
  show IntKind.i64.wrap ((BitVec.ofInt 64 n &&& BitVec.ofInt 64 (7 : Int)).toNat : Int) = _
  rw [BitVec.toNat_and, h2, h3, show (7 : Nat) = 2 ^ 3 - 1 from rfl, Nat.and_two_pow_sub_one_eq_mod, i64_w, wrap_id (by omega) (by omega)]
  omega
theorem most_f (n : Int) (h0 : -9223372036854775808 ≤ n) (h1 : n ≤ 9223372036854775807) : dhcp_most.f n = some (n * 7 / 8) := by
  unfold dhcp_most.f
  rw [and7 n h0 h1, wrap_id (x := n / 8 * 7) (by omega) (by omega), wrap_id (x := n % 8 * 7) (by omega) (by omega), wrap_id (by omega) (by omega)]
  congr 1; omega
theorem half_f (n : Int) : dhcp_half.f n = some (n / 2) := rfl

def timeP (l : List S61) (c o : Int) : Int × Bool := if (fndA (ab l) c).2 = true then numP (fndA (ab l) c).1 else (o, true)
theorem span_f (a0 a1 a2 : Int) (a3 : ByteArray) (a4 : Bool) (a5 a6 : Int) (a7 : Bool) (a8 a9 : Int) (a10 : Bool) (a11 a12 : Int) (a13 : Bool) (l : List S61) (c o : Int) (hl : l.length ≤ 5864062014800) (k : Nat) (hk : 100 < k) (hk2 : l.length < k) :
    dhcp_span.f k a0 a1 a2 a3 a4 a5 a6 a7 a8 a9 a10 a11 a12 a13 l c o = some (timeP l c o) := by
  unfold dhcp_span.f timeP
  rw [find_f l c hl k hk2, Option.bind_some]
  by_cases h : (fndA (ab l) c).2 = true
  · rw [if_pos h, if_pos h, (num_f _ k hk).1]; rfl
  · rw [if_neg h, if_neg h]
def leaseT (n : Int) (t1 t2 : Int × Bool) : Int × Int × Int × Bool :=
  if t1.2 = true then (if t2.2 = true then (if t2.1 < t1.1 then (0, 0, 0, false) else if n < t2.1 then (0, 0, 0, false) else (n, t1.1, t2.1, true)) else (0, 0, 0, false)) else (0, 0, 0, false)
def leaseP (l : List S61) : Int × Int × Int × Bool :=
  if (fndA (ab l) 51).2 = true then (if (numP (fndA (ab l) 51).1).2 = true then leaseT (numP (fndA (ab l) 51).1).1 (timeP l 58 ((numP (fndA (ab l) 51).1).1 / 2)) (timeP l 59 ((numP (fndA (ab l) 51).1).1 * 7 / 8)) else (0, 0, 0, false)) else (0, 0, 0, false)
theorem lease_end (n : Int) (t1 t2 : Int × Bool) : (if t1.2 = true then (if t2.2 = true then (if t1.1 > t2.1 then some ((0 : Int), (0 : Int), (0 : Int), false) else (if t2.1 > n then some (0, 0, 0, false) else some (n, t1.1, t2.1, true))) else some (0, 0, 0, false)) else some (0, 0, 0, false)) = some (leaseT n t1 t2) := by
  unfold leaseT
  by_cases h3 : t1.2 = true
  case neg => rw [if_neg h3, if_neg h3]
  rw [if_pos h3, if_pos h3]
  by_cases h4 : t2.2 = true
  case neg => rw [if_neg h4, if_neg h4]
  rw [if_pos h4, if_pos h4]
  by_cases h5 : t2.1 < t1.1
  · rw [if_pos h5, if_pos h5]
  rw [if_neg h5, if_neg h5]
  by_cases h6 : n < t2.1
  · rw [if_pos h6, if_pos h6]
  rw [if_neg h6, if_neg h6]
theorem lease_f (a0 a1 a2 : Int) (a3 : ByteArray) (a4 : Bool) (a5 a6 : Int) (a7 : Bool) (a8 a9 : Int) (a10 : Bool) (a11 a12 : Int) (a13 : Bool) (l : List S61) (hl : l.length ≤ 5864062014800) (k : Nat) (hk : 100 < k) (hk2 : l.length < k) :
    dhcp_Lease.f k a0 a1 a2 a3 a4 a5 a6 a7 a8 a9 a10 a11 a12 a13 l = some (leaseP l) := by
  unfold dhcp_Lease.f leaseP
  rw [find_f l 51 hl k hk2, Option.bind_some]
  by_cases h : (fndA (ab l) 51).2 = true
  case neg => rw [if_neg h, if_neg h]
  rw [if_pos h, if_pos h, (num_f _ k hk).1, Option.bind_some]
  by_cases h2 : (numP (fndA (ab l) 51).1).2 = true
  case neg => rw [if_neg h2, if_neg h2]
  have hr := numP_range (fndA (ab l) 51).1
  rw [if_pos h2, if_pos h2, half_f, Option.bind_some, span_f _ _ _ _ _ _ _ _ _ _ _ _ _ _ l 58 _ hl k hk hk2, Option.bind_some, most_f _ (by omega) (by omega), Option.bind_some, span_f _ _ _ _ _ _ _ _ _ _ _ _ _ _ l 59 _ hl k hk hk2, Option.bind_some]
  exact lease_end _ _ _
end Go.Proofs.YtcoekgnbncocnaaDoor.PK


namespace Go.Proofs.YtcoekgnbncocnaaDoor.PK
open Go Go.RowKit Go.Proofs.YtcoekgnbncocnaaDoorW.PrintWords Go.Proofs.YtcoekgnbncocnaaDoorW.PrintLast Go.Proofs.YtcoekgnbncocnaaDoorW.PrintMore Go.Proofs.YtcoekgnbncocnaaDoor.DN Go.Proofs.YtcoekgnbncocnaaDoor.OPT Go.Proofs.YtcoekgnbncocnaaDoor.ADR Go.Proofs.YtcoekgnbncocnaaDoor.Pa
set_option linter.unusedVariables false
set_option linter.unusedSimpArgs false

def bytP (n : Int) : ByteArray × Bool := if 0 ≤ n ∧ n < 4294967296 then (B (word n), true) else (⟨#[]⟩, false)
theorem bytes4_f (n : Int) (k : Nat) (hk : 40 ≤ k) : option_Bytes.f k n 4 = some (bytP n) := by
  refine up (fun k => option_Bytes.mono _ _ k) hk ?_
  unfold bytP
  have hs4 : shl .i64 1 (IntKind.u64.wrap (wrap64 (8 * 4))) = 4294967296 := by decide +kernel
  unfold option_Bytes.f
  rw [isSize_f, Option.bind_some, if_pos (by decide)]
  by_cases hn : n < 0
  · rw [if_pos hn, if_neg (by omega)]; rfl
  · rw [if_neg hn, if_pos (by decide +kernel), hs4]
    by_cases hb : n < 4294967296
    · rw [decide_eq_false (by omega), if_pos (by omega)]
      have : option_Bytes.j0 40 n 4 false = some (strOfNums [n / 16777216 % 256, n / 65536 % 256, n / 256 % 256, n / 1 % 256], true) := by kernel_rfl
      rw [this, Int.ediv_one]; rfl
    · rw [decide_eq_true (by omega), if_neg (by omega)]; rfl
theorem num_word {n : Int} (h0 : 0 ≤ n) (h1 : n < 4294967296) : numP (B (word n)) = (n, true) := by
  unfold numP
  rw [if_pos (by rw [B_size]; exact .inr (.inr rfl)), L_B]
  refine Prod.ext ?_ rfl
  have := word_val h0 (by omega)
  rw [← this]
  show ((foldN (word _) 0 : Nat) : Int) = _
  rw [this]
  refine Eq.trans ?_ this
  unfold word foldN val4
  simp
def gf : List S61 → List S61 → List S61
  | acc, [] => acc
  | acc, o :: m => gf (if (fndA (ab acc) o.f0).2 = true then acc else putS acc o.f0 o.f1) m
def msk (bits : Int) : ByteArray := strOfNums [((shl .u32 4294967295 (wrap64 (32 - bits))) / 16777216) % 256, ((shl .u32 4294967295 (wrap64 (32 - bits))) / 65536) % 256, ((shl .u32 4294967295 (wrap64 (32 - bits))) / 256) % 256, (shl .u32 4294967295 (wrap64 (32 - bits))) % 256]
def g1 (acc : List S61) (bits : Int) : List S61 := if (fndA (ab acc) 1).2 = true then acc else if 0 ≤ bits ∧ bits ≤ 32 then putS acc 1 (msk bits) else acc
def g2 (acc : List S61) (c n : Int) : List S61 := if (bytP n).2 = true then putS acc c (bytP n).1 else acc
def g3 (acc : List S61) (t : Int) : List S61 := g2 (g2 (g2 acc 51 t) 58 (t / 2)) 59 (t * 7 / 8)
def grantO (l m : List S61) (bits t : Int) : List S61 := g3 (g1 (gf l m) bits) t
theorem putS_length (l : List S61) (c : Int) (v : ByteArray) : (putS l c v).length ≤ l.length + 1 := by
  unfold putS; split
  · exact ptS_length l c v
  · omega
theorem g2_length (l : List S61) (c n : Int) : (g2 l c n).length ≤ l.length + 1 := by
  unfold g2; split
  · exact putS_length ..
  · omega
theorem g1_length (l : List S61) (b : Int) : (g1 l b).length ≤ l.length + 1 := by
  unfold g1; split
  · omega
  · split
    · exact putS_length ..
    · omega
theorem gf_length : ∀ (m acc : List S61), (gf acc m).length ≤ acc.length + m.length
  | [], acc => by simp [gf]
  | o :: m, acc => by
    rw [gf, List.length_cons]
    have := gf_length m (if (fndA (ab acc) o.f0).2 = true then acc else putS acc o.f0 o.f1)
    split at this
    · rw [if_pos (by assumption)]; omega
    · have h2 := putS_length acc o.f0 o.f1
      rw [if_neg (by assumption)]; omega
section
variable (a0 a1 a2 : Int) (a3 : ByteArray) (a4 : Bool) (a5 a6 : Int) (a7 : Bool) (a8 a9 : Int) (a10 : Bool) (a11 a12 : Int) (a13 : Bool) (l : List S61) (b0 : Bool) (b1 b2 : Int) (c0 : Bool) (c1 c2 c3 : Int) (c4 : ByteArray) (m5 : List S139) (m6 : List S141) (m : List S61) (t : Int)
theorem grant_l1 (acc : List S61) (ha : acc.length ≤ 100000) (k : Nat) (hk : 200000 < k) :
    dhcp_Grant.l1 (k + 4) acc [51, 58, 59] [t, t / 2, t * 7 / 8] 3 0 a0 a1 a2 a3 a4 a5 a6 a7 a8 a9 a10 a11 a12 a13 l b0 b1 b2 = some (a0, a1, a2, a3, a4, a5, a6, b0, b1, b2, a10, a11, a12, a13, g3 acc t) := by
  have step : ∀ (j : Nat) (acc : List S61) (i c n : Int), acc.length ≤ 100003 → 200000 < j → 0 ≤ i → i < 3 → rd [t, t / 2, t * 7 / 8] i = n → rd [51, 58, 59] i = c →
      dhcp_Grant.l1 (j + 1) acc [51, 58, 59] [t, t / 2, t * 7 / 8] 3 i a0 a1 a2 a3 a4 a5 a6 a7 a8 a9 a10 a11 a12 a13 l b0 b1 b2 = dhcp_Grant.l1 j (g2 acc c n) [51, 58, 59] [t, t / 2, t * 7 / 8] 3 (i + 1) a0 a1 a2 a3 a4 a5 a6 a7 a8 a9 a10 a11 a12 a13 l b0 b1 b2 := by
    intro j acc i c n hacc hj h0 h1 hn hc
    rw [dhcp_Grant.l1, if_pos h1, if_pos h0, if_pos (by simp only [List.length_cons, List.length_nil]; omega), hn, bytes4_f n j (by omega), Option.bind_some, wrap_id (x := i + 1) (by omega) (by omega)]
    unfold g2
    by_cases h : (bytP n).2 = true
    · rw [if_pos h, if_pos h, if_pos (by simp only [List.length_cons, List.length_nil]; omega), hc, put_f acc c _ (by omega) j (by omega), Option.bind_some]
    · rw [if_neg h, if_neg h]
  have l1 := g2_length acc 51 t
  have l2 := g2_length (g2 acc 51 t) 58 (t / 2)
  rw [step (k + 3) acc 0 51 t (by omega) (by omega) (by decide) (by decide) rfl rfl, step (k + 2) (g2 acc 51 t) (0 + 1) 58 (t / 2) (by omega) (by omega) (by decide) (by decide) rfl rfl,
    step (k + 1) (g2 (g2 acc 51 t) 58 (t / 2)) (0 + 1 + 1) 59 (t * 7 / 8) (by omega) (by omega) (by decide) (by decide) rfl rfl, dhcp_Grant.l1, if_neg (by decide)]
  rfl
theorem grant_j2 (acc : List S61) (ha : acc.length ≤ 100000) (k : Nat) (hk : 200000 < k) (ht0 : -9223372036854775808 ≤ t) (ht1 : t ≤ 9223372036854775807) :
    dhcp_Grant.j2 (k + 5) acc a0 a1 a2 a3 a4 a5 a6 a7 a8 a9 a10 a11 a12 a13 l b0 b1 b2 c0 c1 c2 c3 c4 m5 m6 m t = some (a0, a1, a2, a3, a4, a5, a6, b0, b1, b2, a10, a11, a12, a13, g3 acc t) := by
  rw [dhcp_Grant.j2, half_f, Option.bind_some, most_f t ht0 ht1, Option.bind_some, Option.bind_some]
  exact grant_l1 a0 a1 a2 a3 a4 a5 a6 a7 a8 a9 a10 a11 a12 a13 l b0 b1 b2 t acc ha k hk
theorem grant_j1 (acc : List S61) (ha : acc.length ≤ 99999) (k : Nat) (hk : 200000 < k) (ht0 : -9223372036854775808 ≤ t) (ht1 : t ≤ 9223372036854775807) (b : Bool) (hb : b = true → 0 ≤ c3 ∧ c3 ≤ 32) :
    dhcp_Grant.j1 (k + 6) acc c3 b a0 a1 a2 a3 a4 a5 a6 a7 a8 a9 a10 a11 a12 a13 l b0 b1 b2 c0 c1 c2 c3 c4 m5 m6 m t = some (a0, a1, a2, a3, a4, a5, a6, b0, b1, b2, a10, a11, a12, a13, g3 (if b = true then putS acc 1 (msk c3) else acc) t) := by
  rw [dhcp_Grant.j1]
  by_cases h : b = true
  · have hb2 := hb h
    have hp := putS_length acc 1 (msk c3)
    rw [if_pos h, if_pos h, if_pos (by rw [wrap_id (by omega) (by omega)]; omega), put_f acc 1 _ (by omega) (k + 5) (by omega), Option.bind_some]
    exact grant_j2 a0 a1 a2 a3 a4 a5 a6 a7 a8 a9 a10 a11 a12 a13 l b0 b1 b2 c0 c1 c2 c3 c4 m5 m6 m t (putS acc 1 (msk c3)) (by omega) k hk ht0 ht1
  · rw [if_neg h, if_neg h]
    exact grant_j2 a0 a1 a2 a3 a4 a5 a6 a7 a8 a9 a10 a11 a12 a13 l b0 b1 b2 c0 c1 c2 c3 c4 m5 m6 m t acc (by omega) k hk ht0 ht1
theorem grant_end (acc : List S61) (ha : acc.length ≤ 99999) (k : Nat) (hk : 200000 < k) (ht0 : -9223372036854775808 ≤ t) (ht1 : t ≤ 9223372036854775807) (i : Int) (hi : ¬ i < (m.length : Int)) :
    dhcp_Grant.l0 (k + 7) acc m (m.length : Int) i a0 a1 a2 a3 a4 a5 a6 a7 a8 a9 a10 a11 a12 a13 l b0 b1 b2 c0 c1 c2 c3 c4 m5 m6 m t = some (a0, a1, a2, a3, a4, a5, a6, b0, b1, b2, a10, a11, a12, a13, g3 (g1 acc c3) t) := by
  rw [dhcp_Grant.l0, if_neg hi, find_f acc 1 (by omega) (k + 6) (by omega), Option.bind_some]
  have J := fun b hb => grant_j1 a0 a1 a2 a3 a4 a5 a6 a7 a8 a9 a10 a11 a12 a13 l b0 b1 b2 c0 c1 c2 c3 c4 m5 m6 m t acc ha k hk ht0 ht1 b hb
  unfold g1
  by_cases h : (fndA (ab acc) 1).2 = true
  · rw [if_pos h, if_pos h, J false (fun e => by cases e), if_neg Bool.false_ne_true]
  · rw [if_neg h, if_neg h]
    by_cases h2 : c3 ≥ 0
    · rw [if_pos h2, J _ (fun e => ⟨h2, of_decide_eq_true e⟩)]
      by_cases h3 : c3 ≤ 32
      · rw [decide_eq_true h3, if_pos rfl, if_pos ⟨h2, h3⟩]
      · rw [decide_eq_false h3, if_neg Bool.false_ne_true, if_neg (fun e => h3 e.2)]
    · rw [if_neg h2, J false (fun e => by cases e), if_neg Bool.false_ne_true, if_neg (fun e => h2 e.1)]
theorem grant_l (hm : m.length ≤ 1000) (ht0 : -9223372036854775808 ≤ t) (ht1 : t ≤ 9223372036854775807) : ∀ (n k i : Nat) (acc : List S61), m.length - i ≤ n → 200008 + n < k → i ≤ m.length → acc.length + (m.length - i) ≤ 99999 →
    dhcp_Grant.l0 k acc m (m.length : Int) (i : Int) a0 a1 a2 a3 a4 a5 a6 a7 a8 a9 a10 a11 a12 a13 l b0 b1 b2 c0 c1 c2 c3 c4 m5 m6 m t = some (a0, a1, a2, a3, a4, a5, a6, b0, b1, b2, a10, a11, a12, a13, g3 (g1 (gf acc (m.drop i)) c3) t) := by
  intro n
  induction n with
  | zero =>
    intro k i acc hn hk hi ha
    obtain ⟨k, rfl⟩ : ∃ q, k = q + 7 := ⟨k - 7, by omega⟩
    rw [List.drop_eq_nil_of_le (by omega), gf]
    exact grant_end a0 a1 a2 a3 a4 a5 a6 a7 a8 a9 a10 a11 a12 a13 l b0 b1 b2 c0 c1 c2 c3 c4 m5 m6 m t acc (by omega) k (by omega) ht0 ht1 (i : Int) (by omega)
  | succ n ih =>
    intro k i acc hn hk hi ha
    by_cases hlt : i < m.length
    · obtain ⟨k, rfl⟩ : ∃ q, k = q + 1 := ⟨k - 1, by omega⟩
      rw [dhcp_Grant.l0, if_pos (by omega), if_pos (by omega), if_pos (by omega), rd_at hlt, find_f acc _ (by omega) k (by omega), Option.bind_some, drop_at hlt, gf, wsucc (by omega)]
      by_cases h : (fndA (ab acc) m[i].f0).2 = true
      · rw [if_pos h, if_pos h]
        exact ih k (i + 1) acc (by omega) (by omega) (by omega) (by omega)
      · have hp := putS_length acc m[i].f0 m[i].f1
        rw [if_neg h, if_neg h, put_f acc _ _ (by omega) k (by omega), Option.bind_some]
        exact ih k (i + 1) _ (by omega) (by omega) (by omega) (by omega)
    · obtain ⟨k, rfl⟩ : ∃ q, k = q + 7 := ⟨k - 7, by omega⟩
      rw [List.drop_eq_nil_of_le (by omega), gf]
      exact grant_end a0 a1 a2 a3 a4 a5 a6 a7 a8 a9 a10 a11 a12 a13 l b0 b1 b2 c0 c1 c2 c3 c4 m5 m6 m t acc (by omega) k (by omega) ht0 ht1 (i : Int) (by omega)
theorem grant_f (hl : l.length ≤ 1000) (hm : m.length ≤ 1000) (ht0 : -9223372036854775808 ≤ t) (ht1 : t ≤ 9223372036854775807) (k : Nat) (hk : 202000 < k) :
    dhcp_Grant.f k a0 a1 a2 a3 a4 a5 a6 a7 a8 a9 a10 a11 a12 a13 l b0 b1 b2 c0 c1 c2 c3 c4 m5 m6 m t = some (a0, a1, a2, a3, a4, a5, a6, b0, b1, b2, a10, a11, a12, a13, grantO l m c3 t) := by
  unfold dhcp_Grant.f grantO
  rw [if_pos (by simp; omega), List.nil_append]
  have := grant_l a0 a1 a2 a3 a4 a5 a6 a7 a8 a9 a10 a11 a12 a13 l b0 b1 b2 c0 c1 c2 c3 c4 m5 m6 m t hm ht0 ht1 m.length k 0 l (by omega) (by omega) (by omega) (by omega)
  simpa using this
end
theorem fnd_putS (l : List S61) {c : Int} (v : ByteArray) (h : 1 ≤ c ∧ c ≤ 254) : fndA (ab (putS l c v)) c = (v, true) := by
  unfold putS fndA
  rw [if_pos h, ab_ptS, fnd_pt_same]
  show (B (L v), true) = _
  rw [B_L]
theorem fnd_putS_other (l : List S61) {c d : Int} (v : ByteArray) (h : d ≠ c) : fndA (ab (putS l c v)) d = fndA (ab l) d := by
  unfold putS
  split
  · unfold fndA; rw [ab_ptS, fnd_pt_other _ _ _ _ h]
  · rfl
theorem g2_other (l : List S61) {c d n : Int} (h : d ≠ c) : fndA (ab (g2 l c n)) d = fndA (ab l) d := by
  unfold g2; split
  · exact fnd_putS_other l _ h
  · rfl
theorem g2_same (l : List S61) {c n : Int} (h : 1 ≤ c ∧ c ≤ 254) (h0 : 0 ≤ n) (h1 : n < 4294967296) : fndA (ab (g2 l c n)) c = (B (word n), true) := by
  have : bytP n = (B (word n), true) := if_pos ⟨h0, h1⟩
  unfold g2
  rw [this, if_pos rfl]
  exact fnd_putS l _ h
theorem g1_keep {l : List S61} {c : Int} (b : Int) (h : (fndA (ab l) c).2 = true) : fndA (ab (g1 l b)) c = fndA (ab l) c := by
  unfold g1
  by_cases h1 : (fndA (ab l) 1).2 = true
  · rw [if_pos h1]
  · rw [if_neg h1]
    split
    · exact fnd_putS_other l _ (fun e => by subst e; exact h1 h)
    · rfl
theorem gf_keep : ∀ (m : List S61) {l : List S61} {c : Int}, (fndA (ab l) c).2 = true → fndA (ab (gf l m)) c = fndA (ab l) c
  | [], _, _, _ => rfl
  | o :: m, l, c, h => by
    rw [gf]
    by_cases h1 : (fndA (ab l) o.f0).2 = true
    · rw [if_pos h1]; exact gf_keep m h
    · rw [if_neg h1]
      have h2 : fndA (ab (putS l o.f0 o.f1)) c = fndA (ab l) c := fnd_putS_other l _ (fun e => by subst e; exact h1 h)
      rw [gf_keep m (by rw [h2]; exact h), h2]
theorem grantO_keep {l : List S61} {c : Int} (m : List S61) (b t : Int) (h : (fndA (ab l) c).2 = true) (h51 : c ≠ 51) (h58 : c ≠ 58) (h59 : c ≠ 59) : fndA (ab (grantO l m b t)) c = fndA (ab l) c := by
  have hg := gf_keep m h
  unfold grantO g3
  rw [g2_other _ h59, g2_other _ h58, g2_other _ h51, g1_keep b (by rw [hg]; exact h), hg]
theorem grantO_lease (l m : List S61) (b : Int) {t : Int} (h0 : 1 ≤ t) (h1 : t ≤ 1073741824) : leaseP (grantO l m b t) = (t, t / 2, t * 7 / 8, true) := by
  unfold grantO g3
  generalize g1 (gf l m) b = a
  have f51 : fndA (ab (g2 (g2 (g2 a 51 t) 58 (t / 2)) 59 (t * 7 / 8))) 51 = (B (word t), true) := by
    rw [g2_other _ (by decide), g2_other _ (by decide), g2_same a (by decide) (by omega) (by omega)]
  have f58 : fndA (ab (g2 (g2 (g2 a 51 t) 58 (t / 2)) 59 (t * 7 / 8))) 58 = (B (word (t / 2)), true) := by
    rw [g2_other _ (by decide), g2_same _ (by decide) (by omega) (by omega)]
  have f59 : fndA (ab (g2 (g2 (g2 a 51 t) 58 (t / 2)) 59 (t * 7 / 8))) 59 = (B (word (t * 7 / 8)), true) := by
    rw [g2_same _ (by decide) (by omega) (by omega)]
  unfold leaseP timeP
  rw [f51, f58, f59]
  dsimp only
  rw [num_word (by omega) (by omega), num_word (n := t / 2) (by omega) (by omega), num_word (n := t * 7 / 8) (by omega) (by omega)]
  dsimp only
  rw [if_pos rfl, if_pos rfl, if_pos rfl, if_pos rfl]
  unfold leaseT
  dsimp only
  rw [if_pos rfl, if_pos rfl, if_neg (by omega), if_neg (by omega)]
def small (M : Nat) (l : List S61) : Prop := ∀ o ∈ l, o.f1.size ≤ M
theorem small_pt {M : Nat} {v : ByteArray} (hv : v.size ≤ M) (c : Int) : ∀ {l : List S61}, small M l → small M (ptS l c v)
  | [], _ => by intro o ho; rw [ptS, List.mem_singleton] at ho; rw [ho]; exact hv
  | x :: l, h => by
    rw [ptS]
    split
    · intro o ho
      rcases List.mem_cons.1 ho with rfl | ho
      · exact hv
      · exact h o (List.mem_cons_of_mem _ ho)
    · intro o ho
      rcases List.mem_cons.1 ho with rfl | ho
      · exact h _ (List.mem_cons_self ..)
      · exact small_pt hv c (fun o ho => h o (List.mem_cons_of_mem _ ho)) o ho
theorem small_put {M : Nat} {l : List S61} {v : ByteArray} (hv : v.size ≤ M) (c : Int) (h : small M l) : small M (putS l c v) := by
  unfold putS; split
  · exact small_pt hv c h
  · exact h
theorem small_g2 {M : Nat} (hM : 4 ≤ M) {l : List S61} (c n : Int) (h : small M l) : small M (g2 l c n) := by
  unfold g2; split
  · refine small_put ?_ c h
    unfold bytP; split
    · rw [B_size]; exact hM
    · exact Nat.zero_le _
  · exact h
theorem small_gf {M : Nat} : ∀ {m l : List S61}, small M m → small M l → small M (gf l m)
  | [], _, _, h => h
  | o :: m, l, hm, h => by
    rw [gf]
    refine small_gf (fun x hx => hm x (List.mem_cons_of_mem _ hx)) ?_
    split
    · exact h
    · exact small_put (hm o (List.mem_cons_self ..)) _ h
theorem small_grantO {M : Nat} (hM : 4 ≤ M) {l m : List S61} (b t : Int) (hl : small M l) (hm : small M m) : small M (grantO l m b t) := by
  unfold grantO g3
  refine small_g2 hM _ _ (small_g2 hM _ _ (small_g2 hM _ _ ?_))
  unfold g1
  split
  · exact small_gf hm hl
  · split
    · refine small_put ?_ _ (small_gf hm hl)
      unfold msk; rw [nums_size]; exact hM
    · exact small_gf hm hl
end Go.Proofs.YtcoekgnbncocnaaDoor.PK


namespace Go.Proofs.YtcoekgnbncocnaaDoor.PK
open Go Go.RowKit Go.Proofs.YtcoekgnbncocnaaDoorW.PrintWords Go.Proofs.YtcoekgnbncocnaaDoorW.PrintLast Go.Proofs.YtcoekgnbncocnaaDoorW.PrintMore Go.Proofs.YtcoekgnbncocnaaDoor.DN Go.Proofs.YtcoekgnbncocnaaDoor.OPT Go.Proofs.YtcoekgnbncocnaaDoor.ADR Go.Proofs.YtcoekgnbncocnaaDoor.Pa
set_option linter.unusedVariables false
set_option linter.unusedSimpArgs false

def cutO (x : S61) : S61 := ⟨x.f0, x.f1.extract 0 (min x.f1.size 1100)⟩
def shl (l : List S61) : List S61 := (l.take 40).map cutO
theorem mn_nat (a b : Nat) : mn (a : Int) (b : Int) = ((min a b : Nat) : Int) := by unfold mn; split <;> omega
theorem mn_1100 (a : Nat) : mn (a : Int) 1100 = ((min a 1100 : Nat) : Int) := mn_nat a 1100
theorem mn_100 (a : Nat) : mn (a : Int) 100 = ((min a 100 : Nat) : Int) := mn_nat a 100
theorem cutO_size (x : S61) : (cutO x).f1.size ≤ 1100 := by
  unfold cutO; simp only [ByteArray.size_extract]; omega
theorem opts_l (l : List S61) (hl : l.length ≤ 5864062014805) : ∀ (n k i : Nat), 40 - i ≤ n → n < k → i ≤ 40 → i ≤ l.length →
    ddiref36_options.l0 k l ((l.take i).map cutO) (i : Int) = some (shl l) := by
  intro n
  induction n with
  | zero =>
    intro k i hn hk hi hil
    obtain ⟨k, rfl⟩ : ∃ q, k = q + 1 := ⟨k - 1, by omega⟩
    obtain rfl : i = 40 := by omega
    rw [ddiref36_options.l0]
    by_cases h : 40 < l.length
    · rw [if_pos (by omega), if_neg (by omega)]; rfl
    · rw [if_neg (by omega)]; rfl
  | succ n ih =>
    intro k i hn hk hi hil
    obtain ⟨k, rfl⟩ : ∃ q, k = q + 1 := ⟨k - 1, by omega⟩
    rw [ddiref36_options.l0]
    by_cases h1 : i < l.length
    · rw [if_pos (by omega)]
      by_cases h2 : i < 40
      · have h3 : ((l.take i).map cutO).length ≤ 40 := by rw [List.length_map, List.length_take]; omega
        rw [if_pos (by omega), if_pos (by omega), rd_at h1, mn_1100, if_pos (by omega), if_pos (by omega), if_pos (by omega), Int.toNat_natCast, wsucc (by omega)]
        have h4 : (l.take (i + 1)).map cutO = (l.take i).map cutO ++ [(⟨l[i].f0, l[i].f1.extract 0 (min l[i].f1.size 1100)⟩ : S61)] := by
          rw [List.take_succ_eq_append_getElem h1, List.map_append]; rfl
        rw [← h4]
        exact ih k (i + 1) (by omega) (by omega) (by omega) (by omega)
      · rw [if_neg (by omega)]
        obtain rfl : i = 40 := by omega
        rfl
    · rw [if_neg (by omega)]
      obtain rfl : i = l.length := by omega
      unfold shl
      rw [List.take_length, List.take_of_length_le hi]
theorem opts_f (l : List S61) (hl : l.length ≤ 5864062014805) (k : Nat) (hk : 100 < k) : ddiref36_options.f k l = some (shl l) := by
  have := opts_l l hl 40 k 0 (by omega) (by omega) (by omega) (by omega)
  simpa [ddiref36_options.f] using this
theorem short_f (a0 a1 a2 : Int) (a3 : ByteArray) (a4 : Bool) (a5 a6 : Int) (a7 : Bool) (a8 a9 : Int) (a10 : Bool) (a11 a12 : Int) (a13 : Bool) (l : List S61) (hl : l.length ≤ 5864062014805) (k : Nat) (hk : 100 < k) :
    ddiref36_Short.f k a0 a1 a2 a3 a4 a5 a6 a7 a8 a9 a10 a11 a12 a13 l = some (a0, a1, a2, a3.extract 0 (min a3.size 100), a4, a5, a6, a7, a8, a9, a10, a11, a12, a13, shl l) := by
  unfold ddiref36_Short.f
  rw [mn_100, if_pos (by omega), if_pos (by omega), opts_f l hl k hk, Option.bind_some, Int.toNat_natCast]
theorem shl_length (l : List S61) : (shl l).length ≤ 40 := by unfold shl; rw [List.length_map, List.length_take]; omega
theorem shl_size (l : List S61) : ∀ x ∈ shl l, x.f1.size ≤ 1100 := by
  intro x hx
  obtain ⟨y, _, rfl⟩ := List.mem_map.1 hx
  exact cutO_size y
theorem cut_size (s : ByteArray) : (s.extract 0 (min s.size 100)).size ≤ 100 := by rw [ByteArray.size_extract]; omega

end Go.Proofs.YtcoekgnbncocnaaDoor.PK


namespace Go.Proofs.YtcoekgnbncocnaaDoor.PK
open Go Go.RowKit Go.Proofs.YtcoekgnbncocnaaDoorW.PrintWords Go.Proofs.YtcoekgnbncocnaaDoorW.PrintLast Go.Proofs.YtcoekgnbncocnaaDoorW.PrintMore Go.Proofs.YtcoekgnbncocnaaDoor.DN Go.Proofs.YtcoekgnbncocnaaDoor.OPT Go.Proofs.YtcoekgnbncocnaaDoor.ADR Go.Proofs.YtcoekgnbncocnaaDoor.Pa
set_option linter.unusedVariables false
set_option linter.unusedSimpArgs false
theorem awake36_f (k : Nat) (hk : 100 ≤ k) : ddilaw36_awake.f k = some true := by
  refine up (fun k => ddilaw36_awake.mono k) hk ?_
  kernel_rfl
theorem wf_u64 {n : Int} (h : (Lit.int .u64 n).wf = true) : 0 ≤ n ∧ n ≤ 18446744073709551615 := by
  have e1 : IntKind.u64.min = 0 := rfl
  have e2 : IntKind.u64.max = 18446744073709551615 := rfl
  simp [Lit.wf, e1, e2] at h
  exact h
theorem wf_i64 {n : Int} (h : (Lit.int .i64 n).wf = true) : -9223372036854775808 ≤ n ∧ n ≤ 9223372036854775807 := by
  have e1 : IntKind.i64.min = -9223372036854775808 := rfl
  have e2 : IntKind.i64.max = 9223372036854775807 := rfl
  simp [Lit.wf, e1, e2] at h
  exact h
theorem wf_u32 {n : Int} (h : (Lit.int .u32 n).wf = true) : 0 ≤ n ∧ n ≤ 4294967295 := by
  have e1 : IntKind.u32.min = 0 := rfl
  have e2 : IntKind.u32.max = 4294967295 := rfl
  simp [Lit.wf, e1, e2] at h
  exact h
end Go.Proofs.YtcoekgnbncocnaaDoor.PK


namespace Go.Proofs.YtcoekgnbncocnaaDoor.Pa
open Go Go.RowKit Go.Proofs.YtcoekgnbncocnaaDoorW.PrintWords
def Wf24 (x : S24) : Prop := (True) ∧ ((Lit.int .u64 x.f1).wf = true) ∧ ((Lit.int .u64 x.f2).wf = true)
def Wf141 (x : S141) : Prop := (x.f0.size ≤ 140737488351232) ∧ (Wf24 x.f1) ∧ (x.f2.size ≤ 140737488351232)
def Wf139 (x : S139) : Prop := (Wf24 x.f0) ∧ (Wf24 x.f1)
end Go.Proofs.YtcoekgnbncocnaaDoor.Pa
namespace Go.Proofs.YtcoekgnbncocnaaDoor.Pure
open Go Go.RowKit Go.Proofs.YtcoekgnbncocnaaDoorW.PrintWords Go.Proofs.YtcoekgnbncocnaaDoorW.PrintLast Go.Proofs.YtcoekgnbncocnaaDoorW.PrintMore Go.Proofs.YtcoekgnbncocnaaDoor.DN Go.Proofs.YtcoekgnbncocnaaDoor.OPT Go.Proofs.YtcoekgnbncocnaaDoor.ADR Go.Proofs.YtcoekgnbncocnaaDoor.PK Go.Proofs.YtcoekgnbncocnaaDoor.Pa
set_option linter.unusedVariables false
set_option linter.unusedSimpArgs false
theorem leases_l (a0_0 a0_1 a0_2 : Int) (a0_3 : ByteArray) (a0_4 : Bool) (a0_5 a0_6 : Int) (a0_7 : Bool) (a0_8 a0_9 : Int) (a0_10 : Bool) (a0_11 a0_12 : Int) (a0_13 : Bool) (l : List S61) (b0 b1 b2 : Int) (b3 : ByteArray) (b4 : Bool) (b5 b6 : Int) (b7 : Bool) (b8 b9 : Int) (b10 : Bool) (b11 b12 : Int) (b13 : Bool) (g : List S61) (hl : l.length ≤ 1000) (hg : g.length ≤ 100000)
    (hk : ∀ c : Int, (fndA (ab l) c).2 = true → c ≠ 51 → c ≠ 58 → c ≠ 59 → fndA (ab g) c = fndA (ab l) c) : ∀ (n k i : Nat), l.length - i ≤ n → 200000 + 2 * n < k → i ≤ l.length →
    ddilaw36_DhcpLeases.l0 k l (l.length : Int) (i : Int) a0_0 a0_1 a0_2 a0_3 a0_4 a0_5 a0_6 a0_7 a0_8 a0_9 a0_10 a0_11 a0_12 a0_13 l b0 b1 b2 b3 b4 b5 b6 b7 b8 b9 b10 b11 b12 b13 g = some true := by
  intro n
  induction n with
  | zero =>
    intro k i hn hkk hi
    obtain ⟨k, rfl⟩ : ∃ q, k = q + 1 := ⟨k - 1, by omega⟩
    rw [ddilaw36_DhcpLeases.l0, if_neg (by omega), awake36_f k (by omega)]; rfl
  | succ n ih =>
    intro k i hn hkk hi
    obtain ⟨k, rfl⟩ : ∃ q, k = q + 2 := ⟨k - 2, by omega⟩
    by_cases hlt : i < l.length
    · have hI := ih k (i + 1) (by omega) (by omega) (by omega)
      have hj : ddilaw36_DhcpLeases.j2 (k + 1) l (l.length : Int) (i : Int) false a0_0 a0_1 a0_2 a0_3 a0_4 a0_5 a0_6 a0_7 a0_8 a0_9 a0_10 a0_11 a0_12 a0_13 l b0 b1 b2 b3 b4 b5 b6 b7 b8 b9 b10 b11 b12 b13 g = some true := by
        rw [ddilaw36_DhcpLeases.j2, if_neg Bool.false_ne_true, wsucc (by omega)]; exact hI
      have hf : (fndA (ab l) l[i].f0).2 = true := by
        rw [fndA_some, fnd_some_iff]
        exact List.mem_map.2 ⟨o1 l[i], List.mem_map.2 ⟨l[i], List.getElem_mem hlt, rfl⟩, rfl⟩
      rw [ddilaw36_DhcpLeases.l0, if_pos (by omega), if_pos (by omega), if_pos (by omega), rd_at hlt, find_f g _ (by omega) (k + 1) (by omega), Option.bind_some, find_f l _ (by omega) (k + 1) (by omega), Option.bind_some, hj]
      by_cases h51 : l[i].f0 = 51
      · rw [if_pos h51]
      by_cases h58 : l[i].f0 = 58
      · rw [if_neg h51, if_pos h58]
      by_cases h59 : l[i].f0 = 59
      · rw [if_neg h51, if_neg h58, if_pos h59]
      rw [if_neg h51, if_neg h58, if_neg h59, hk _ hf h51 h58 h59]
      rw [if_neg (by simp)]
      simpa using hj
    · rw [ddilaw36_DhcpLeases.l0, if_neg (by omega), awake36_f (k + 1) (by omega)]; rfl
theorem DhcpLeases : ∀ (a0_0 : Int) (a0_1 : Int) (a0_2 : Int) (a0_3 : ByteArray) (a0_4 : Bool) (a0_5 : Int) (a0_6 : Int) (a0_7 : Bool) (a0_8 : Int) (a0_9 : Int) (a0_10 : Bool) (a0_11 : Int) (a0_12 : Int) (a0_13 : Bool) (l0_14 : List S61) (a1 : Int) (a2_0 : Bool) (a2_1 : Int) (a2_2 : Int) (a2_3 : Int) (a2_4 : ByteArray) (l2_5 : List S139) (l2_6 : List S141) (l2_7 : List S61) (a2_8 : Int), (Lit.int .i64 a0_0).wf = true → (Lit.int .i64 a0_1).wf = true → (Lit.int .i64 a0_2).wf = true → a0_3.size ≤ 140737488351232 → (Lit.int .u64 a0_5).wf = true → (Lit.int .u64 a0_6).wf = true → (Lit.int .u64 a0_8).wf = true → (Lit.int .u64 a0_9).wf = true → (Lit.int .u64 a0_11).wf = true → (Lit.int .u64 a0_12).wf = true → l0_14.length * 24 ≤ 140737488351232 → (∀ y ∈ l0_14, Wf61 y) → (Lit.int .u32 a1).wf = true → (Lit.int .u64 a2_1).wf = true → (Lit.int .u64 a2_2).wf = true → (Lit.int .i64 a2_3).wf = true → a2_4.size ≤ 140737488351232 → l2_5.length * 48 ≤ 140737488351232 → (∀ y ∈ l2_5, Wf139 y) → l2_6.length * 56 ≤ 140737488351232 → (∀ y ∈ l2_6, Wf141 y) → l2_7.length * 24 ≤ 140737488351232 → (∀ y ∈ l2_7, Wf61 y) → (Lit.int .i64 a2_8).wf = true → ∃ k, ddilaw36_DhcpLeases.f k a0_0 a0_1 a0_2 a0_3 a0_4 a0_5 a0_6 a0_7 a0_8 a0_9 a0_10 a0_11 a0_12 a0_13 l0_14 a1 a2_0 a2_1 a2_2 a2_3 a2_4 l2_5 l2_6 l2_7 a2_8 = some true := by
  intro a0_0 a0_1 a0_2 a0_3 a0_4 a0_5 a0_6 a0_7 a0_8 a0_9 a0_10 a0_11 a0_12 a0_13 l0_14 a1 a2_0 a2_1 a2_2 a2_3 a2_4 l2_5 l2_6 l2_7 a2_8 p0 p1 p2 p3 p4 p5 p6 p7 p8 p9 p10 p11 p12 p13 p14 p15 p16 p17 p18 p19 p20 p21 p22 p23
  have w6 : (Lit.int .u64 a0_6).wf = true := by assumption
  have w9 : (Lit.int .u64 a0_9).wf = true := by assumption
  have w12 : (Lit.int .u64 a0_12).wf = true := by assumption
  have v1 : (Lit.int .u32 a1).wf = true := by assumption
  have v8 : (Lit.int .i64 a2_8).wf = true := by assumption
  have hl : l0_14.length * 24 ≤ 140737488351232 := by assumption
  have hm0 : l2_7.length * 24 ≤ 140737488351232 := by assumption
  have hx := (wf_u64 w6).1
  have hy := (wf_u64 w9).1
  have hz := (wf_u64 w12).1
  have hv1 := wf_u32 v1
  have hv8 := wf_i64 v8
  clear p0 p1 p2 p3 p4 p5 p6 p7 p8 p9 p10 p11 p12 p13 p14 p15 p16 p17 p18 p19 p20 p21 p22 p23
  obtain ⟨a3, h3⟩ : ∃ a3, a3 = a0_3.extract 0 (min a0_3.size 100) := ⟨_, rfl⟩
  have hs3 : a3.size ≤ 100 := by rw [h3]; exact cut_size a0_3
  have hs := short_f a0_0 a0_1 a0_2 a0_3 a0_4 a0_5 a0_6 a0_7 a0_8 a0_9 a0_10 a0_11 a0_12 a0_13 l0_14 (by omega) 300000 (by omega)
  rw [← h3] at hs
  have hl1 := shl_length l0_14
  have hl2 := shl_size l0_14
  generalize shl l0_14 = l at hs hl1 hl2
  have ht := short_f 0 0 0 ⟨#[]⟩ false 0 0 false 0 0 false 0 0 false l2_7 (by omega) 300000 (by omega)
  have hm1 := shl_length l2_7
  have hm2 := shl_size l2_7
  generalize shl l2_7 = m at ht hm1 hm2
  refine ⟨300000, ?_⟩
  unfold ddilaw36_DhcpLeases.f
  rw [hs, Option.bind_some, ht, Option.bind_some]
  dsimp only
  have hmn : mn (m.length : Int) 20 = ((min m.length 20 : Nat) : Int) := mn_nat m.length 20
  have hu : IntKind.u64.wrap a1 = a1 := wu (by omega) (by omega)
  obtain ⟨t, htt⟩ : ∃ t, t = mn (mx a2_8 1) 1073741824 := ⟨_, rfl⟩
  have ht2 : 1 ≤ t ∧ t ≤ 1073741824 := by rw [htt]; unfold mn mx; (repeat' split) <;> omega
  rw [hmn, if_pos (by omega), if_pos (by omega), Int.toNat_natCast, hu, ← htt]
  clear htt
  have hm3 : (m.take (min m.length 20)).length ≤ 20 := by rw [List.length_take]; omega
  have hm4 : small 1100 (m.take (min m.length 20)) := fun o ho => hm2 o (List.mem_of_mem_take ho)
  generalize m.take (min m.length 20) = m' at hm3 hm4
  rw [grant_f a0_0 a0_1 a0_2 a3 a0_4 a0_5 a0_6 a0_7 a0_8 a0_9 a0_10 a0_11 a0_12 a0_13 l false 0 a1 a2_0 a2_1 a2_2 a2_3 a2_4 l2_5 l2_6 m' t (by omega) (by omega) (by omega) (by omega) 300000 (by omega), Option.bind_some]
  dsimp only
  have hgl : (grantO l m' a2_3 t).length ≤ 1000 := by
    unfold grantO g3
    have q1 := gf_length m' l
    have q2 := g1_length (gf l m') a2_3
    have q3 := g2_length (g1 (gf l m') a2_3) 51 t
    have q4 := g2_length (g2 (g1 (gf l m') a2_3) 51 t) 58 (t / 2)
    have q5 := g2_length (g2 (g2 (g1 (gf l m') a2_3) 51 t) 58 (t / 2)) 59 (t * 7 / 8)
    omega
  have hgs : small 1100 (grantO l m' a2_3 t) := small_grantO (by decide) _ _ hl2 hm4
  have hgk : ∀ c : Int, (fndA (ab l) c).2 = true → c ≠ 51 → c ≠ 58 → c ≠ 59 → fndA (ab (grantO l m' a2_3 t)) c = fndA (ab l) c := fun c h h1 h2 h3 => grantO_keep m' a2_3 t h h1 h2 h3
  have hle := lease_f a0_0 a0_1 a0_2 a3 a0_4 a0_5 a0_6 false 0 a1 a0_10 a0_11 a0_12 a0_13 (grantO l m' a2_3 t) (by omega) 300000 (by omega) (by omega)
  rw [grantO_lease l m' a2_3 ht2.1 ht2.2] at hle
  rw [hle, Option.bind_some]
  dsimp only
  have hc : (false || (!((0 : Int) == 0) || (!(a1 == a1)))) = false := by simp
  rw [hc, if_neg Bool.false_ne_true, if_pos rfl, if_pos rfl, if_pos rfl, if_pos rfl, if_pos rfl, if_pos rfl]
  have hl3 : ∀ o ∈ l, o.f1.size ≤ 140737488351232 := fun o ho => by have := hl2 o ho; omega
  have hg3 : ∀ o ∈ grantO l m' a2_3 t, o.f1.size ≤ 140737488351232 := fun o ho => by have := hgs o ho; omega
  have e8 := dvalid_f a0_0 a0_1 a0_2 a3 ⟨a0_4, a0_5, a0_6⟩ ⟨a0_7, a0_8, a0_9⟩ ⟨a0_10, a0_11, a0_12⟩ a0_13 l hx hy hz hl3 300000 (by omega)
  have e9 := dvalid_f a0_0 a0_1 a0_2 a3 ⟨a0_4, a0_5, a0_6⟩ ⟨false, 0, a1⟩ ⟨a0_10, a0_11, a0_12⟩ a0_13 (grantO l m' a2_3 t) hx hv1.1 hz hg3 300000 (by omega)
  dsimp only at e8 e9
  rw [e8, Option.bind_some]
  have J := leases_l a0_0 a0_1 a0_2 a3 a0_4 a0_5 a0_6 a0_7 a0_8 a0_9 a0_10 a0_11 a0_12 a0_13 l a0_0 a0_1 a0_2 a3 a0_4 a0_5 a0_6 false 0 a1 a0_10 a0_11 a0_12 a0_13 (grantO l m' a2_3 t) (by omega) (by omega) hgk l.length 299999 0 (by omega) (by omega) (by omega)
  have J0 : ddilaw36_DhcpLeases.j0 300000 false a0_0 a0_1 a0_2 a3 a0_4 a0_5 a0_6 a0_7 a0_8 a0_9 a0_10 a0_11 a0_12 a0_13 l a0_0 a0_1 a0_2 a3 a0_4 a0_5 a0_6 false 0 a1 a0_10 a0_11 a0_12 a0_13 (grantO l m' a2_3 t) = some true := by
    rw [show (300000 : Nat) = 299999 + 1 from rfl, ddilaw36_DhcpLeases.j0, if_neg Bool.false_ne_true]; exact J
  by_cases hv : vpk a0_0 a0_1 a0_2 a3 ⟨a0_4, a0_5, a0_6⟩ ⟨a0_7, a0_8, a0_9⟩ ⟨a0_10, a0_11, a0_12⟩ a0_13 l = true
  · obtain ⟨⟨h0, h1, h2, hcl, hx', hy', hz', h13⟩, hvl⟩ := vpk_parts hv
    rw [if_pos hv, valid_f _ hg3 300000 (by omega), Option.bind_some, e9, Option.bind_some, vhd_true ⟨h0, h1, h2, hcl, hx', ⟨rfl, rfl, hv1.2⟩, hz', h13⟩, show (decide (vld (ab (grantO l m' a2_3 t))) != decide (vld (ab (grantO l m' a2_3 t)))) = false by simp]
    exact J0
  · rw [if_neg hv]; exact J0
end Go.Proofs.YtcoekgnbncocnaaDoor.Pure

