/- Parts of the proof of this claim's statement (joined by a program of this session): Ref, Pk, Renc, EncP, Short, Awake36, PureDhcpEncodes. -/
import Derived.Test.YtcoekgnbncocnaaDoorQe5
import Derived.Test.YtcoekgnbncocnaaDoorQe2
import Derived.Test.YtcoekgnbncocnaaDoorQe6
import Derived.Test.YtcoekgnbncocnaaDoorQe3
import Derived.Test.YtcoekgnbncocnaaDoorQe1
import Derived.Test.YtcoekgnbncocnaaDoorQe4
import Derived.Test.YtcoekgnbncocnaaDoorQe7
namespace Go.Proofs.YtcoekgnbncocnaaDoor.Pa
open Go Go.RowKit
/-- what a row tells of an option -/
def Wf61 (x : S61) : Prop := ((Lit.int .i64 x.f0).wf = true) ∧ (x.f1.size ≤ 140737488351232)
end Go.Proofs.YtcoekgnbncocnaaDoor.Pa
namespace Go.Proofs.YtcoekgnbncocnaaDoor.OPT
open Go Go.RowKit Go.Proofs.YtcoekgnbncocnaaDoorW.PrintWords Go.Proofs.YtcoekgnbncocnaaDoor.DN Go.Proofs.YtcoekgnbncocnaaDoor.Pa
set_option linter.unusedVariables false
set_option linter.unusedSimpArgs false

theorem w2 {a b : Nat} (h : a + b < 9223372036854775807) : wrap64 ((a : Int) + (b : Int)) = ((a + b : Nat) : Int) := by rw [wrap_id (by omega) (by omega)]; rfl
/-- where the first element with a code stands -/
def idxS : List S61 → Int → Nat → Int
  | [], _, _ => -1
  | x :: l, c, i => if x.f0 = c then (i : Int) else idxS l c (i + 1)
theorem idx_cases : ∀ (l : List S61) (c : Int) (i : Nat), ((∀ x ∈ l, x.f0 ≠ c) ∧ idxS l c i = -1) ∨ ∃ a x b, l = a ++ x :: b ∧ x.f0 = c ∧ (∀ y ∈ a, y.f0 ≠ c) ∧ idxS l c i = ((i + a.length : Nat) : Int)
  | [], c, i => .inl ⟨by simp, rfl⟩
  | x :: l, c, i => by
    by_cases h : x.f0 = c
    · exact .inr ⟨[], x, l, rfl, h, by simp, by rw [idxS, if_pos h]; rfl⟩
    · rcases idx_cases l c (i + 1) with ⟨h1, h2⟩ | ⟨a, y, b, h1, h2, h3, h4⟩
      · exact .inl ⟨by intro z hz; rcases List.mem_cons.1 hz with rfl | hz; exact h; exact h1 z hz, by rw [idxS, if_neg h, h2]⟩
      · refine .inr ⟨x :: a, y, b, by rw [h1]; rfl, h2, by intro z hz; rcases List.mem_cons.1 hz with rfl | hz; exact h; exact h3 z hz, ?_⟩
        rw [idxS, if_neg h, h4, List.length_cons]; congr 1; omega
theorem index_l (l : List S61) (c : Int) (hl : l.length ≤ 5864062014805) : ∀ (n k i : Nat), l.length - i ≤ n → n < k → i ≤ l.length → ddiref35_index.l0 k l c (i : Int) = some (idxS (l.drop i) c i) := by
  intro n
  induction n with
  | zero =>
    intro k i hn hk hi
    obtain ⟨k, rfl⟩ : ∃ q, k = q + 1 := ⟨k - 1, by omega⟩
    obtain rfl : i = l.length := by omega
    rw [ddiref35_index.l0, if_neg (by omega), List.drop_length]; rfl
  | succ n ih =>
    intro k i hn hk hi
    obtain ⟨k, rfl⟩ : ∃ q, k = q + 1 := ⟨k - 1, by omega⟩
    by_cases hlt : i < l.length
    · rw [ddiref35_index.l0, if_pos (by omega), if_pos (by omega), rd_at hlt, drop_at hlt, idxS]
      by_cases hc : l[i].f0 = c
      · rw [if_pos hc, if_pos hc]
      · rw [if_neg hc, if_neg hc, wsucc (by omega), ih k (i + 1) (by omega) (by omega) (by omega)]
    · obtain rfl : i = l.length := by omega
      rw [ddiref35_index.l0, if_neg (by omega), List.drop_length]; rfl
theorem index_f (l : List S61) (c : Int) (hl : l.length ≤ 5864062014805) (k : Nat) (hk : l.length < k) : ddiref35_index.f k l c = some (idxS l c 0) := by
  have := index_l l c hl l.length k 0 (by omega) hk (by omega)
  simpa [ddiref35_index.f] using this

theorem idx_first {l : List S61} {i : Nat} (hlt : i < l.length) : idxS l l[i].f0 0 = (i : Int) ↔ l[i].f0 ∉ (ab (l.take i)).map (·.1) := by
  have hmem : ∀ m : List S61, l[i].f0 ∈ (ab m).map (·.1) ↔ ∃ y ∈ m, y.f0 = l[i].f0 := by
    intro m; simp [ab, o1]
  rw [hmem]
  rcases idx_cases l l[i].f0 0 with ⟨h1, h2⟩ | ⟨a, x, b, h1, h2, h3, h4⟩
  · exact absurd rfl (h1 l[i] (List.getElem_mem hlt))
  · rw [h4, Nat.zero_add]
    constructor
    · rintro h ⟨y, hy, e⟩
      have : a.length = i := by omega
      have ht : l.take i = a := by subst this; conv => lhs; rw [h1]
                                   simp
      rw [ht] at hy
      exact h3 y hy e
    · intro h
      rcases Nat.lt_trichotomy a.length i with h5 | h5 | h5
      · refine absurd ⟨x, ?_, h2⟩ h
        rw [h1]
        rw [List.take_append, List.mem_append]
        right
        obtain ⟨d, hd⟩ : ∃ d, i - a.length = d + 1 := ⟨i - a.length - 1, by omega⟩
        rw [hd, List.take_succ_cons]; simp
      · omega
      · exfalso
        have : l[i] ∈ a := by
          have e : l[i] = a[i] := by
            have : l[i]? = a[i]? := by rw [h1, List.getElem?_append_left h5]
            rw [List.getElem?_eq_getElem hlt, List.getElem?_eq_getElem h5] at this
            exact Option.some.inj this
          rw [e]; exact List.getElem_mem h5
        exact h3 _ this rfl
theorem rvalid_l (l : List S61) (hl : l.length ≤ 32) (hz : ∀ x ∈ l, x.f1.size ≤ 140737488351232) : ∀ (n k i a : Nat), l.length - i ≤ n → n + 40 < k → i ≤ l.length → a + sz (ab (l.drop i)) < 9223372036854775807 →
    ddiref35_Valid.l0 k l (a : Int) (i : Int) = some (chk (ab (l.take i)) (ab (l.drop i)) && decide (a + sz (ab (l.drop i)) ≤ 4096)) := by
  intro n
  induction n with
  | zero =>
    intro k i a hn hk hi hs
    obtain ⟨k, rfl⟩ : ∃ q, k = q + 1 := ⟨k - 1, by omega⟩
    obtain rfl : i = l.length := by omega
    rw [ddiref35_Valid.l0, if_neg (by omega), List.drop_length]
    simp only [ab_nil, chk, sz, Bool.true_and, Nat.add_zero]; congr 1; rw [Bool.eq_iff_iff, decide_eq_true_iff, decide_eq_true_iff]; omega
  | succ n ih =>
    intro k i a hn hk hi hs
    obtain ⟨k, rfl⟩ : ∃ q, k = q + 1 := ⟨k - 1, by omega⟩
    by_cases hlt : i < l.length
    · rw [drop_at hlt, ab_cons, sz] at hs
      have hz1 : (o1 l[i]).2.length = l[i].f1.size := L_len _
      have hc1 : (o1 l[i]).1 = l[i].f0 := rfl
      rw [hz1] at hs
      rw [ddiref35_Valid.l0, if_pos (by omega), if_pos (by omega), rd_at hlt, drop_at hlt, ab_cons]
      have h3 : chk (ab (l.take i)) (o1 l[i] :: ab (l.drop (i + 1))) = (!(decide ((o1 l[i]).1 ∈ (ab (l.take i)).map (·.1))) && (decide (1 ≤ (o1 l[i]).1 ∧ (o1 l[i]).1 ≤ 254) && (decide ((o1 l[i]).2.length ≤ 1024) && chk (ab (l.take (i + 1))) (ab (l.drop (i + 1)))))) := by
        rw [chk, List.take_succ_eq_append_getElem hlt, ab_append]; rfl
      rw [h3, sz, hz1, hc1]
      by_cases h1 : l[i].f0 < 1
      · rw [if_pos h1, decide_eq_false (show ¬ (1 ≤ l[i].f0 ∧ l[i].f0 ≤ 254) by omega)]; simp
      by_cases h2 : l[i].f0 > 254
      · rw [if_neg h1, if_pos h2, decide_eq_false (show ¬ (1 ≤ l[i].f0 ∧ l[i].f0 ≤ 254) by omega)]; simp
      by_cases h4 : (l[i].f1.size : Int) > 1024
      · rw [if_neg h1, if_neg h2, if_pos h4, decide_eq_false (show ¬ (l[i].f1.size ≤ 1024) by omega)]; simp
      rw [if_neg h1, if_neg h2, if_neg h4, index_f l _ (by omega) k (by omega), Option.bind_some, decide_eq_true (show 1 ≤ l[i].f0 ∧ l[i].f0 ≤ 254 by omega), decide_eq_true (show l[i].f1.size ≤ 1024 by omega)]
      by_cases h5 : l[i].f0 ∈ (ab (l.take i)).map (·.1)
      · rw [if_neg (by rw [idx_first hlt]; exact fun h => h h5), decide_eq_true h5]; simp
      · rw [if_pos ((idx_first hlt).2 h5), decide_eq_false h5, w2 (by have := hz _ (List.getElem_mem hlt); omega), wsucc (by omega), ih k (i + 1) (a + l[i].f1.size) (by omega) (by omega) (by omega) (by omega)]
        simp only [Bool.not_false, Bool.true_and, Nat.add_assoc]
    · obtain rfl : i = l.length := by omega
      rw [ddiref35_Valid.l0, if_neg (by omega), List.drop_length]
      simp only [ab_nil, chk, sz, Bool.true_and, Nat.add_zero]; congr 1; rw [Bool.eq_iff_iff, decide_eq_true_iff, decide_eq_true_iff]; omega
theorem rvalid_f (l : List S61) (h : ∀ x ∈ l, x.f1.size ≤ 140737488351232) (k : Nat) (hk : 100 < k) : ddiref35_Valid.f k l = some (decide (vld (ab l))) := by
  unfold ddiref35_Valid.f
  by_cases h1 : (l.length : Int) > 32
  · rw [if_pos h1, decide_eq_false (by rw [vld_iff, ab_length]; omega)]
  · rw [if_neg h1]
    have h2 := sz_le h
    have := rvalid_l l (by omega) h l.length k 0 0 (by omega) (by omega) (by omega) (by rw [List.drop_zero]; omega)
    rw [List.take_zero, List.drop_zero, Nat.zero_add] at this
    refine Eq.trans this ?_
    congr 1
    rw [Bool.eq_iff_iff, Bool.and_eq_true, decide_eq_true_iff, decide_eq_true_iff, vld_iff, ab_length]
    exact ⟨fun h => ⟨by omega, h.2, h.1⟩, fun h => ⟨h.2.2, h.2.1⟩⟩

theorem no_sizes {l : List S61} (h : no (ab l)) : l.length ≤ 32 ∧ ∀ x ∈ l, x.f1.size ≤ 1024 := by
  obtain ⟨h1, _, h3⟩ := h
  rw [ab_length] at h1
  exact ⟨h1, fun x hx => by have := h3 (o1 x) (List.mem_map_of_mem hx); rw [show (o1 x).2.length = x.f1.size from L_len _] at this; exact this⟩
end Go.Proofs.YtcoekgnbncocnaaDoor.OPT


namespace Go.Proofs.YtcoekgnbncocnaaDoor.PK
open Go Go.RowKit Go.Proofs.YtcoekgnbncocnaaDoorW.PrintWords Go.Proofs.YtcoekgnbncocnaaDoorW.PrintLast Go.Proofs.YtcoekgnbncocnaaDoorW.PrintMore Go.Proofs.YtcoekgnbncocnaaDoor.DN Go.Proofs.YtcoekgnbncocnaaDoor.OPT Go.Proofs.YtcoekgnbncocnaaDoor.ADR Go.Proofs.YtcoekgnbncocnaaDoor.Pa
set_option linter.unusedVariables false
set_option linter.unusedSimpArgs false

def vis (b : UInt8) : Bool := decide (33 ≤ b.toNat ∧ b.toNat ≤ 126)
def cli (s : ByteArray) : Bool := decide (1 ≤ s.size ∧ s.size ≤ 32) && (L s).all vis
theorem client_l (s : ByteArray) (hs : s.size ≤ 32) : ∀ (n k i : Nat), s.size - i ≤ n → n < k → i ≤ s.size → dhcp_client.l0 k s (s.size : Int) (i : Int) = some (((L s).drop i).all vis) := by
  intro n
  induction n with
  | zero =>
    intro k i hn hk hi
    obtain ⟨k, rfl⟩ : ∃ q, k = q + 1 := ⟨k - 1, by omega⟩
    rw [dhcp_client.l0, if_neg (by omega), List.drop_eq_nil_of_le (by rw [L_len]; omega)]; rfl
  | succ n ih =>
    intro k i hn hk hi
    obtain ⟨k, rfl⟩ : ∃ q, k = q + 1 := ⟨k - 1, by omega⟩
    by_cases hlt : i < s.size
    · have hL : i < (L s).length := by rw [L_len]; exact hlt
      rw [dhcp_client.l0, if_pos (by omega), if_pos (by omega), if_pos (by omega), bt_L s i hL, drop_at hL, List.all_cons]
      by_cases h1 : (L s)[i].toNat < 33
      · rw [if_pos (by omega), show vis (L s)[i] = false from decide_eq_false (by omega)]; rfl
      · rw [if_neg (by omega)]
        by_cases h2 : 126 < (L s)[i].toNat
        · rw [if_pos (by omega), show vis (L s)[i] = false from decide_eq_false (by omega)]; rfl
        · rw [if_neg (by omega), show vis (L s)[i] = true from decide_eq_true (by omega), Bool.true_and, wsucc (by omega)]
          exact ih k (i + 1) (by omega) (by omega) (by omega)
    · rw [dhcp_client.l0, if_neg (by omega), List.drop_eq_nil_of_le (by rw [L_len]; omega)]; rfl
theorem rclient_l (s : ByteArray) (hs : s.size ≤ 32) : ∀ (n k i : Nat), s.size - i ≤ n → n < k → i ≤ s.size → ddiref36_isClient.l0 k s (i : Int) = some (((L s).drop i).all vis) := by
  intro n
  induction n with
  | zero =>
    intro k i hn hk hi
    obtain ⟨k, rfl⟩ : ∃ q, k = q + 1 := ⟨k - 1, by omega⟩
    rw [ddiref36_isClient.l0, if_neg (by omega), List.drop_eq_nil_of_le (by rw [L_len]; omega)]; rfl
  | succ n ih =>
    intro k i hn hk hi
    obtain ⟨k, rfl⟩ : ∃ q, k = q + 1 := ⟨k - 1, by omega⟩
    by_cases hlt : i < s.size
    · have hL : i < (L s).length := by rw [L_len]; exact hlt
      rw [ddiref36_isClient.l0, if_pos (by omega), if_pos (by omega), bt_L s i hL, drop_at hL, List.all_cons]
      by_cases h1 : (L s)[i].toNat < 33
      · rw [if_pos (by omega), show vis (L s)[i] = false from decide_eq_false (by omega)]; rfl
      · rw [if_neg (by omega)]
        by_cases h2 : 126 < (L s)[i].toNat
        · rw [if_pos (by omega), show vis (L s)[i] = false from decide_eq_false (by omega)]; rfl
        · rw [if_neg (by omega), show vis (L s)[i] = true from decide_eq_true (by omega), Bool.true_and, wsucc (by omega)]
          exact ih k (i + 1) (by omega) (by omega) (by omega)
    · rw [ddiref36_isClient.l0, if_neg (by omega), List.drop_eq_nil_of_le (by rw [L_len]; omega)]; rfl
theorem client_f (s : ByteArray) (k : Nat) (hk : 100 < k) : dhcp_client.f k s = some (cli s) ∧ ddiref36_isClient.f k s = some (cli s) := by
  obtain ⟨k, rfl⟩ : ∃ q, k = q + 1 := ⟨k - 1, by omega⟩
  unfold dhcp_client.f ddiref36_isClient.f cli
  have he : s.toList = ([] : List UInt8) ↔ s.size = 0 := by rw [toList_L, ← L_len]; exact List.length_eq_zero_iff.symm
  by_cases h0 : s.size = 0
  · rw [if_pos (he.2 h0), if_pos (by omega), dhcp_client.j0, if_pos rfl, ddiref36_isClient.j0, if_pos rfl, decide_eq_false (by omega)]; exact ⟨rfl, rfl⟩
  · rw [if_neg (fun e => h0 (he.1 e)), if_neg (by omega), dhcp_client.j0, ddiref36_isClient.j0]
    by_cases h : s.size ≤ 32
    · rw [decide_eq_false (show ¬ ((s.size : Int) > 32) by omega), if_neg (by decide), if_neg (by decide), decide_eq_true (by omega), Bool.true_and]
      exact ⟨client_l s h s.size k 0 (by omega) (by omega) (by omega), rclient_l s h s.size k 0 (by omega) (by omega) (by omega)⟩
    · rw [decide_eq_true (show (s.size : Int) > 32 by omega), if_pos rfl, if_pos rfl, decide_eq_false (by omega)]; exact ⟨rfl, rfl⟩

theorem ipv4_f (x : S24) (h0 : 0 ≤ x.f2) : dhcp_ipv4.f x.f0 x.f1 x.f2 = some (decide (okA x)) := by
  unfold dhcp_ipv4.f addr_Valid.f
  obtain ⟨b, hi, lo⟩ := x
  simp only at h0 ⊢
  cases b
  · by_cases h1 : hi = 0
    · subst h1
      by_cases h2 : lo ≤ 4294967295
      · have h3 : lo < 4294967296 := by omega
        simp [okA, h2, h3]
      · have h3 : ¬ lo < 4294967296 := by omega
        simp [okA, h2, h3]
    · simp [okA, h1]
  · simp [okA]
theorem isV4_f (x : S24) (h0 : 0 ≤ x.f2) : ddiref36_isV4.f x.f0 x.f1 x.f2 = some (decide (okA x)) := by
  unfold ddiref36_isV4.f ddiref02_Valid.f
  obtain ⟨b, hi, lo⟩ := x
  simp only at h0 ⊢
  cases b
  · by_cases h1 : hi = 0
    · subst h1
      by_cases h2 : lo ≤ 4294967295
      · have h3 : lo < 4294967296 := by omega
        simp [okA, h2, h3]
      · have h3 : ¬ lo < 4294967296 := by omega
        simp [okA, h2, h3]
    · simp [okA, h1]
  · simp [okA]

def opr (n : Int) : Int := if n = 1 ∨ n = 3 ∨ n = 4 ∨ n = 7 ∨ n = 8 then 1 else if n = 2 ∨ n = 5 ∨ n = 6 then 2 else 0
theorem operation_f (n : Int) (k : Nat) (hk : 1 ≤ k) : dhcp_operation.f k n = some (opr n) := by
  obtain ⟨k, rfl⟩ : ∃ q, k = q + 1 := ⟨k - 1, by omega⟩
  unfold dhcp_operation.f opr
  simp only [dhcp_operation.j0]
  by_cases h1 : n = 1
  · simp [h1]
  by_cases h3 : n = 3
  · simp [h3]
  by_cases h4 : n = 4
  · simp [h4]
  by_cases h7 : n = 7
  · simp [h7]
  by_cases h8 : n = 8
  · simp [h8]
  by_cases h2 : n = 2
  · simp [h2]
  by_cases h5 : n = 5
  · simp [h5]
  by_cases h6 : n = 6
  · simp [h6]
  simp [h1, h2, h3, h4, h5, h6, h7, h8]
theorem op_f (n : Int) (h : opr n ≠ 0) : ddiref36_op.f n = some (opr n) := by
  unfold ddiref36_op.f
  unfold opr at h ⊢
  by_cases h1 : n = 1
  · simp [h1]
  by_cases h3 : n = 3
  · simp [h3]
  by_cases h4 : n = 4
  · simp [h4]
  by_cases h7 : n = 7
  · simp [h7]
  by_cases h8 : n = 8
  · simp [h8]
  by_cases h2 : n = 2
  · simp [h2]
  by_cases h5 : n = 5
  · simp [h5]
  by_cases h6 : n = 6
  · simp [h6]
  simp [h1, h2, h3, h4, h5, h6, h7, h8] at h
theorem opr_zero (n : Int) : opr n = 0 ↔ ¬ (1 ≤ n ∧ n ≤ 8) := by
  unfold opr
  split
  · constructor
    · intro h; cases h
    · intro h; omega
  · split
    · constructor
      · intro h; cases h
      · intro h; omega
    · constructor
      · intro _; omega
      · intro _; rfl

def zeroA (x : S24) : Prop := x.f0 = false ∧ x.f1 = 0 ∧ x.f2 = 0
instance (x : S24) : Decidable (zeroA x) := inferInstanceAs (Decidable (_ ∧ _ ∧ _))
/-- a message but for its options -/
def vhd (a0 a1 a2 : Int) (a3 : ByteArray) (x y z : S24) (a13 : Bool) : Bool :=
  decide ((1 ≤ a0 ∧ a0 ≤ 8) ∧ (0 ≤ a1 ∧ a1 < 4294967296) ∧ (0 ≤ a2 ∧ a2 < 65536) ∧ cli a3 = true ∧ okA x ∧ okA y ∧ okA z ∧ (a13 = true ∨ zeroA z))
def vpk (a0 a1 a2 : Int) (a3 : ByteArray) (x y z : S24) (a13 : Bool) (l : List S61) : Bool := vhd a0 a1 a2 a3 x y z a13 && decide (vld (ab l))
theorem ne_zeroA (x : S24) : (x.f0 || (!(x.f1 == 0) || (!(x.f2 == 0)))) = !decide (zeroA x) := by
  obtain ⟨b, h, l⟩ := x
  cases b
  · by_cases h1 : h = 0
    · by_cases h2 : l = 0
      · subst h1; subst h2; rfl
      · subst h1; simp [zeroA, h2]
    · simp [zeroA, h1]
  · simp [zeroA]
theorem vhd_false {a0 a1 a2 : Int} {a3 : ByteArray} {x y z : S24} {a13 : Bool} {l : List S61} (h : ¬ ((1 ≤ a0 ∧ a0 ≤ 8) ∧ (0 ≤ a1 ∧ a1 < 4294967296) ∧ (0 ≤ a2 ∧ a2 < 65536) ∧ cli a3 = true ∧ okA x ∧ okA y ∧ okA z ∧ (a13 = true ∨ zeroA z))) : vpk a0 a1 a2 a3 x y z a13 l = false := by
  unfold vpk vhd; rw [decide_eq_false h]; rfl
theorem vhd_true {a0 a1 a2 : Int} {a3 : ByteArray} {x y z : S24} {a13 : Bool} {l : List S61} (h : (1 ≤ a0 ∧ a0 ≤ 8) ∧ (0 ≤ a1 ∧ a1 < 4294967296) ∧ (0 ≤ a2 ∧ a2 < 65536) ∧ cli a3 = true ∧ okA x ∧ okA y ∧ okA z ∧ (a13 = true ∨ zeroA z)) : vpk a0 a1 a2 a3 x y z a13 l = decide (vld (ab l)) := by
  unfold vpk vhd; rw [decide_eq_true h, Bool.true_and]
theorem dtail (a0 a1 a2 : Int) (a3 : ByteArray) (x y z : S24) (a13 : Bool) (l : List S61) (hx : 0 ≤ x.f2) (hy : 0 ≤ y.f2) (hz : 0 ≤ z.f2) (hl : ∀ o ∈ l, o.f1.size ≤ 140737488351232) (k : Nat) (hk : 100 < k)
    (h0 : 1 ≤ a0 ∧ a0 ≤ 8) (h1 : 0 ≤ a1 ∧ a1 < 4294967296) (h2 : 0 ≤ a2 ∧ a2 < 65536) (hc : cli a3 = true) :
    dhcp_Valid.j0 (k + 1) false a0 a1 a2 a3 x.f0 x.f1 x.f2 y.f0 y.f1 y.f2 z.f0 z.f1 z.f2 a13 l = some (vpk a0 a1 a2 a3 x y z a13 l) := by
  rw [dhcp_Valid.j0, if_neg Bool.false_ne_true, ipv4_f x hx, Option.bind_some]
  by_cases hx' : okA x
  case neg => rw [decide_eq_false hx', if_neg Bool.false_ne_true, vhd_false (fun h => hx' h.2.2.2.2.1)]
  rw [decide_eq_true hx', if_pos rfl, ipv4_f y hy, Option.bind_some]
  by_cases hy' : okA y
  case neg => rw [decide_eq_false hy', if_neg Bool.false_ne_true, vhd_false (fun h => hy' h.2.2.2.2.2.1)]
  rw [decide_eq_true hy', if_pos rfl, ipv4_f z hz, Option.bind_some]
  by_cases hz' : okA z
  case neg => rw [decide_eq_false hz', if_neg Bool.false_ne_true, vhd_false (fun h => hz' h.2.2.2.2.2.2.1)]
  rw [decide_eq_true hz', if_pos rfl, ne_zeroA z, valid_f l hl k hk]
  by_cases h13 : a13 = true
  · rw [if_pos h13]
    rw [vhd_true ⟨h0, h1, h2, hc, hx', hy', hz', .inl h13⟩]
    rfl
  · rw [if_neg h13]
    by_cases hz0 : zeroA z
    · rw [decide_eq_true hz0, Bool.not_true, if_neg Bool.false_ne_true]
      rw [vhd_true ⟨h0, h1, h2, hc, hx', hy', hz', .inr hz0⟩]
      rfl
    · rw [decide_eq_false hz0, Bool.not_false, if_pos rfl, vhd_false (fun h => h.2.2.2.2.2.2.2.elim h13 hz0)]
theorem rtail (a0 a1 a2 : Int) (a3 : ByteArray) (x y z : S24) (a13 : Bool) (l : List S61) (hx : 0 ≤ x.f2) (hy : 0 ≤ y.f2) (hz : 0 ≤ z.f2) (hl : ∀ o ∈ l, o.f1.size ≤ 140737488351232) (k : Nat) (hk : 100 < k)
    (h0 : 1 ≤ a0 ∧ a0 ≤ 8) (h1 : 0 ≤ a1 ∧ a1 < 4294967296) (h2 : 0 ≤ a2 ∧ a2 < 65536) (hc : cli a3 = true) :
    ddiref36_Valid.j0 (k + 1) false a0 a1 a2 a3 x.f0 x.f1 x.f2 y.f0 y.f1 y.f2 z.f0 z.f1 z.f2 a13 l = some (vpk a0 a1 a2 a3 x y z a13 l) := by
  rw [ddiref36_Valid.j0, if_neg Bool.false_ne_true, isV4_f x hx, Option.bind_some]
  by_cases hx' : okA x
  case neg => rw [decide_eq_false hx', if_neg Bool.false_ne_true, vhd_false (fun h => hx' h.2.2.2.2.1)]
  rw [decide_eq_true hx', if_pos rfl, isV4_f y hy, Option.bind_some]
  by_cases hy' : okA y
  case neg => rw [decide_eq_false hy', if_neg Bool.false_ne_true, vhd_false (fun h => hy' h.2.2.2.2.2.1)]
  rw [decide_eq_true hy', if_pos rfl, isV4_f z hz, Option.bind_some]
  by_cases hz' : okA z
  case neg => rw [decide_eq_false hz', if_neg Bool.false_ne_true, vhd_false (fun h => hz' h.2.2.2.2.2.2.1)]
  rw [decide_eq_true hz', if_pos rfl, ne_zeroA z, rvalid_f l hl k hk]
  by_cases h13 : a13 = true
  · rw [if_pos h13]
    rw [vhd_true ⟨h0, h1, h2, hc, hx', hy', hz', .inl h13⟩]
    rfl
  · rw [if_neg h13]
    by_cases hz0 : zeroA z
    · rw [decide_eq_true hz0, Bool.not_true, if_neg Bool.false_ne_true]
      rw [vhd_true ⟨h0, h1, h2, hc, hx', hy', hz', .inr hz0⟩]
      rfl
    · rw [decide_eq_false hz0, Bool.not_false, if_pos rfl, vhd_false (fun h => h.2.2.2.2.2.2.2.elim h13 hz0)]
theorem dj_true (k : Nat) (a0 a1 a2 : Int) (a3 : ByteArray) (b4 : Bool) (a5 a6 : Int) (b7 : Bool) (a8 a9 : Int) (b10 : Bool) (a11 a12 : Int) (a13 : Bool) (l : List S61) :
    dhcp_Valid.j0 (k + 1) true a0 a1 a2 a3 b4 a5 a6 b7 a8 a9 b10 a11 a12 a13 l = some false := by rw [dhcp_Valid.j0, if_pos rfl]
theorem rj_true (k : Nat) (a0 a1 a2 : Int) (a3 : ByteArray) (b4 : Bool) (a5 a6 : Int) (b7 : Bool) (a8 a9 : Int) (b10 : Bool) (a11 a12 : Int) (a13 : Bool) (l : List S61) :
    ddiref36_Valid.j0 (k + 1) true a0 a1 a2 a3 b4 a5 a6 b7 a8 a9 b10 a11 a12 a13 l = some false := by rw [ddiref36_Valid.j0, if_pos rfl]
theorem dvalid_f (a0 a1 a2 : Int) (a3 : ByteArray) (x y z : S24) (a13 : Bool) (l : List S61) (hx : 0 ≤ x.f2) (hy : 0 ≤ y.f2) (hz : 0 ≤ z.f2) (hl : ∀ o ∈ l, o.f1.size ≤ 140737488351232) (k : Nat) (hk : 200 < k) :
    dhcp_Valid.f k a0 a1 a2 a3 x.f0 x.f1 x.f2 y.f0 y.f1 y.f2 z.f0 z.f1 z.f2 a13 l = some (vpk a0 a1 a2 a3 x y z a13 l) := by
  obtain ⟨k, rfl⟩ : ∃ q, k = q + 1 := ⟨k - 1, by omega⟩
  unfold dhcp_Valid.f
  rw [operation_f a0 (k + 1) (by omega), Option.bind_some, (client_f a3 (k + 1) (by omega)).1, Option.bind_some]
  by_cases h0 : 1 ≤ a0 ∧ a0 ≤ 8
  case neg => rw [if_pos ((opr_zero a0).2 h0), dj_true k, vhd_false (fun h => h0 h.1)]
  rw [if_neg (fun e => (opr_zero a0).1 e h0)]
  by_cases h1 : a1 < 0
  · rw [if_pos h1, dj_true k, vhd_false (fun h => by have := h.2.1; omega)]
  rw [if_neg h1]
  by_cases h2 : a1 ≥ 4294967296
  · rw [if_pos h2, dj_true k, vhd_false (fun h => by have := h.2.1; omega)]
  rw [if_neg h2]
  by_cases h3 : a2 < 0
  · rw [if_pos h3, dj_true k, vhd_false (fun h => by have := h.2.2.1; omega)]
  rw [if_neg h3]
  by_cases h4 : a2 ≥ 65536
  · rw [if_pos (by omega), dj_true k, vhd_false (fun h => by have := h.2.2.1; omega)]
  rw [if_neg (by omega)]
  by_cases hc : cli a3 = true
  · rw [hc]; exact dtail a0 a1 a2 a3 x y z a13 l hx hy hz hl k (by omega) h0 (by omega) (by omega) hc
  · rw [Bool.not_eq_true] at hc
    rw [hc, Bool.not_false, dj_true k, vhd_false (fun h => by rw [hc] at h; cases h.2.2.2.1)]
theorem rvalid36_f (a0 a1 a2 : Int) (a3 : ByteArray) (x y z : S24) (a13 : Bool) (l : List S61) (hx : 0 ≤ x.f2) (hy : 0 ≤ y.f2) (hz : 0 ≤ z.f2) (hl : ∀ o ∈ l, o.f1.size ≤ 140737488351232) (k : Nat) (hk : 200 < k) :
    ddiref36_Valid.f k a0 a1 a2 a3 x.f0 x.f1 x.f2 y.f0 y.f1 y.f2 z.f0 z.f1 z.f2 a13 l = some (vpk a0 a1 a2 a3 x y z a13 l) := by
  obtain ⟨k, rfl⟩ : ∃ q, k = q + 1 := ⟨k - 1, by omega⟩
  unfold ddiref36_Valid.f
  rw [(client_f a3 (k + 1) (by omega)).2, Option.bind_some]
  by_cases h0 : 1 ≤ a0 ∧ a0 ≤ 8
  case neg =>
    rw [vhd_false (fun h => h0 h.1)]
    by_cases h00 : a0 < 1
    · rw [if_pos h00, rj_true k]
    · rw [if_neg h00, if_pos (by omega), rj_true k]
  rw [if_neg (by omega), if_neg (by omega)]
  by_cases h1 : a1 < 0
  · rw [if_pos h1, rj_true k, vhd_false (fun h => by have := h.2.1; omega)]
  rw [if_neg h1]
  by_cases h2 : a1 ≥ 4294967296
  · rw [if_pos h2, rj_true k, vhd_false (fun h => by have := h.2.1; omega)]
  rw [if_neg h2]
  by_cases h3 : a2 < 0
  · rw [if_pos h3, rj_true k, vhd_false (fun h => by have := h.2.2.1; omega)]
  rw [if_neg h3]
  by_cases h4 : a2 ≥ 65536
  · rw [if_pos (by omega), rj_true k, vhd_false (fun h => by have := h.2.2.1; omega)]
  rw [if_neg (by omega)]
  by_cases hc : cli a3 = true
  · rw [hc]; exact rtail a0 a1 a2 a3 x y z a13 l hx hy hz hl k (by omega) h0 (by omega) (by omega) hc
  · rw [Bool.not_eq_true] at hc
    rw [hc, Bool.not_false, rj_true k, vhd_false (fun h => by rw [hc] at h; cases h.2.2.2.1)]
theorem vpk_parts {a0 a1 a2 : Int} {a3 : ByteArray} {x y z : S24} {a13 : Bool} {l : List S61} (h : vpk a0 a1 a2 a3 x y z a13 l = true) :
    ((1 ≤ a0 ∧ a0 ≤ 8) ∧ (0 ≤ a1 ∧ a1 < 4294967296) ∧ (0 ≤ a2 ∧ a2 < 65536) ∧ cli a3 = true ∧ okA x ∧ okA y ∧ okA z ∧ (a13 = true ∨ zeroA z)) ∧ vld (ab l) := by
  unfold vpk vhd at h
  rw [Bool.and_eq_true] at h
  exact ⟨of_decide_eq_true h.1, of_decide_eq_true h.2⟩
theorem cli_size {s : ByteArray} (h : cli s = true) : 1 ≤ s.size ∧ s.size ≤ 32 := by
  unfold cli at h; rw [Bool.and_eq_true] at h; exact of_decide_eq_true h.1
end Go.Proofs.YtcoekgnbncocnaaDoor.PK


namespace Go.Proofs.YtcoekgnbncocnaaDoor.OPT
open Go Go.RowKit Go.Proofs.YtcoekgnbncocnaaDoorW.PrintWords Go.Proofs.YtcoekgnbncocnaaDoor.DN Go.Proofs.YtcoekgnbncocnaaDoor.Pa
set_option linter.unusedVariables false
set_option linter.unusedSimpArgs false

theorem two_nums (a b : Int) : L (strOfNums [a, b]) = [UInt8.ofNat a.toNat, UInt8.ofNat b.toNat] := by simp [strOfNums, L]
theorem byte_mod {c : Int} (h1 : 1 ≤ c) (h2 : c ≤ 254) : UInt8.ofNat (c % 256).toNat = UInt8.ofNat c.toNat := by rw [show c % 256 = c by omega]
theorem renc_v (l : List S61) (i : Nat) (hlt : i < l.length) (hl : l.length ≤ 32) (hc1 : 1 ≤ l[i].f0) (hc2 : l[i].f0 ≤ 254) (K0 : Nat) (T : List UInt8) (M : Nat)
    (ih : ∀ k out, K0 < k → out.size ≤ M + 10000 → ddiref35_Encode.l0 k l out ((i + 1 : Nat) : Int) = some (B (L out ++ T), 0)) (hM : M ≤ 1000000000) :
    ∀ (n : Nat) (v out : ByteArray) (k : Nat), v.size ≤ n → n ≤ 1024 → n + K0 + 1 < k → out.size + 4 * v.size ≤ M + 9000 → ddiref35_Encode.l1 k l out (i : Int) v = some (B (L out ++ (encV (UInt8.ofNat l[i].f0.toNat) (L v) ++ T)), 0) := by
  intro n
  induction n using Nat.strongRecOn with
  | ind n ihn =>
    intro v out k hv hn hk ho
    obtain ⟨k, rfl⟩ : ∃ q, k = q + 1 := ⟨k - 1, by omega⟩
    rw [ddiref35_Encode.l1, rd_at hlt]
    by_cases h : (v.size : Int) > 255
    · have e1 : (strOfNums [l[i].f0 % 256, 255]).size = 2 := by rw [← L_len, two_nums]; rfl
      have e2 : (v.extract 0 255).size = 255 := by rw [ByteArray.size_extract]; omega
      have e3 : (v.extract 255 v.size).size = v.size - 255 := by rw [ByteArray.size_extract]; omega
      rw [if_pos h, if_pos (by omega), if_pos (by omega), Option.bind_some, if_pos (by omega), if_pos (by decide), if_pos (by omega), if_pos (by rw [ByteArray.size_append]; omega)]
      rw [ihn (v.size - 255) (by omega) (v.extract 255 v.size) _ k (by omega) (by omega) (by omega) (by rw [ByteArray.size_append, ByteArray.size_append]; omega)]
      refine congrArg (fun z => some (B z, (0 : Int))) ?_
      rw [encV.eq_def (UInt8.ofNat l[i].f0.toNat) (L v), dif_neg (by rw [L_len]; omega), L_append, L_append, two_nums, byte_mod hc1 hc2, L_extract, L_extract, List.drop_zero,
        List.take_of_length_le (i := v.size - 255) (by rw [List.length_drop, L_len]; omega)]
      simp
    · have e1 : (strOfNums [l[i].f0 % 256, (v.size : Int) % 256]).size = 2 := by rw [← L_len, two_nums]; rfl
      rw [if_neg h, if_pos (by omega), if_pos (by omega), Option.bind_some, if_pos (by omega), if_pos (by rw [ByteArray.size_append]; omega), wsucc (by omega), ih k _ (by omega) (by rw [ByteArray.size_append, ByteArray.size_append]; omega)]
      refine congrArg (fun z => some (B z, (0 : Int))) ?_
      rw [encV, dif_pos (by rw [L_len]; omega), L_append, L_append, two_nums, byte_mod hc1 hc2, L_len, show ((v.size : Int) % 256).toNat = v.size by omega]
      simp
theorem renc_l (l : List S61) (hv : vld (ab l)) : ∀ (n k i : Nat) (out : ByteArray), l.length - i ≤ n → n * 1100 + 10 < k → i ≤ l.length → out.size ≤ i * 20000 →
    ddiref35_Encode.l0 k l out (i : Int) = some (B (L out ++ enc (ab (l.drop i))), 0) := by
  have hl := no_sizes hv.1
  have hl1 := hl.1
  have hend : ∀ k out, 0 < k → out.size ≤ 1000000 → ddiref35_Encode.l0 k l out (l.length : Int) = some (B (L out ++ enc (ab (l.drop l.length))), 0) := by
    intro k out hk ho
    obtain ⟨k, rfl⟩ : ∃ q, k = q + 1 := ⟨k - 1, by omega⟩
    rw [ddiref35_Encode.l0, if_neg (by omega), if_pos (by omega), List.drop_length]
    have : out ++ (⟨#[255]⟩ : ByteArray) = B (L out ++ enc (ab [])) := by apply L_inj; rw [L_append, L_B]; rfl
    rw [this]
  intro n
  induction n with
  | zero =>
    intro k i out hn hk hi ho
    obtain rfl : i = l.length := by omega
    exact hend k out (by omega) (by omega)
  | succ n ih =>
    intro k i out hn hk hi ho
    by_cases hlt : i < l.length
    · obtain ⟨k, rfl⟩ : ∃ q, k = q + 1 := ⟨k - 1, by omega⟩
      have hok := hv.2.2 (o1 l[i]) (List.mem_map_of_mem (List.getElem_mem hlt))
      have hsz := hl.2 _ (List.getElem_mem hlt)
      rw [ddiref35_Encode.l0, if_pos (by omega), if_pos (by omega), rd_at hlt]
      have key := renc_v l i hlt hl.1 hok.1 hok.2 (n * 1100 + 10) (enc (ab (l.drop (i + 1)))) (i * 20000)
        (fun k out hk ho => ih k (i + 1) out (by omega) hk (by omega) (by omega)) (by omega) l[i].f1.size l[i].f1 out k (Nat.le_refl _) hsz (by omega) (by omega)
      rw [key, drop_at hlt, ab_cons]
      have : encV (UInt8.ofNat l[i].f0.toNat) (L l[i].f1) ++ enc (ab (l.drop (i + 1))) = enc (o1 l[i] :: ab (l.drop (i + 1))) := by simp [enc, encL, o1]
      rw [this]
    · obtain rfl : i = l.length := by omega
      exact hend k out (by omega) (by omega)
theorem renc_f (l : List S61) (h : ∀ x ∈ l, x.f1.size ≤ 140737488351232) (k : Nat) (hk : 100000 < k) : ddiref35_Encode.f k l = some (encA (ab l)) := by
  unfold ddiref35_Encode.f encA
  rw [rvalid_f l h k (by omega), Option.bind_some]
  by_cases hv : vld (ab l)
  · have hl := no_sizes hv.1
    rw [decide_eq_true hv, if_pos rfl, if_pos hv]
    have h0 : (⟨#[]⟩ : ByteArray).size = 0 := rfl
    have := renc_l l hv l.length k 0 ⟨#[]⟩ (by omega) (by omega) (by omega) (by omega)
    rw [List.drop_zero] at this
    exact this
  · rw [decide_eq_false hv, if_neg (by decide), if_neg hv]
end Go.Proofs.YtcoekgnbncocnaaDoor.OPT


namespace Go.Proofs.YtcoekgnbncocnaaDoor.PK
open Go Go.RowKit Go.Proofs.YtcoekgnbncocnaaDoorW.PrintWords Go.Proofs.YtcoekgnbncocnaaDoorW.PrintLast Go.Proofs.YtcoekgnbncocnaaDoorW.PrintMore Go.Proofs.YtcoekgnbncocnaaDoor.DN Go.Proofs.YtcoekgnbncocnaaDoor.OPT Go.Proofs.YtcoekgnbncocnaaDoor.ADR Go.Proofs.YtcoekgnbncocnaaDoor.Pa
set_option linter.unusedVariables false
set_option linter.unusedSimpArgs false

def byt (n : Int) : UInt8 := UInt8.ofNat (n % 256).toNat
def two (n : Int) : List UInt8 := [byt (n / 256), byt n]
def hd36 (a0 a1 a2 : Int) (a3 : ByteArray) (x y z : S24) (a13 : Bool) : List UInt8 :=
  byt (opr a0) :: byt a0 :: (word a1 ++ (two a2 ++ (word x.f2 ++ (word y.f2 ++ (word z.f2 ++ ((if a13 = true then 1 else 0) :: byt a3.size :: L a3))))))
def encP (a0 a1 a2 : Int) (a3 : ByteArray) (x y z : S24) (a13 : Bool) (l : List S61) : ByteArray × Int :=
  if vpk a0 a1 a2 a3 x y z a13 l = true then (B (hd36 a0 a1 a2 a3 x y z a13 ++ enc (ab l)), 0) else (⟨#[]⟩, 1)
theorem encL_len : ∀ (l : List O), (encL l).length ≤ 3 * sz l + 2 * l.length
  | [] => by simp [encL]
  | o :: l => by
    rw [encL, List.length_append]
    have h1 := encL_len l
    have h2 := enc_length_le o.2.length (UInt8.ofNat o.1.toNat) o.2 (Nat.le_refl _)
    have h3 : sz (o :: l) = o.2.length + sz l := by simp [sz]
    rw [h3, List.length_cons]; omega
theorem enc_small {l : List O} (h : vld l) : (enc l).length ≤ 13000 := by
  unfold enc; rw [List.length_append, List.length_singleton]
  have := encL_len l
  have h1 := h.1.1
  have h2 := h.1.2.1
  omega
theorem map_bytesOf (s : ByteArray) : (bytesOf s).map (fun n : Int => UInt8.ofNat n.toNat) = L s := by
  unfold bytesOf
  rw [List.map_map]
  refine (List.map_congr_left (fun b _ => ?_)).trans (List.map_id _)
  simp
theorem wrapu8 (n : Int) : IntKind.u8.wrap n = n % 256 := by rw [IntKind.wrap_u8]
theorem L_hdr (op a0 a1 a2 : Int) : (hdr op a0 a1 a2).map (fun n : Int => UInt8.ofNat n.toNat) = UInt8.ofNat op.toNat :: byt a0 :: (word a1 ++ two a2) := by
  unfold hdr
  simp only [wrapu8]
  rfl
theorem opr_byt (n : Int) : UInt8.ofNat (opr n).toNat = byt (opr n) := by
  unfold byt opr
  split
  · rfl
  · split <;> rfl
theorem enc36_f (a0 a1 a2 : Int) (a3 : ByteArray) (x y z : S24) (a13 : Bool) (l : List S61) (hx : 0 ≤ x.f2) (hy : 0 ≤ y.f2) (hz : 0 ≤ z.f2) (hl : ∀ o ∈ l, o.f1.size ≤ 140737488351232) (k : Nat) (hk : 200 < k) :
    dhcp_Encode.f k a0 a1 a2 a3 x.f0 x.f1 x.f2 y.f0 y.f1 y.f2 z.f0 z.f1 z.f2 a13 l = some (encP a0 a1 a2 a3 x y z a13 l) := by
  unfold dhcp_Encode.f
  rw [dvalid_f a0 a1 a2 a3 x y z a13 l hx hy hz hl k hk, Option.bind_some]
  unfold encP
  by_cases hv : vpk a0 a1 a2 a3 x y z a13 l = true
  case neg => rw [if_neg hv, if_neg hv]
  obtain ⟨⟨h0, h1, h2, hc, hx', hy', hz', h13⟩, hvl⟩ := vpk_parts hv
  have hcs := cli_size hc
  have hes := enc_small hvl
  rw [if_pos hv, if_pos hv, operation_f a0 k (by omega), Option.bind_some, wire_ok hx' k (by omega), Option.bind_some, wire_ok hy' k (by omega), Option.bind_some, wire_ok hz' k (by omega), Option.bind_some]
  rw [show option_Encode.f l = some (encA (ab l)) by unfold option_Encode.f; rw [if_pos (List.all_eq_true.2 fun x hx => decide_eq_true (hl x hx))], Option.bind_some]
  unfold encA
  rw [if_pos hvl, if_pos (by refine ⟨by rw [B_size]; show 4 ≤ 1000; decide, by rw [B_size]; show 4 ≤ 1000; decide, by rw [B_size]; show 4 ≤ 1000; decide, by omega, by rw [B_size]; omega⟩), if_pos rfl]
  refine congrArg (fun b => some (b, (0 : Int))) (L_inj ?_)
  rw [L_append, L_nums, L_B, L_B]
  simp only [List.map_append, List.map_cons, List.map_nil, map_bytesOf, L_hdr, L_B]
  rw [opr_byt]
  unfold hd36
  simp only [List.append_assoc, List.cons_append, List.nil_append]
  cases a13 <;> rfl

def dw (n : Int) : Nat → Int
  | 0 => n
  | i + 1 => wrap64 (Int.tdiv (dw n i) 256)
theorem dw_nn {n : Int} (h0 : 0 ≤ n) (h1 : n < 9223372036854775807) : ∀ i, 0 ≤ dw n i ∧ dw n i ≤ n ∧ dw n (i + 1) = dw n i / 256
  | 0 => ⟨h0, Int.le_refl _, by show wrap64 (Int.tdiv n 256) = _; rw [Int.tdiv_eq_ediv_of_nonneg h0, wrap_id (by omega) (by omega)]; rfl⟩
  | i + 1 => by
    obtain ⟨a, b, c⟩ := dw_nn h0 h1 i
    have d0 : 0 ≤ dw n (i + 1) := by rw [c]; omega
    have d1 : dw n (i + 1) ≤ n := by rw [c]; omega
    refine ⟨d0, d1, ?_⟩
    show wrap64 (Int.tdiv (dw n (i + 1)) 256) = _
    rw [Int.tdiv_eq_ediv_of_nonneg d0, wrap_id (by omega) (by omega)]
theorem bytes_1 (n : Int) (k : Nat) (hk : 20 ≤ k) : ddiref36_bytes.f k n 1 = some (strOfNums [Int.tmod (dw n 0) 256 % 256] ++ ⟨#[]⟩) := by
  refine up (fun k => ddiref36_bytes.mono _ _ k) hk ?_
  kernel_rfl
theorem bytes_2 (n : Int) (k : Nat) (hk : 20 ≤ k) : ddiref36_bytes.f k n 2 = some (strOfNums [Int.tmod (dw n 1) 256 % 256] ++ (strOfNums [Int.tmod (dw n 0) 256 % 256] ++ ⟨#[]⟩)) := by
  refine up (fun k => ddiref36_bytes.mono _ _ k) hk ?_
  kernel_rfl
theorem bytes_4 (n : Int) (k : Nat) (hk : 20 ≤ k) : ddiref36_bytes.f k n 4 = some (strOfNums [Int.tmod (dw n 3) 256 % 256] ++ (strOfNums [Int.tmod (dw n 2) 256 % 256] ++ (strOfNums [Int.tmod (dw n 1) 256 % 256] ++ (strOfNums [Int.tmod (dw n 0) 256 % 256] ++ ⟨#[]⟩)))) := by
  refine up (fun k => ddiref36_bytes.mono _ _ k) hk ?_
  kernel_rfl
theorem one_num (a : Int) : L (strOfNums [a]) = [UInt8.ofNat a.toNat] := by simp [strOfNums, L]
theorem rbytes1 {n : Int} (h0 : 0 ≤ n) (h1 : n < 9223372036854775807) (k : Nat) (hk : 20 ≤ k) : ddiref36_bytes.f k n 1 = some (B [byt n]) := by
  rw [bytes_1 n k hk]
  refine congrArg some (L_inj ?_)
  have a0 := dw_nn h0 h1 0
  have e0 : dw n 0 = n := rfl
  rw [L_append, one_num, L_B, Int.tmod_eq_emod_of_nonneg a0.1, e0, show n % 256 % 256 = n % 256 by omega]; rfl
theorem rbytes2 {n : Int} (h0 : 0 ≤ n) (h1 : n < 9223372036854775807) (k : Nat) (hk : 20 ≤ k) : ddiref36_bytes.f k n 2 = some (B (two n)) := by
  rw [bytes_2 n k hk]
  refine congrArg some (L_inj ?_)
  have a0 := dw_nn h0 h1 0
  have a1 := dw_nn h0 h1 1
  have e0 : dw n 0 = n := rfl
  have e1 : dw n 1 = n / 256 := by rw [a0.2.2, e0]
  rw [L_append, L_append, one_num, one_num, L_B, Int.tmod_eq_emod_of_nonneg a0.1, Int.tmod_eq_emod_of_nonneg a1.1, e0, e1, show n % 256 % 256 = n % 256 by omega, show n / 256 % 256 % 256 = n / 256 % 256 by omega]; rfl
theorem rbytes4 {n : Int} (h0 : 0 ≤ n) (h1 : n < 9223372036854775807) (k : Nat) (hk : 20 ≤ k) : ddiref36_bytes.f k n 4 = some (B (word n)) := by
  rw [bytes_4 n k hk]
  refine congrArg some (L_inj ?_)
  have a0 := dw_nn h0 h1 0
  have a1 := dw_nn h0 h1 1
  have a2 := dw_nn h0 h1 2
  have a3 := dw_nn h0 h1 3
  have e0 : dw n 0 = n := rfl
  have e1 : dw n 1 = n / 256 := by rw [a0.2.2, e0]
  have e2 : dw n 2 = n / 256 / 256 := by rw [a1.2.2, e1]
  have e3 : dw n 3 = n / 256 / 256 / 256 := by rw [a2.2.2, e2]
  rw [L_append, L_append, L_append, L_append, one_num, one_num, one_num, one_num, L_B, Int.tmod_eq_emod_of_nonneg a0.1, Int.tmod_eq_emod_of_nonneg a1.1, Int.tmod_eq_emod_of_nonneg a2.1, Int.tmod_eq_emod_of_nonneg a3.1, e0, e1, e2, e3]
  rw [show n / 256 / 256 / 256 % 256 % 256 = n / 16777216 % 256 by omega, show n / 256 / 256 % 256 % 256 = n / 65536 % 256 by omega, show n / 256 % 256 % 256 = n / 256 % 256 by omega, show n % 256 % 256 = n % 256 by omega]; rfl
theorem sz2 (a b : List UInt8) (h : a.length + b.length ≤ 100000) : (B a).size + (B b).size ≤ 9223372036854775807 := by rw [B_size, B_size]; omega
theorem rj36 (c : Int) (hc0 : c = 0 ∨ c = 1) (a0 a1 a2 : Int) (a3 : ByteArray) (x y z : S24) (a13 : Bool) (l : List S61) (hx : 0 ≤ x.f2) (hy : 0 ≤ y.f2) (hz : 0 ≤ z.f2) (hl : ∀ o ∈ l, o.f1.size ≤ 140737488351232) (k : Nat) (hk : 100000 < k)
    (h0 : 1 ≤ a0 ∧ a0 ≤ 8) (h1 : 0 ≤ a1 ∧ a1 < 4294967296) (h2 : 0 ≤ a2 ∧ a2 < 65536) (hc : cli a3 = true) (hx' : okA x) (hy' : okA y) (hz' : okA z) (hv : vld (ab l)) :
    ddiref36_Encode.j0 (k + 1) c a0 a1 a2 a3 x.f0 x.f1 x.f2 y.f0 y.f1 y.f2 z.f0 z.f1 z.f2 a13 l = some (B (byt (opr a0) :: byt a0 :: (word a1 ++ (two a2 ++ (word x.f2 ++ (word y.f2 ++ (word z.f2 ++ (byt c :: byt a3.size :: L a3)))))) ++ enc (ab l)), 0) := by
  have hcs := cli_size hc
  have hes := enc_small hv
  have ho : 0 ≤ opr a0 ∧ opr a0 ≤ 2 := by unfold opr; split; omega; split <;> omega
  have hne : opr a0 ≠ 0 := fun e => (opr_zero a0).1 e h0
  have hw : ∀ n, (word n).length = 4 := fun n => rfl
  have ht : (two a2).length = 2 := rfl
  have hB3 : a3 = B (L a3) := (B_L a3).symm
  have hL3 : (L a3).length = a3.size := L_len a3
  rw [ddiref36_Encode.j0, op_f a0 hne, Option.bind_some, rbytes1 ho.1 (by omega) k (by omega), Option.bind_some, rbytes1 (by omega) (by omega) k (by omega), Option.bind_some, if_pos (sz2 _ _ (by simp))]
  rw [rbytes4 h1.1 (by omega) k (by omega), Option.bind_some, ← B_append, if_pos (sz2 _ _ (by simp [hw])), rbytes2 h2.1 (by omega) k (by omega), Option.bind_some, ← B_append, if_pos (sz2 _ _ (by simp [hw, ht]))]
  have hxo := hx'.2.2
  have hyo := hy'.2.2
  have hzo := hz'.2.2
  rw [wrap_id (x := x.f2) (by omega) (by omega), wrap_id (x := y.f2) (by omega) (by omega), wrap_id (x := z.f2) (by omega) (by omega)]
  rw [rbytes4 hx (by omega) k (by omega), Option.bind_some, ← B_append, if_pos (sz2 _ _ (by simp [hw, ht])), rbytes4 hy (by omega) k (by omega), Option.bind_some, ← B_append, if_pos (sz2 _ _ (by simp [hw, ht])), rbytes4 hz (by omega) k (by omega), Option.bind_some, ← B_append, if_pos (sz2 _ _ (by simp [hw, ht]))]
  rw [renc_f l hl k (by omega), Option.bind_some]
  unfold encA
  rw [if_pos hv, if_pos rfl, ← B_append, rbytes1 (n := c) (by omega) (by omega) k (by omega), Option.bind_some, if_pos (sz2 _ _ (by simp [hw, ht])), rbytes1 (n := (a3.size : Int)) (by omega) (by omega) k (by omega), Option.bind_some, ← B_append, if_pos (sz2 _ _ (by simp [hw, ht]))]
  have e3 : ∀ X : List UInt8, B X ++ a3 = B (X ++ L a3) := fun X => by rw [B_append, B_L]
  have e4 : ∀ X : List UInt8, X.length ≤ 90000 → (B X).size + a3.size ≤ 9223372036854775807 := fun X h => by rw [B_size]; omega
  rw [← B_append, if_pos (e4 _ (by simp [hw, ht])), e3, if_pos (sz2 _ _ (by simp [hw, ht]; omega)), ← B_append]
  refine congrArg (fun b => some (B b, (0 : Int))) ?_
  simp only [List.append_assoc, List.cons_append, List.nil_append]
theorem renc36_f (a0 a1 a2 : Int) (a3 : ByteArray) (x y z : S24) (a13 : Bool) (l : List S61) (hx : 0 ≤ x.f2) (hy : 0 ≤ y.f2) (hz : 0 ≤ z.f2) (hl : ∀ o ∈ l, o.f1.size ≤ 140737488351232) (k : Nat) (hk : 100001 < k) :
    ddiref36_Encode.f k a0 a1 a2 a3 x.f0 x.f1 x.f2 y.f0 y.f1 y.f2 z.f0 z.f1 z.f2 a13 l = some (encP a0 a1 a2 a3 x y z a13 l) := by
  obtain ⟨k, rfl⟩ : ∃ q, k = q + 1 := ⟨k - 1, by omega⟩
  unfold ddiref36_Encode.f
  rw [rvalid36_f a0 a1 a2 a3 x y z a13 l hx hy hz hl (k + 1) (by omega), Option.bind_some]
  unfold encP
  by_cases hv : vpk a0 a1 a2 a3 x y z a13 l = true
  case neg => rw [if_neg hv, if_neg hv]
  obtain ⟨⟨h0, h1, h2, hc, hx', hy', hz', h13⟩, hvl⟩ := vpk_parts hv
  rw [if_pos hv, if_pos hv]
  unfold hd36
  by_cases h : a13 = true
  · rw [if_pos h, if_pos h, rj36 1 (.inr rfl) a0 a1 a2 a3 x y z a13 l hx hy hz hl k (by omega) h0 h1 h2 hc hx' hy' hz' hvl]; rfl
  · rw [if_neg h, if_neg h, rj36 0 (.inl rfl) a0 a1 a2 a3 x y z a13 l hx hy hz hl k (by omega) h0 h1 h2 hc hx' hy' hz' hvl]; rfl
end Go.Proofs.YtcoekgnbncocnaaDoor.PK


namespace Go.Proofs.YtcoekgnbncocnaaDoor.PK
open Go Go.RowKit Go.Proofs.YtcoekgnbncocnaaDoorW.PrintWords Go.Proofs.YtcoekgnbncocnaaDoorW.PrintLast Go.Proofs.YtcoekgnbncocnaaDoorW.PrintMore Go.Proofs.YtcoekgnbncocnaaDoor.DN Go.Proofs.YtcoekgnbncocnaaDoor.OPT Go.Proofs.YtcoekgnbncocnaaDoor.ADR Go.Proofs.YtcoekgnbncocnaaDoor.Pa
set_option linter.unusedVariables false
set_option linter.unusedSimpArgs false

def cutO (x : S61) : S61 := ⟨x.f0, x.f1.extract 0 (min x.f1.size 1100)⟩
def shl (l : List S61) : List S61 := (l.take 40).map cutO
theorem mn_nat (a b : Nat) : mn (a : Int) (b : Int) = ((min a b : Nat) : Int) := by unfold mn; split <;> omega
theorem mn_1100 (a : Nat) : mn (a : Int) 1100 = ((min a 1100 : Nat) : Int) := mn_nat a 1100
theorem mn_100 (a : Nat) : mn (a : Int) 100 = ((min a 100 : Nat) : Int) := mn_nat a 100
theorem cutO_size (x : S61) : (cutO x).f1.size ≤ 1100 := by
  unfold cutO; simp only [ByteArray.size_extract]; omega
theorem opts_l (l : List S61) (hl : l.length ≤ 5864062014805) : ∀ (n k i : Nat), 40 - i ≤ n → n < k → i ≤ 40 → i ≤ l.length →
    ddiref36_options.l0 k l ((l.take i).map cutO) (i : Int) = some (shl l) := by
  intro n
  induction n with
  | zero =>
    intro k i hn hk hi hil
    obtain ⟨k, rfl⟩ : ∃ q, k = q + 1 := ⟨k - 1, by omega⟩
    obtain rfl : i = 40 := by omega
    rw [ddiref36_options.l0]
    by_cases h : 40 < l.length
    · rw [if_pos (by omega), if_neg (by omega)]; rfl
    · rw [if_neg (by omega)]; rfl
  | succ n ih =>
    intro k i hn hk hi hil
    obtain ⟨k, rfl⟩ : ∃ q, k = q + 1 := ⟨k - 1, by omega⟩
    rw [ddiref36_options.l0]
    by_cases h1 : i < l.length
    · rw [if_pos (by omega)]
      by_cases h2 : i < 40
      · have h3 : ((l.take i).map cutO).length ≤ 40 := by rw [List.length_map, List.length_take]; omega
        rw [if_pos (by omega), if_pos (by omega), rd_at h1, mn_1100, if_pos (by omega), if_pos (by omega), if_pos (by omega), Int.toNat_natCast, wsucc (by omega)]
        have h4 : (l.take (i + 1)).map cutO = (l.take i).map cutO ++ [(⟨l[i].f0, l[i].f1.extract 0 (min l[i].f1.size 1100)⟩ : S61)] := by
          rw [List.take_succ_eq_append_getElem h1, List.map_append]; rfl
        rw [← h4]
        exact ih k (i + 1) (by omega) (by omega) (by omega) (by omega)
      · rw [if_neg (by omega)]
        obtain rfl : i = 40 := by omega
        rfl
    · rw [if_neg (by omega)]
      obtain rfl : i = l.length := by omega
      unfold shl
      rw [List.take_length, List.take_of_length_le hi]
theorem opts_f (l : List S61) (hl : l.length ≤ 5864062014805) (k : Nat) (hk : 100 < k) : ddiref36_options.f k l = some (shl l) := by
  have := opts_l l hl 40 k 0 (by omega) (by omega) (by omega) (by omega)
  simpa [ddiref36_options.f] using this
theorem short_f (a0 a1 a2 : Int) (a3 : ByteArray) (a4 : Bool) (a5 a6 : Int) (a7 : Bool) (a8 a9 : Int) (a10 : Bool) (a11 a12 : Int) (a13 : Bool) (l : List S61) (hl : l.length ≤ 5864062014805) (k : Nat) (hk : 100 < k) :
    ddiref36_Short.f k a0 a1 a2 a3 a4 a5 a6 a7 a8 a9 a10 a11 a12 a13 l = some (a0, a1, a2, a3.extract 0 (min a3.size 100), a4, a5, a6, a7, a8, a9, a10, a11, a12, a13, shl l) := by
  unfold ddiref36_Short.f
  rw [mn_100, if_pos (by omega), if_pos (by omega), opts_f l hl k hk, Option.bind_some, Int.toNat_natCast]
theorem shl_length (l : List S61) : (shl l).length ≤ 40 := by unfold shl; rw [List.length_map, List.length_take]; omega
theorem shl_size (l : List S61) : ∀ x ∈ shl l, x.f1.size ≤ 1100 := by
  intro x hx
  obtain ⟨y, _, rfl⟩ := List.mem_map.1 hx
  exact cutO_size y
theorem cut_size (s : ByteArray) : (s.extract 0 (min s.size 100)).size ≤ 100 := by rw [ByteArray.size_extract]; omega

end Go.Proofs.YtcoekgnbncocnaaDoor.PK


namespace Go.Proofs.YtcoekgnbncocnaaDoor.PK
open Go Go.RowKit Go.Proofs.YtcoekgnbncocnaaDoorW.PrintWords Go.Proofs.YtcoekgnbncocnaaDoorW.PrintLast Go.Proofs.YtcoekgnbncocnaaDoorW.PrintMore Go.Proofs.YtcoekgnbncocnaaDoor.DN Go.Proofs.YtcoekgnbncocnaaDoor.OPT Go.Proofs.YtcoekgnbncocnaaDoor.ADR Go.Proofs.YtcoekgnbncocnaaDoor.Pa
set_option linter.unusedVariables false
set_option linter.unusedSimpArgs false
theorem awake36_f (k : Nat) (hk : 100 ≤ k) : ddilaw36_awake.f k = some true := by
  refine up (fun k => ddilaw36_awake.mono k) hk ?_
  kernel_rfl
theorem wf_u64 {n : Int} (h : (Lit.int .u64 n).wf = true) : 0 ≤ n ∧ n ≤ 18446744073709551615 := by
  have e1 : IntKind.u64.min = 0 := rfl
  have e2 : IntKind.u64.max = 18446744073709551615 := rfl
  simp [Lit.wf, e1, e2] at h
  exact h
end Go.Proofs.YtcoekgnbncocnaaDoor.PK


namespace Go.Proofs.YtcoekgnbncocnaaDoor.Pure
open Go Go.RowKit Go.Proofs.YtcoekgnbncocnaaDoorW.PrintWords Go.Proofs.YtcoekgnbncocnaaDoorW.PrintLast Go.Proofs.YtcoekgnbncocnaaDoorW.PrintMore Go.Proofs.YtcoekgnbncocnaaDoor.DN Go.Proofs.YtcoekgnbncocnaaDoor.OPT Go.Proofs.YtcoekgnbncocnaaDoor.ADR Go.Proofs.YtcoekgnbncocnaaDoor.PK Go.Proofs.YtcoekgnbncocnaaDoor.Pa
set_option linter.unusedVariables false
set_option linter.unusedSimpArgs false
theorem DhcpEncodes : ∀ (a0_0 : Int) (a0_1 : Int) (a0_2 : Int) (a0_3 : ByteArray) (a0_4 : Bool) (a0_5 : Int) (a0_6 : Int) (a0_7 : Bool) (a0_8 : Int) (a0_9 : Int) (a0_10 : Bool) (a0_11 : Int) (a0_12 : Int) (a0_13 : Bool) (l0_14 : List S61), (Lit.int .i64 a0_0).wf = true → (Lit.int .i64 a0_1).wf = true → (Lit.int .i64 a0_2).wf = true → a0_3.size ≤ 140737488351232 → (Lit.int .u64 a0_5).wf = true → (Lit.int .u64 a0_6).wf = true → (Lit.int .u64 a0_8).wf = true → (Lit.int .u64 a0_9).wf = true → (Lit.int .u64 a0_11).wf = true → (Lit.int .u64 a0_12).wf = true → l0_14.length * 24 ≤ 140737488351232 → (∀ y ∈ l0_14, Wf61 y) → ∃ k, ddilaw36_DhcpEncodes.f k a0_0 a0_1 a0_2 a0_3 a0_4 a0_5 a0_6 a0_7 a0_8 a0_9 a0_10 a0_11 a0_12 a0_13 l0_14 = some true := by
  intro a0_0 a0_1 a0_2 a0_3 a0_4 a0_5 a0_6 a0_7 a0_8 a0_9 a0_10 a0_11 a0_12 a0_13 l0_14 w0 w1 w2 w3 w5 w6 w8 w9 w11 w12 hl hwf 
  have hx := (wf_u64 w6).1
  have hy := (wf_u64 w9).1
  have hz := (wf_u64 w12).1
  obtain ⟨a3, h3⟩ : ∃ a3, a3 = a0_3.extract 0 (min a0_3.size 100) := ⟨_, rfl⟩
  have hs3 : a3.size ≤ 100 := by rw [h3]; exact cut_size a0_3
  have hs := short_f a0_0 a0_1 a0_2 a0_3 a0_4 a0_5 a0_6 a0_7 a0_8 a0_9 a0_10 a0_11 a0_12 a0_13 l0_14 (by omega) 200000 (by omega)
  rw [← h3] at hs
  have hl1 := shl_length l0_14
  have hl2 := shl_size l0_14
  generalize shl l0_14 = l at hs hl1 hl2
  refine ⟨200000, ?_⟩
  unfold ddilaw36_DhcpEncodes.f
  rw [hs, Option.bind_some]
  dsimp only
  have hl3 : ∀ o ∈ l, o.f1.size ≤ 140737488351232 := fun o ho => by have := hl2 o ho; omega
  have e1 := enc36_f a0_0 a0_1 a0_2 a3 ⟨a0_4, a0_5, a0_6⟩ ⟨a0_7, a0_8, a0_9⟩ ⟨a0_10, a0_11, a0_12⟩ a0_13 l hx hy hz hl3 200000 (by omega)
  have e2 := renc36_f a0_0 a0_1 a0_2 a3 ⟨a0_4, a0_5, a0_6⟩ ⟨a0_7, a0_8, a0_9⟩ ⟨a0_10, a0_11, a0_12⟩ a0_13 l hx hy hz hl3 200000 (by omega)
  have e3 := dvalid_f a0_0 a0_1 a0_2 a3 ⟨a0_4, a0_5, a0_6⟩ ⟨a0_7, a0_8, a0_9⟩ ⟨a0_10, a0_11, a0_12⟩ a0_13 l hx hy hz hl3 200000 (by omega)
  have e4 := rvalid36_f a0_0 a0_1 a0_2 a3 ⟨a0_4, a0_5, a0_6⟩ ⟨a0_7, a0_8, a0_9⟩ ⟨a0_10, a0_11, a0_12⟩ a0_13 l hx hy hz hl3 200000 (by omega)
  dsimp only at e1 e2 e3 e4
  rw [e1, Option.bind_some, e2, Option.bind_some, e3, Option.bind_some, e4, Option.bind_some, if_pos (by simp), if_pos rfl, if_pos rfl, awake36_f 200000 (by omega)]
  rfl
end Go.Proofs.YtcoekgnbncocnaaDoor.Pure

