/- Parts of the proof of this claim's statement (joined by a program of this session): Ref, Pk, Put, TimeP, Short, Awake36, PureDhcpReplies. -/
import Derived.Test.YtcoekgnbncocnaaDoorQr4
import Derived.Test.YtcoekgnbncocnaaDoorQr3
import Derived.Test.YtcoekgnbncocnaaDoorQr5
import Derived.Test.YtcoekgnbncocnaaDoorQr1
import Derived.Test.YtcoekgnbncocnaaDoorQr2
import Derived.Test.YtcoekgnbncocnaaDoorQr6
namespace Go.Proofs.YtcoekgnbncocnaaDoor.Pa
open Go Go.RowKit
/-- what a row tells of an option -/
def Wf61 (x : S61) : Prop := ((Lit.int .i64 x.f0).wf = true) ∧ (x.f1.size ≤ 140737488351232)
end Go.Proofs.YtcoekgnbncocnaaDoor.Pa
namespace Go.Proofs.YtcoekgnbncocnaaDoor.OPT
open Go Go.RowKit Go.Proofs.YtcoekgnbncocnaaDoorW.PrintWords Go.Proofs.YtcoekgnbncocnaaDoor.DN Go.Proofs.YtcoekgnbncocnaaDoor.Pa
set_option linter.unusedVariables false
set_option linter.unusedSimpArgs false

theorem w2 {a b : Nat} (h : a + b < 9223372036854775807) : wrap64 ((a : Int) + (b : Int)) = ((a + b : Nat) : Int) := by rw [wrap_id (by omega) (by omega)]; rfl
theorem rd_split (a : List S61) (x : S61) (b : List S61) : rd_T61 (a ++ x :: b) (a.length : Int) = x := by rw [rd_at (by simp)]; simp
/-- where the first element with a code stands -/
def idxS : List S61 → Int → Nat → Int
  | [], _, _ => -1
  | x :: l, c, i => if x.f0 = c then (i : Int) else idxS l c (i + 1)
theorem idx_cases : ∀ (l : List S61) (c : Int) (i : Nat), ((∀ x ∈ l, x.f0 ≠ c) ∧ idxS l c i = -1) ∨ ∃ a x b, l = a ++ x :: b ∧ x.f0 = c ∧ (∀ y ∈ a, y.f0 ≠ c) ∧ idxS l c i = ((i + a.length : Nat) : Int)
  | [], c, i => .inl ⟨by simp, rfl⟩
  | x :: l, c, i => by
    by_cases h : x.f0 = c
    · exact .inr ⟨[], x, l, rfl, h, by simp, by rw [idxS, if_pos h]; rfl⟩
    · rcases idx_cases l c (i + 1) with ⟨h1, h2⟩ | ⟨a, y, b, h1, h2, h3, h4⟩
      · exact .inl ⟨by intro z hz; rcases List.mem_cons.1 hz with rfl | hz; exact h; exact h1 z hz, by rw [idxS, if_neg h, h2]⟩
      · refine .inr ⟨x :: a, y, b, by rw [h1]; rfl, h2, by intro z hz; rcases List.mem_cons.1 hz with rfl | hz; exact h; exact h3 z hz, ?_⟩
        rw [idxS, if_neg h, h4, List.length_cons]; congr 1; omega
theorem index_l (l : List S61) (c : Int) (hl : l.length ≤ 5864062014805) : ∀ (n k i : Nat), l.length - i ≤ n → n < k → i ≤ l.length → ddiref35_index.l0 k l c (i : Int) = some (idxS (l.drop i) c i) := by
  intro n
  induction n with
  | zero =>
    intro k i hn hk hi
    obtain ⟨k, rfl⟩ : ∃ q, k = q + 1 := ⟨k - 1, by omega⟩
    obtain rfl : i = l.length := by omega
    rw [ddiref35_index.l0, if_neg (by omega), List.drop_length]; rfl
  | succ n ih =>
    intro k i hn hk hi
    obtain ⟨k, rfl⟩ : ∃ q, k = q + 1 := ⟨k - 1, by omega⟩
    by_cases hlt : i < l.length
    · rw [ddiref35_index.l0, if_pos (by omega), if_pos (by omega), rd_at hlt, drop_at hlt, idxS]
      by_cases hc : l[i].f0 = c
      · rw [if_pos hc, if_pos hc]
      · rw [if_neg hc, if_neg hc, wsucc (by omega), ih k (i + 1) (by omega) (by omega) (by omega)]
    · obtain rfl : i = l.length := by omega
      rw [ddiref35_index.l0, if_neg (by omega), List.drop_length]; rfl
theorem index_f (l : List S61) (c : Int) (hl : l.length ≤ 5864062014805) (k : Nat) (hk : l.length < k) : ddiref35_index.f k l c = some (idxS l c 0) := by
  have := index_l l c hl l.length k 0 (by omega) hk (by omega)
  simpa [ddiref35_index.f] using this

end Go.Proofs.YtcoekgnbncocnaaDoor.OPT


namespace Go.Proofs.YtcoekgnbncocnaaDoor.PK
open Go Go.RowKit Go.Proofs.YtcoekgnbncocnaaDoorW.PrintWords Go.Proofs.YtcoekgnbncocnaaDoorW.PrintLast Go.Proofs.YtcoekgnbncocnaaDoorW.PrintMore Go.Proofs.YtcoekgnbncocnaaDoor.DN Go.Proofs.YtcoekgnbncocnaaDoor.OPT Go.Proofs.YtcoekgnbncocnaaDoor.ADR Go.Proofs.YtcoekgnbncocnaaDoor.Pa
set_option linter.unusedVariables false
set_option linter.unusedSimpArgs false

def zeroA (x : S24) : Prop := x.f0 = false ∧ x.f1 = 0 ∧ x.f2 = 0
instance (x : S24) : Decidable (zeroA x) := inferInstanceAs (Decidable (_ ∧ _ ∧ _))
theorem ne_zeroA (x : S24) : (x.f0 || (!(x.f1 == 0) || (!(x.f2 == 0)))) = !decide (zeroA x) := by
  obtain ⟨b, h, l⟩ := x
  cases b
  · by_cases h1 : h = 0
    · by_cases h2 : l = 0
      · subst h1; subst h2; rfl
      · subst h1; simp [zeroA, h2]
    · simp [zeroA, h1]
  · simp [zeroA]
end Go.Proofs.YtcoekgnbncocnaaDoor.PK


namespace Go.Proofs.YtcoekgnbncocnaaDoor.OPT
open Go Go.RowKit Go.Proofs.YtcoekgnbncocnaaDoorW.PrintWords Go.Proofs.YtcoekgnbncocnaaDoor.DN Go.Proofs.YtcoekgnbncocnaaDoor.Pa
set_option linter.unusedVariables false
set_option linter.unusedSimpArgs false

theorem fnd_split {a : List S61} {x : S61} {b : List S61} {c : Int} (h1 : ∀ y ∈ a, y.f0 ≠ c) (h2 : x.f0 = c) : fndA (ab (a ++ x :: b)) c = (x.f1, true) := by
  have : fnd (ab (a ++ x :: b)) c = some (L x.f1) := by
    induction a with
    | nil => rw [List.nil_append, ab_cons, fnd, if_pos (show (o1 x).1 = c from h2)]; rfl
    | cons y a ih => rw [List.cons_append, ab_cons, fnd, if_neg (show ¬ (o1 y).1 = c from h1 y (by simp)), ih (fun z hz => h1 z (by simp [hz]))]
  unfold fndA; rw [this]; simp
theorem fnd_new {l : List S61} {c : Int} (h1 : ∀ y ∈ l, y.f0 ≠ c) : fndA (ab l) c = (⟨#[]⟩, false) := by
  have : fnd (ab l) c = none := by
    induction l with
    | nil => rfl
    | cons y a ih => rw [ab_cons, fnd, if_neg (show ¬ (o1 y).1 = c from h1 y (by simp)), ih (fun z hz => h1 z (by simp [hz]))]
  unfold fndA; rw [this]

theorem rfind_f (l : List S61) (c : Int) (hl : l.length ≤ 5864062014800) (k : Nat) (hk : l.length < k) : ddiref35_Find.f k l c = some (fndA (ab l) c) := by
  unfold ddiref35_Find.f
  rw [index_f l c (by omega) k hk, Option.bind_some]
  rcases idx_cases l c 0 with ⟨h1, h2⟩ | ⟨a, x, b, h1, h2, h3, h4⟩
  · rw [h2, if_pos (by decide), fnd_new h1]
  · rw [h4, if_neg (by omega), if_pos (by omega), Nat.zero_add]
    subst h1
    rw [if_pos (by simp; omega), rd_split, fnd_split h3 h2]
end Go.Proofs.YtcoekgnbncocnaaDoor.OPT


namespace Go.Proofs.YtcoekgnbncocnaaDoor.PK
open Go Go.RowKit Go.Proofs.YtcoekgnbncocnaaDoorW.PrintWords Go.Proofs.YtcoekgnbncocnaaDoorW.PrintLast Go.Proofs.YtcoekgnbncocnaaDoorW.PrintMore Go.Proofs.YtcoekgnbncocnaaDoor.DN Go.Proofs.YtcoekgnbncocnaaDoor.OPT Go.Proofs.YtcoekgnbncocnaaDoor.ADR Go.Proofs.YtcoekgnbncocnaaDoor.Pa
set_option linter.unusedVariables false
set_option linter.unusedSimpArgs false

def numP (s : ByteArray) : Int × Bool := if s.size = 1 ∨ s.size = 2 ∨ s.size = 4 then (((foldN (L s) 0 : Nat) : Int), true) else (0, false)
theorem foldN_lt : ∀ (l : List UInt8) (n : Nat), foldN l n < (n + 1) * 256 ^ l.length
  | [], n => by simp [foldN]
  | c :: l, n => by
    have h := foldN_lt l (n * 256 + c.toNat)
    have hc := c.toNat_lt
    show foldN l (n * 256 + c.toNat) < _
    rw [List.length_cons, Nat.pow_succ]
    refine Nat.lt_of_lt_of_le h ?_
    rw [Nat.mul_comm (256 ^ l.length) 256, ← Nat.mul_assoc]
    exact Nat.mul_le_mul_right _ (by omega)
theorem numP_range (s : ByteArray) : 0 ≤ (numP s).1 ∧ (numP s).1 < 4294967296 := by
  unfold numP
  split
  · rename_i h
    have := foldN_lt (L s) 0
    rw [L_len, Nat.zero_add, Nat.one_mul] at this
    have h2 : (256 : Nat) ^ s.size ≤ 4294967296 := by rcases h with h | h | h <;> rw [h] <;> decide
    dsimp only; omega
  · decide
theorem num_f (s : ByteArray) (k : Nat) (hk : 100 < k) : option_Number.f k s = some (numP s) ∧ ddiref35_Number.f k s = some (numP s) := by
  obtain ⟨k, rfl⟩ : ∃ q, k = q + 1 := ⟨k - 1, by omega⟩
  unfold numP
  by_cases h : s.size = 1 ∨ s.size = 2 ∨ s.size = 4
  · rw [if_pos h]
    have hp : (0 + 1) * 256 ^ (s.size - 0) ≤ 4294967296 := by rcases h with h | h | h <;> rw [h] <;> decide
    have h0 : (1 : Nat) ≤ s.size ∧ s.size ≤ 4 := by omega
    have a := num_l s h0.2 s.size (k + 1) 0 0 (by omega) (by omega) (by omega) hp
    have b := num_l s h0.2 s.size k 0 0 (by omega) (by omega) (by omega) hp
    refine ⟨?_, ?_⟩
    · unfold option_Number.f
      rw [isSize_f, Option.bind_some, if_pos (decide_eq_true (by omega))]
      exact a.1
    · unfold ddiref35_Number.f
      rcases h with h | h | h
      · rw [if_pos (by omega), ddiref35_Number.j0, if_neg (by decide)]; exact b.2
      · rw [if_neg (by omega), if_pos (by omega), ddiref35_Number.j0, if_neg (by decide)]; exact b.2
      · rw [if_neg (by omega), if_neg (by omega), ddiref35_Number.j0, if_neg (by rw [h]; decide)]; exact b.2
  · rw [if_neg h]
    refine ⟨?_, ?_⟩
    · unfold option_Number.f
      rw [isSize_f, Option.bind_some, if_neg (by rw [decide_eq_false (by omega)]; decide)]
    · unfold ddiref35_Number.f
      rw [if_neg (by omega), if_neg (by omega), ddiref35_Number.j0, if_pos (by simp; omega)]
theorem and7 (n : Int) (h0 : -9223372036854775808 ≤ n) (h1 : n ≤ 9223372036854775807) : Go.bits .and .i64 n 7 = n % 8 := by
  have h2 : (BitVec.ofInt 64 (7 : Int)).toNat = 7 := by decide
  have h3 : (BitVec.ofInt 64 n).toNat = (n % 18446744073709551616).toNat := by rw [BitVec.toNat_ofInt]; rfl
  show IntKind.i64.wrap ((BitVec.ofInt 64 n &&& BitVec.ofInt 64 (7 : Int)).toNat : Int) = _
  rw [BitVec.toNat_and, h2, h3, show (7 : Nat) = 2 ^ 3 - 1 from rfl, Nat.and_two_pow_sub_one_eq_mod, i64_w, wrap_id (by omega) (by omega)]
  omega
theorem most_f (n : Int) (h0 : -9223372036854775808 ≤ n) (h1 : n ≤ 9223372036854775807) : dhcp_most.f n = some (n * 7 / 8) := by
  unfold dhcp_most.f
  rw [and7 n h0 h1, wrap_id (x := n / 8 * 7) (by omega) (by omega), wrap_id (x := n % 8 * 7) (by omega) (by omega), wrap_id (by omega) (by omega)]
  congr 1; omega
theorem half_f (n : Int) : dhcp_half.f n = some (n / 2) := rfl

def timeP (l : List S61) (c o : Int) : Int × Bool := if (fndA (ab l) c).2 = true then numP (fndA (ab l) c).1 else (o, true)
theorem span_f (a0 a1 a2 : Int) (a3 : ByteArray) (a4 : Bool) (a5 a6 : Int) (a7 : Bool) (a8 a9 : Int) (a10 : Bool) (a11 a12 : Int) (a13 : Bool) (l : List S61) (c o : Int) (hl : l.length ≤ 5864062014800) (k : Nat) (hk : 100 < k) (hk2 : l.length < k) :
    dhcp_span.f k a0 a1 a2 a3 a4 a5 a6 a7 a8 a9 a10 a11 a12 a13 l c o = some (timeP l c o) := by
  unfold dhcp_span.f timeP
  rw [find_f l c hl k hk2, Option.bind_some]
  by_cases h : (fndA (ab l) c).2 = true
  · rw [if_pos h, if_pos h, (num_f _ k hk).1]; rfl
  · rw [if_neg h, if_neg h]
theorem time_f (a0 a1 a2 : Int) (a3 : ByteArray) (a4 : Bool) (a5 a6 : Int) (a7 : Bool) (a8 a9 : Int) (a10 : Bool) (a11 a12 : Int) (a13 : Bool) (l : List S61) (c o : Int) (hl : l.length ≤ 5864062014800) (k : Nat) (hk : 100 < k) (hk2 : l.length < k) :
    ddiref36_time.f k a0 a1 a2 a3 a4 a5 a6 a7 a8 a9 a10 a11 a12 a13 l c o = some (timeP l c o) := by
  unfold ddiref36_time.f timeP
  rw [rfind_f l c hl k hk2, Option.bind_some]
  by_cases h : (fndA (ab l) c).2 = true
  · rw [if_pos h, if_pos h, (num_f _ k hk).2]; rfl
  · rw [if_neg h, if_neg h]
def leaseT (n : Int) (t1 t2 : Int × Bool) : Int × Int × Int × Bool :=
  if t1.2 = true then (if t2.2 = true then (if t2.1 < t1.1 then (0, 0, 0, false) else if n < t2.1 then (0, 0, 0, false) else (n, t1.1, t2.1, true)) else (0, 0, 0, false)) else (0, 0, 0, false)
def leaseP (l : List S61) : Int × Int × Int × Bool :=
  if (fndA (ab l) 51).2 = true then (if (numP (fndA (ab l) 51).1).2 = true then leaseT (numP (fndA (ab l) 51).1).1 (timeP l 58 ((numP (fndA (ab l) 51).1).1 / 2)) (timeP l 59 ((numP (fndA (ab l) 51).1).1 * 7 / 8)) else (0, 0, 0, false)) else (0, 0, 0, false)
theorem lease_end (n : Int) (t1 t2 : Int × Bool) : (if t1.2 = true then (if t2.2 = true then (if t1.1 > t2.1 then some ((0 : Int), (0 : Int), (0 : Int), false) else (if t2.1 > n then some (0, 0, 0, false) else some (n, t1.1, t2.1, true))) else some (0, 0, 0, false)) else some (0, 0, 0, false)) = some (leaseT n t1 t2) := by
  unfold leaseT
  by_cases h3 : t1.2 = true
  case neg => rw [if_neg h3, if_neg h3]
  rw [if_pos h3, if_pos h3]
  by_cases h4 : t2.2 = true
  case neg => rw [if_neg h4, if_neg h4]
  rw [if_pos h4, if_pos h4]
  by_cases h5 : t2.1 < t1.1
  · rw [if_pos h5, if_pos h5]
  rw [if_neg h5, if_neg h5]
  by_cases h6 : n < t2.1
  · rw [if_pos h6, if_pos h6]
  rw [if_neg h6, if_neg h6]
theorem lease_f (a0 a1 a2 : Int) (a3 : ByteArray) (a4 : Bool) (a5 a6 : Int) (a7 : Bool) (a8 a9 : Int) (a10 : Bool) (a11 a12 : Int) (a13 : Bool) (l : List S61) (hl : l.length ≤ 5864062014800) (k : Nat) (hk : 100 < k) (hk2 : l.length < k) :
    dhcp_Lease.f k a0 a1 a2 a3 a4 a5 a6 a7 a8 a9 a10 a11 a12 a13 l = some (leaseP l) := by
  unfold dhcp_Lease.f leaseP
  rw [find_f l 51 hl k hk2, Option.bind_some]
  by_cases h : (fndA (ab l) 51).2 = true
  case neg => rw [if_neg h, if_neg h]
  rw [if_pos h, if_pos h, (num_f _ k hk).1, Option.bind_some]
  by_cases h2 : (numP (fndA (ab l) 51).1).2 = true
  case neg => rw [if_neg h2, if_neg h2]
  have hr := numP_range (fndA (ab l) 51).1
  rw [if_pos h2, if_pos h2, half_f, Option.bind_some, span_f _ _ _ _ _ _ _ _ _ _ _ _ _ _ l 58 _ hl k hk hk2, Option.bind_some, most_f _ (by omega) (by omega), Option.bind_some, span_f _ _ _ _ _ _ _ _ _ _ _ _ _ _ l 59 _ hl k hk hk2, Option.bind_some]
  exact lease_end _ _ _
theorem rlease_f (a0 a1 a2 : Int) (a3 : ByteArray) (a4 : Bool) (a5 a6 : Int) (a7 : Bool) (a8 a9 : Int) (a10 : Bool) (a11 a12 : Int) (a13 : Bool) (l : List S61) (hl : l.length ≤ 5864062014800) (k : Nat) (hk : 200 < k) (hk2 : l.length + 1 < k) :
    ddiref36_Lease.f k a0 a1 a2 a3 a4 a5 a6 a7 a8 a9 a10 a11 a12 a13 l = some (leaseP l) := by
  obtain ⟨k, rfl⟩ : ∃ q, k = q + 1 := ⟨k - 1, by omega⟩
  unfold ddiref36_Lease.f leaseP
  rw [time_f _ _ _ _ _ _ _ _ _ _ _ _ _ _ l 51 _ hl (k + 1) (by omega) (by omega), Option.bind_some]
  unfold timeP
  by_cases h : (fndA (ab l) 51).2 = true
  case neg => rw [if_neg h, if_neg h, if_pos rfl, ddiref36_Lease.j0, if_pos (by decide)]
  rw [if_pos h, if_pos h]
  by_cases h2 : (numP (fndA (ab l) 51).1).2 = true
  case neg => rw [if_neg h2, if_neg h2, ddiref36_Lease.j0, if_pos rfl]
  have hr := numP_range (fndA (ab l) 51).1
  rw [if_pos h2, if_pos h2, decide_eq_false (by omega), ddiref36_Lease.j0, if_neg Bool.false_ne_true]
  rw [Int.tdiv_eq_ediv_of_nonneg (by omega), wrap_id (x := _ / 2) (by omega) (by omega), wrap_id (x := _ * 7) (by omega) (by omega), Int.tdiv_eq_ediv_of_nonneg (by omega), wrap_id (by omega) (by omega)]
  rw [time_f _ _ _ _ _ _ _ _ _ _ _ _ _ _ l 58 _ hl k (by omega) (by omega), Option.bind_some, time_f _ _ _ _ _ _ _ _ _ _ _ _ _ _ l 59 _ hl k (by omega) (by omega), Option.bind_some]
  exact lease_end _ _ _
def adrsP (s : ByteArray) : List S24 × Bool := if s.size = 0 ∨ s.size % 4 ≠ 0 then ([], false) else (adrs (L s), true)
def wantedP (l : List S61) (x : S24) : Bool × Int × Int × Bool :=
  let r := adrsP (fndA (ab l) 50).1
  if (fndA (ab l) 50).2 = true ∧ r.2 = true ∧ r.1.length = 1 then ((rd_T24 r.1 0).f0, (rd_T24 r.1 0).f1, (rd_T24 r.1 0).f2, true) else if zeroA x then (false, 0, 0, false) else (x.f0, x.f1, x.f2, true)
theorem fndA_size {l : List S61} {c : Int} {M : Nat} (h : ∀ o ∈ l, o.f1.size ≤ M) : (fndA (ab l) c).1.size ≤ M := by
  unfold fndA
  induction l with
  | nil => exact Nat.zero_le _
  | cons o l ih =>
    rw [ab_cons, fnd]
    by_cases hc : (o1 o).1 = c
    · rw [if_pos hc]
      show (B (L o.f1)).size ≤ M
      rw [B_L]; exact h o (List.mem_cons_self ..)
    · rw [if_neg hc]; exact ih (fun o ho => h o (List.mem_cons_of_mem _ ho))
theorem zero_tuple (x : S24) (h : zeroA x) : (x.f0, x.f1, x.f2, !decide (zeroA x)) = (false, 0, 0, false) := by
  rw [decide_eq_true h, h.1, h.2.1, h.2.2]; rfl
theorem wanted_f (a0 a1 a2 : Int) (a3 : ByteArray) (x : S24) (a7 : Bool) (a8 a9 : Int) (a10 : Bool) (a11 a12 : Int) (a13 : Bool) (l : List S61) (hl : l.length ≤ 5864062014800) (hz : ∀ o ∈ l, o.f1.size ≤ 2000) (k : Nat) (hk : 3000 < k) (hk2 : l.length < k) :
    dhcp_Wanted.f k a0 a1 a2 a3 x.f0 x.f1 x.f2 a7 a8 a9 a10 a11 a12 a13 l = some (wantedP l x) := by
  have hs := fndA_size (c := 50) hz
  have hcur : (if zeroA x then (false, (0 : Int), (0 : Int), false) else (x.f0, x.f1, x.f2, true)) = (x.f0, x.f1, x.f2, !decide (zeroA x)) := by
    by_cases h : zeroA x
    · rw [if_pos h, zero_tuple x h]
    · rw [if_neg h, decide_eq_false h]; rfl
  unfold dhcp_Wanted.f wantedP
  dsimp only
  rw [find_f l 50 hl k hk2, Option.bind_some, ne_zeroA x, hcur, addrs_f _ (by omega) k (by omega), Option.bind_some, show (if (fndA (ab l) 50).1.size = 0 ∨ (fndA (ab l) 50).1.size % 4 ≠ 0 then (([] : List S24), false) else (adrs (L (fndA (ab l) 50).1), true)) = adrsP (fndA (ab l) 50).1 from rfl]
  generalize adrsP (fndA (ab l) 50).1 = r
  by_cases h : (fndA (ab l) 50).2 = true
  case neg => rw [if_neg h, if_neg (fun e => h e.1)]
  rw [if_pos h]
  by_cases h2 : r.2 = true
  case neg => rw [if_neg h2, if_neg (fun e => h2 e.2.1)]
  rw [if_pos h2]
  by_cases h3 : r.1.length = 1
  · rw [if_pos (by omega), if_pos (by omega), if_pos ⟨h, h2, h3⟩]
  · rw [if_neg (by omega), if_neg (fun e => h3 e.2.2)]
theorem rwanted_j (r : List S24 × Bool) (b : Bool) (hb : b = (r.2 && decide (r.1.length = 1))) (a0 a1 a2 : Int) (a3 : ByteArray) (x : S24) (a7 : Bool) (a8 a9 : Int) (a10 : Bool) (a11 a12 : Int) (a13 : Bool) (l : List S61) (k : Nat) :
    ddiref36_Wanted.j0 (k + 1) r.1 b a0 a1 a2 a3 x.f0 x.f1 x.f2 a7 a8 a9 a10 a11 a12 a13 l = some (if r.2 = true ∧ r.1.length = 1 then ((rd_T24 r.1 0).f0, (rd_T24 r.1 0).f1, (rd_T24 r.1 0).f2, true) else if zeroA x then (false, 0, 0, false) else (x.f0, x.f1, x.f2, true)) := by
  rw [ddiref36_Wanted.j0, ne_zeroA x]
  subst hb
  by_cases h : r.2 = true ∧ r.1.length = 1
  · rw [h.1, decide_eq_true h.2, Bool.and_self, if_pos rfl, if_pos (by omega), if_pos ⟨rfl, h.2⟩]
  · rw [if_neg (by rw [Bool.and_eq_true]; intro e; exact h ⟨e.1, of_decide_eq_true e.2⟩), if_neg h]
    by_cases hz : zeroA x
    · rw [decide_eq_true hz, Bool.not_true, if_neg Bool.false_ne_true, if_pos hz]
    · rw [decide_eq_false hz, Bool.not_false, if_pos rfl, if_neg hz]
theorem rwanted_f (a0 a1 a2 : Int) (a3 : ByteArray) (x : S24) (a7 : Bool) (a8 a9 : Int) (a10 : Bool) (a11 a12 : Int) (a13 : Bool) (l : List S61) (hl : l.length ≤ 5864062014800) (hz : ∀ o ∈ l, o.f1.size ≤ 2000) (k : Nat) (hk : 3000 < k) (hk2 : l.length < k) :
    ddiref36_Wanted.f k a0 a1 a2 a3 x.f0 x.f1 x.f2 a7 a8 a9 a10 a11 a12 a13 l = some (wantedP l x) := by
  have hs := fndA_size (c := 50) hz
  obtain ⟨k, rfl⟩ : ∃ q, k = q + 1 := ⟨k - 1, by omega⟩
  unfold ddiref36_Wanted.f wantedP
  dsimp only
  rw [rfind_f l 50 hl (k + 1) hk2, Option.bind_some, ne_zeroA x, raddrs_f _ (by omega) (k + 1) (by omega), Option.bind_some, show (if (fndA (ab l) 50).1.size = 0 ∨ (fndA (ab l) 50).1.size % 4 ≠ 0 then (([] : List S24), false) else (adrs (L (fndA (ab l) 50).1), true)) = adrsP (fndA (ab l) 50).1 from rfl]
  generalize adrsP (fndA (ab l) 50).1 = r
  by_cases h : (fndA (ab l) 50).2 = true
  case neg =>
    rw [if_neg h, if_neg (show ¬ ((fndA (ab l) 50).2 = true ∧ r.2 = true ∧ r.1.length = 1) from fun e => h e.1)]
    by_cases hz : zeroA x
    · rw [decide_eq_true hz, Bool.not_true, if_neg Bool.false_ne_true, if_pos hz]
    · rw [decide_eq_false hz, Bool.not_false, if_pos rfl, if_neg hz]
  rw [if_pos h]
  have key : (if (fndA (ab l) 50).2 = true ∧ r.2 = true ∧ r.1.length = 1 then ((rd_T24 r.1 0).f0, (rd_T24 r.1 0).f1, (rd_T24 r.1 0).f2, true) else if zeroA x then (false, (0 : Int), (0 : Int), false) else (x.f0, x.f1, x.f2, true)) = if r.2 = true ∧ r.1.length = 1 then ((rd_T24 r.1 0).f0, (rd_T24 r.1 0).f1, (rd_T24 r.1 0).f2, true) else if zeroA x then (false, 0, 0, false) else (x.f0, x.f1, x.f2, true) := by
    by_cases h3 : r.2 = true ∧ r.1.length = 1
    · rw [if_pos ⟨h, h3⟩, if_pos h3]
    · rw [if_neg (fun e => h3 e.2), if_neg h3]
  rw [key]
  by_cases h2 : r.2 = true
  · rw [if_pos h2, rwanted_j r _ (by rw [h2, Bool.true_and, Bool.eq_iff_iff]; simp; omega)]
  · rw [if_neg h2, rwanted_j r _ (by rw [Bool.not_eq_true] at h2; rw [h2]; rfl)]

def replyO (l : List S61) : List S61 := if (fndA (ab l) 82).2 = true then [⟨82, (fndA (ab l) 82).1⟩] else []
theorem reply_f (a0 a1 a2 : Int) (a3 : ByteArray) (a4 : Bool) (a5 a6 : Int) (a7 : Bool) (a8 a9 : Int) (a10 : Bool) (a11 a12 : Int) (a13 : Bool) (l : List S61) (b1 b2 : Int) (hl : l.length ≤ 5864062014800) (k : Nat) (hk : l.length < k) :
    dhcp_Reply.f k a0 a1 a2 a3 a4 a5 a6 a7 a8 a9 a10 a11 a12 a13 l b1 b2 = some (b1, a1, b2, a3, false, 0, 0, false, 0, 0, a10, a11, a12, a13, replyO l)
    ∧ ddiref36_Reply.f k a0 a1 a2 a3 a4 a5 a6 a7 a8 a9 a10 a11 a12 a13 l b1 b2 = some (b1, a1, b2, a3, false, 0, 0, false, 0, 0, a10, a11, a12, a13, replyO l) := by
  unfold dhcp_Reply.f ddiref36_Reply.f replyO
  rw [find_f l 82 hl k hk, rfind_f l 82 hl k hk, Option.bind_some]
  by_cases h : (fndA (ab l) 82).2 = true
  · simp only [if_pos h, and_self]
  · simp only [if_neg h, and_self]
end Go.Proofs.YtcoekgnbncocnaaDoor.PK


namespace Go.Proofs.YtcoekgnbncocnaaDoor.PK
open Go Go.RowKit Go.Proofs.YtcoekgnbncocnaaDoorW.PrintWords Go.Proofs.YtcoekgnbncocnaaDoorW.PrintLast Go.Proofs.YtcoekgnbncocnaaDoorW.PrintMore Go.Proofs.YtcoekgnbncocnaaDoor.DN Go.Proofs.YtcoekgnbncocnaaDoor.OPT Go.Proofs.YtcoekgnbncocnaaDoor.ADR Go.Proofs.YtcoekgnbncocnaaDoor.Pa
set_option linter.unusedVariables false
set_option linter.unusedSimpArgs false

def cutO (x : S61) : S61 := ⟨x.f0, x.f1.extract 0 (min x.f1.size 1100)⟩
def shl (l : List S61) : List S61 := (l.take 40).map cutO
theorem mn_nat (a b : Nat) : mn (a : Int) (b : Int) = ((min a b : Nat) : Int) := by unfold mn; split <;> omega
theorem mn_1100 (a : Nat) : mn (a : Int) 1100 = ((min a 1100 : Nat) : Int) := mn_nat a 1100
theorem mn_100 (a : Nat) : mn (a : Int) 100 = ((min a 100 : Nat) : Int) := mn_nat a 100
theorem cutO_size (x : S61) : (cutO x).f1.size ≤ 1100 := by
  unfold cutO; simp only [ByteArray.size_extract]; omega
theorem opts_l (l : List S61) (hl : l.length ≤ 5864062014805) : ∀ (n k i : Nat), 40 - i ≤ n → n < k → i ≤ 40 → i ≤ l.length →
    ddiref36_options.l0 k l ((l.take i).map cutO) (i : Int) = some (shl l) := by
  intro n
  induction n with
  | zero =>
    intro k i hn hk hi hil
    obtain ⟨k, rfl⟩ : ∃ q, k = q + 1 := ⟨k - 1, by omega⟩
    obtain rfl : i = 40 := by omega
    rw [ddiref36_options.l0]
    by_cases h : 40 < l.length
    · rw [if_pos (by omega), if_neg (by omega)]; rfl
    · rw [if_neg (by omega)]; rfl
  | succ n ih =>
    intro k i hn hk hi hil
    obtain ⟨k, rfl⟩ : ∃ q, k = q + 1 := ⟨k - 1, by omega⟩
    rw [ddiref36_options.l0]
    by_cases h1 : i < l.length
    · rw [if_pos (by omega)]
      by_cases h2 : i < 40
      · have h3 : ((l.take i).map cutO).length ≤ 40 := by rw [List.length_map, List.length_take]; omega
        rw [if_pos (by omega), if_pos (by omega), rd_at h1, mn_1100, if_pos (by omega), if_pos (by omega), if_pos (by omega), Int.toNat_natCast, wsucc (by omega)]
        have h4 : (l.take (i + 1)).map cutO = (l.take i).map cutO ++ [(⟨l[i].f0, l[i].f1.extract 0 (min l[i].f1.size 1100)⟩ : S61)] := by
          rw [List.take_succ_eq_append_getElem h1, List.map_append]; rfl
        rw [← h4]
        exact ih k (i + 1) (by omega) (by omega) (by omega) (by omega)
      · rw [if_neg (by omega)]
        obtain rfl : i = 40 := by omega
        rfl
    · rw [if_neg (by omega)]
      obtain rfl : i = l.length := by omega
      unfold shl
      rw [List.take_length, List.take_of_length_le hi]
theorem opts_f (l : List S61) (hl : l.length ≤ 5864062014805) (k : Nat) (hk : 100 < k) : ddiref36_options.f k l = some (shl l) := by
  have := opts_l l hl 40 k 0 (by omega) (by omega) (by omega) (by omega)
  simpa [ddiref36_options.f] using this
theorem short_f (a0 a1 a2 : Int) (a3 : ByteArray) (a4 : Bool) (a5 a6 : Int) (a7 : Bool) (a8 a9 : Int) (a10 : Bool) (a11 a12 : Int) (a13 : Bool) (l : List S61) (hl : l.length ≤ 5864062014805) (k : Nat) (hk : 100 < k) :
    ddiref36_Short.f k a0 a1 a2 a3 a4 a5 a6 a7 a8 a9 a10 a11 a12 a13 l = some (a0, a1, a2, a3.extract 0 (min a3.size 100), a4, a5, a6, a7, a8, a9, a10, a11, a12, a13, shl l) := by
  unfold ddiref36_Short.f
  rw [mn_100, if_pos (by omega), if_pos (by omega), opts_f l hl k hk, Option.bind_some, Int.toNat_natCast]
theorem shl_length (l : List S61) : (shl l).length ≤ 40 := by unfold shl; rw [List.length_map, List.length_take]; omega
theorem shl_size (l : List S61) : ∀ x ∈ shl l, x.f1.size ≤ 1100 := by
  intro x hx
  obtain ⟨y, _, rfl⟩ := List.mem_map.1 hx
  exact cutO_size y
theorem cut_size (s : ByteArray) : (s.extract 0 (min s.size 100)).size ≤ 100 := by rw [ByteArray.size_extract]; omega

theorem eqA (b : Bool) (h l : Int) : (!(b == b) || (!(h == h) || (!(l == l)))) = false := by simp
theorem same_l (a0 a1 a2 : Int) (a3 : ByteArray) (a4 : Bool) (a5 a6 : Int) (a7 : Bool) (a8 a9 : Int) (a10 : Bool) (a11 a12 : Int) (a13 : Bool) (b0 b1 b2 : Int) (b3 : ByteArray) (b4 : Bool) (b5 b6 : Int) (b7 : Bool) (b8 b9 : Int) (b10 : Bool) (b11 b12 : Int) (b13 : Bool) (l : List S61) (hl : l.length ≤ 5864062014805) : ∀ (n k i : Nat), l.length - i ≤ n → n < k → i ≤ l.length →
    ddiref36_Same.l0 k (i : Int) a0 a1 a2 a3 a4 a5 a6 a7 a8 a9 a10 a11 a12 a13 l b0 b1 b2 b3 b4 b5 b6 b7 b8 b9 b10 b11 b12 b13 l = some true := by
  intro n
  induction n with
  | zero =>
    intro k i hn hk hi
    obtain ⟨k, rfl⟩ : ∃ q, k = q + 1 := ⟨k - 1, by omega⟩
    rw [ddiref36_Same.l0, if_neg (by omega)]
  | succ n ih =>
    intro k i hn hk hi
    obtain ⟨k, rfl⟩ : ∃ q, k = q + 1 := ⟨k - 1, by omega⟩
    rw [ddiref36_Same.l0]
    by_cases h1 : i < l.length
    · have := ih k (i + 1) (by omega) (by omega) (by omega)
      rw [← wsucc (by omega)] at this
      simp only [if_pos (show (i : Int) < (l.length : Int) by omega), if_pos (show (0 : Int) ≤ (i : Int) by omega)]
      simpa using this
    · rw [if_neg (by omega)]
theorem same_f (a0 a1 a2 : Int) (a3 : ByteArray) (a4 : Bool) (a5 a6 : Int) (a7 : Bool) (a8 a9 : Int) (a10 : Bool) (a11 a12 : Int) (a13 : Bool) (l : List S61) (hl : l.length ≤ 5864062014805) (k : Nat) (hk : l.length < k) :
    ddiref36_Same.f k a0 a1 a2 a3 a4 a5 a6 a7 a8 a9 a10 a11 a12 a13 l a0 a1 a2 a3 a4 a5 a6 a7 a8 a9 a10 a11 a12 a13 l = some true := by
  unfold ddiref36_Same.f
  rw [if_pos rfl, if_pos rfl, if_pos rfl, if_pos rfl, eqA, eqA, eqA, if_neg Bool.false_ne_true, if_neg Bool.false_ne_true, if_neg Bool.false_ne_true, show (a13 != a13) = false by simp, if_neg Bool.false_ne_true, if_pos rfl]
  exact same_l a0 a1 a2 a3 a4 a5 a6 a7 a8 a9 a10 a11 a12 a13 a0 a1 a2 a3 a4 a5 a6 a7 a8 a9 a10 a11 a12 a13 l hl l.length k 0 (by omega) hk (by omega)
end Go.Proofs.YtcoekgnbncocnaaDoor.PK


namespace Go.Proofs.YtcoekgnbncocnaaDoor.PK
open Go Go.RowKit Go.Proofs.YtcoekgnbncocnaaDoorW.PrintWords Go.Proofs.YtcoekgnbncocnaaDoorW.PrintLast Go.Proofs.YtcoekgnbncocnaaDoorW.PrintMore Go.Proofs.YtcoekgnbncocnaaDoor.DN Go.Proofs.YtcoekgnbncocnaaDoor.OPT Go.Proofs.YtcoekgnbncocnaaDoor.ADR Go.Proofs.YtcoekgnbncocnaaDoor.Pa
set_option linter.unusedVariables false
set_option linter.unusedSimpArgs false
theorem awake36_f (k : Nat) (hk : 100 ≤ k) : ddilaw36_awake.f k = some true := by
  refine up (fun k => ddilaw36_awake.mono k) hk ?_
  kernel_rfl
theorem wf_u64 {n : Int} (h : (Lit.int .u64 n).wf = true) : 0 ≤ n ∧ n ≤ 18446744073709551615 := by
  have e1 : IntKind.u64.min = 0 := rfl
  have e2 : IntKind.u64.max = 18446744073709551615 := rfl
  simp [Lit.wf, e1, e2] at h
  exact h
end Go.Proofs.YtcoekgnbncocnaaDoor.PK


namespace Go.Proofs.YtcoekgnbncocnaaDoor.Pure
open Go Go.RowKit Go.Proofs.YtcoekgnbncocnaaDoorW.PrintWords Go.Proofs.YtcoekgnbncocnaaDoorW.PrintLast Go.Proofs.YtcoekgnbncocnaaDoorW.PrintMore Go.Proofs.YtcoekgnbncocnaaDoor.DN Go.Proofs.YtcoekgnbncocnaaDoor.OPT Go.Proofs.YtcoekgnbncocnaaDoor.ADR Go.Proofs.YtcoekgnbncocnaaDoor.PK Go.Proofs.YtcoekgnbncocnaaDoor.Pa
set_option linter.unusedVariables false
set_option linter.unusedSimpArgs false
theorem DhcpReplies : ∀ (a0_0 : Int) (a0_1 : Int) (a0_2 : Int) (a0_3 : ByteArray) (a0_4 : Bool) (a0_5 : Int) (a0_6 : Int) (a0_7 : Bool) (a0_8 : Int) (a0_9 : Int) (a0_10 : Bool) (a0_11 : Int) (a0_12 : Int) (a0_13 : Bool) (l0_14 : List S61) (a1 : Int) (a2 : Int), (Lit.int .i64 a0_0).wf = true → (Lit.int .i64 a0_1).wf = true → (Lit.int .i64 a0_2).wf = true → a0_3.size ≤ 140737488351232 → (Lit.int .u64 a0_5).wf = true → (Lit.int .u64 a0_6).wf = true → (Lit.int .u64 a0_8).wf = true → (Lit.int .u64 a0_9).wf = true → (Lit.int .u64 a0_11).wf = true → (Lit.int .u64 a0_12).wf = true → l0_14.length * 24 ≤ 140737488351232 → (∀ y ∈ l0_14, Wf61 y) → (Lit.int .i64 a1).wf = true → (Lit.int .i64 a2).wf = true → ∃ k, ddilaw36_DhcpReplies.f k a0_0 a0_1 a0_2 a0_3 a0_4 a0_5 a0_6 a0_7 a0_8 a0_9 a0_10 a0_11 a0_12 a0_13 l0_14 a1 a2 = some true := by
  intro a0_0 a0_1 a0_2 a0_3 a0_4 a0_5 a0_6 a0_7 a0_8 a0_9 a0_10 a0_11 a0_12 a0_13 l0_14 a1 a2 w0 w1 w2 w3 w5 w6 w8 w9 w11 w12 hl hwf v0 v1
  have hx := (wf_u64 w6).1
  have hy := (wf_u64 w9).1
  have hz := (wf_u64 w12).1
  obtain ⟨a3, h3⟩ : ∃ a3, a3 = a0_3.extract 0 (min a0_3.size 100) := ⟨_, rfl⟩
  have hs3 : a3.size ≤ 100 := by rw [h3]; exact cut_size a0_3
  have hs := short_f a0_0 a0_1 a0_2 a0_3 a0_4 a0_5 a0_6 a0_7 a0_8 a0_9 a0_10 a0_11 a0_12 a0_13 l0_14 (by omega) 200000 (by omega)
  rw [← h3] at hs
  have hl1 := shl_length l0_14
  have hl2 := shl_size l0_14
  generalize shl l0_14 = l at hs hl1 hl2
  refine ⟨200000, ?_⟩
  unfold ddilaw36_DhcpReplies.f
  rw [hs, Option.bind_some]
  dsimp only
  have hl4 : ∀ o ∈ l, o.f1.size ≤ 2000 := fun o ho => by have := hl2 o ho; omega
  have e1 := wanted_f a0_0 a0_1 a0_2 a3 ⟨a0_4, a0_5, a0_6⟩ a0_7 a0_8 a0_9 a0_10 a0_11 a0_12 a0_13 l (by omega) hl4 200000 (by omega) (by omega)
  have e2 := rwanted_f a0_0 a0_1 a0_2 a3 ⟨a0_4, a0_5, a0_6⟩ a0_7 a0_8 a0_9 a0_10 a0_11 a0_12 a0_13 l (by omega) hl4 200000 (by omega) (by omega)
  have e3 := lease_f a0_0 a0_1 a0_2 a3 a0_4 a0_5 a0_6 a0_7 a0_8 a0_9 a0_10 a0_11 a0_12 a0_13 l (by omega) 200000 (by omega) (by omega)
  have e4 := rlease_f a0_0 a0_1 a0_2 a3 a0_4 a0_5 a0_6 a0_7 a0_8 a0_9 a0_10 a0_11 a0_12 a0_13 l (by omega) 200000 (by omega) (by omega)
  have e5 := reply_f a0_0 a0_1 a0_2 a3 a0_4 a0_5 a0_6 a0_7 a0_8 a0_9 a0_10 a0_11 a0_12 a0_13 l a1 a2 (by omega) 200000 (by omega)
  dsimp only at e1 e2
  rw [e1, Option.bind_some, e2, Option.bind_some, e3, Option.bind_some, e4, Option.bind_some, e5.1, Option.bind_some, e5.2, Option.bind_some]
  have hro : (replyO l).length ≤ 1 := by unfold replyO; split <;> simp
  dsimp only
  rw [same_f _ _ _ _ _ _ _ _ _ _ _ _ _ _ (replyO l) (by omega) 200000 (by omega), Option.bind_some]
  simp only [awake36_f 200000 (by omega), BEq.rfl, Bool.and_self, if_true, Option.bind_some]
end Go.Proofs.YtcoekgnbncocnaaDoor.Pure

