/- Parts of the proof of this claim's statement (joined by a program of this session): Ref, Pk, Put, TimeP, GrantP, RGrantP, Short, Awake36, PureDhcpGrants. -/
import Derived.Test.YtcoekgnbncocnaaDoorGr4
import Derived.Test.YtcoekgnbncocnaaDoorGr2
import Derived.Test.YtcoekgnbncocnaaDoorGr5
import Derived.Test.YtcoekgnbncocnaaDoorGr3
import Derived.Test.YtcoekgnbncocnaaDoorGr1
import Derived.Test.YtcoekgnbncocnaaDoorGr6
namespace Go.Proofs.YtcoekgnbncocnaaDoor.Pa
open Go Go.RowKit
/-- what a row tells of an option -/
def Wf61 (x : S61) : Prop := ((Lit.int .i64 x.f0).wf = true) ∧ (x.f1.size ≤ 140737488351232)
end Go.Proofs.YtcoekgnbncocnaaDoor.Pa
namespace Go.Proofs.YtcoekgnbncocnaaDoor.OPT
open Go Go.RowKit Go.Proofs.YtcoekgnbncocnaaDoorW.PrintWords Go.Proofs.YtcoekgnbncocnaaDoor.DN Go.Proofs.YtcoekgnbncocnaaDoor.Pa
set_option linter.unusedVariables false
set_option linter.unusedSimpArgs false

theorem w2 {a b : Nat} (h : a + b < 9223372036854775807) : wrap64 ((a : Int) + (b : Int)) = ((a + b : Nat) : Int) := by rw [wrap_id (by omega) (by omega)]; rfl
theorem rd_split (a : List S61) (x : S61) (b : List S61) : rd_T61 (a ++ x :: b) (a.length : Int) = x := by rw [rd_at (by simp)]; simp
theorem set_split (a : List S61) (x y : S61) (b : List S61) : (a ++ x :: b).set a.length y = a ++ y :: b := by simp
/-- where the first element with a code stands -/
def idxS : List S61 → Int → Nat → Int
  | [], _, _ => -1
  | x :: l, c, i => if x.f0 = c then (i : Int) else idxS l c (i + 1)
theorem idx_cases : ∀ (l : List S61) (c : Int) (i : Nat), ((∀ x ∈ l, x.f0 ≠ c) ∧ idxS l c i = -1) ∨ ∃ a x b, l = a ++ x :: b ∧ x.f0 = c ∧ (∀ y ∈ a, y.f0 ≠ c) ∧ idxS l c i = ((i + a.length : Nat) : Int)
  | [], c, i => .inl ⟨by simp, rfl⟩
  | x :: l, c, i => by
    by_cases h : x.f0 = c
    · exact .inr ⟨[], x, l, rfl, h, by simp, by rw [idxS, if_pos h]; rfl⟩
    · rcases idx_cases l c (i + 1) with ⟨h1, h2⟩ | ⟨a, y, b, h1, h2, h3, h4⟩
      · exact .inl ⟨by intro z hz; rcases List.mem_cons.1 hz with rfl | hz; exact h; exact h1 z hz, by rw [idxS, if_neg h, h2]⟩
      · refine .inr ⟨x :: a, y, b, by rw [h1]; rfl, h2, by intro z hz; rcases List.mem_cons.1 hz with rfl | hz; exact h; exact h3 z hz, ?_⟩
        rw [idxS, if_neg h, h4, List.length_cons]; congr 1; omega
theorem index_l (l : List S61) (c : Int) (hl : l.length ≤ 5864062014805) : ∀ (n k i : Nat), l.length - i ≤ n → n < k → i ≤ l.length → ddiref35_index.l0 k l c (i : Int) = some (idxS (l.drop i) c i) := by
  intro n
  induction n with
  | zero =>
    intro k i hn hk hi
    obtain ⟨k, rfl⟩ : ∃ q, k = q + 1 := ⟨k - 1, by omega⟩
    obtain rfl : i = l.length := by omega
    rw [ddiref35_index.l0, if_neg (by omega), List.drop_length]; rfl
  | succ n ih =>
    intro k i hn hk hi
    obtain ⟨k, rfl⟩ : ∃ q, k = q + 1 := ⟨k - 1, by omega⟩
    by_cases hlt : i < l.length
    · rw [ddiref35_index.l0, if_pos (by omega), if_pos (by omega), rd_at hlt, drop_at hlt, idxS]
      by_cases hc : l[i].f0 = c
      · rw [if_pos hc, if_pos hc]
      · rw [if_neg hc, if_neg hc, wsucc (by omega), ih k (i + 1) (by omega) (by omega) (by omega)]
    · obtain rfl : i = l.length := by omega
      rw [ddiref35_index.l0, if_neg (by omega), List.drop_length]; rfl
theorem index_f (l : List S61) (c : Int) (hl : l.length ≤ 5864062014805) (k : Nat) (hk : l.length < k) : ddiref35_index.f k l c = some (idxS l c 0) := by
  have := index_l l c hl l.length k 0 (by omega) hk (by omega)
  simpa [ddiref35_index.f] using this

end Go.Proofs.YtcoekgnbncocnaaDoor.OPT


namespace Go.Proofs.YtcoekgnbncocnaaDoor.PK
open Go Go.RowKit Go.Proofs.YtcoekgnbncocnaaDoorW.PrintWords Go.Proofs.YtcoekgnbncocnaaDoorW.PrintLast Go.Proofs.YtcoekgnbncocnaaDoorW.PrintMore Go.Proofs.YtcoekgnbncocnaaDoor.DN Go.Proofs.YtcoekgnbncocnaaDoor.OPT Go.Proofs.YtcoekgnbncocnaaDoor.ADR Go.Proofs.YtcoekgnbncocnaaDoor.Pa
set_option linter.unusedVariables false
set_option linter.unusedSimpArgs false

def zeroA (x : S24) : Prop := x.f0 = false ∧ x.f1 = 0 ∧ x.f2 = 0
instance (x : S24) : Decidable (zeroA x) := inferInstanceAs (Decidable (_ ∧ _ ∧ _))
end Go.Proofs.YtcoekgnbncocnaaDoor.PK


namespace Go.Proofs.YtcoekgnbncocnaaDoor.OPT
open Go Go.RowKit Go.Proofs.YtcoekgnbncocnaaDoorW.PrintWords Go.Proofs.YtcoekgnbncocnaaDoor.DN Go.Proofs.YtcoekgnbncocnaaDoor.Pa
set_option linter.unusedVariables false
set_option linter.unusedSimpArgs false

def ptS : List S61 → Int → ByteArray → List S61
  | [], c, v => [⟨c, v⟩]
  | x :: l, c, v => if x.f0 = c then ⟨x.f0, v⟩ :: l else x :: ptS l c v
def putS (l : List S61) (c : Int) (v : ByteArray) : List S61 := if 1 ≤ c ∧ c ≤ 254 then ptS l c v else l
theorem ptS_split {a : List S61} {x : S61} {b : List S61} {c : Int} (v : ByteArray) (h1 : ∀ y ∈ a, y.f0 ≠ c) (h2 : x.f0 = c) : ptS (a ++ x :: b) c v = a ++ ⟨x.f0, v⟩ :: b := by
  induction a with
  | nil => rw [List.nil_append, ptS, if_pos h2]; rfl
  | cons y a ih => rw [List.cons_append, ptS, if_neg (h1 y (by simp)), ih (fun z hz => h1 z (by simp [hz]))]; rfl
theorem ptS_new {l : List S61} {c : Int} (v : ByteArray) (h1 : ∀ y ∈ l, y.f0 ≠ c) : ptS l c v = l ++ [⟨c, v⟩] := by
  induction l with
  | nil => rfl
  | cons y a ih => rw [ptS, if_neg (h1 y (by simp)), ih (fun z hz => h1 z (by simp [hz]))]; rfl
theorem ptS_length (l : List S61) (c : Int) (v : ByteArray) : (ptS l c v).length ≤ l.length + 1 := by
  induction l with
  | nil => simp [ptS]
  | cons x l ih => rw [ptS]; split <;> simp <;> omega
theorem fnd_split {a : List S61} {x : S61} {b : List S61} {c : Int} (h1 : ∀ y ∈ a, y.f0 ≠ c) (h2 : x.f0 = c) : fndA (ab (a ++ x :: b)) c = (x.f1, true) := by
  have : fnd (ab (a ++ x :: b)) c = some (L x.f1) := by
    induction a with
    | nil => rw [List.nil_append, ab_cons, fnd, if_pos (show (o1 x).1 = c from h2)]; rfl
    | cons y a ih => rw [List.cons_append, ab_cons, fnd, if_neg (show ¬ (o1 y).1 = c from h1 y (by simp)), ih (fun z hz => h1 z (by simp [hz]))]
  unfold fndA; rw [this]; simp
theorem fnd_new {l : List S61} {c : Int} (h1 : ∀ y ∈ l, y.f0 ≠ c) : fndA (ab l) c = (⟨#[]⟩, false) := by
  have : fnd (ab l) c = none := by
    induction l with
    | nil => rfl
    | cons y a ih => rw [ab_cons, fnd, if_neg (show ¬ (o1 y).1 = c from h1 y (by simp)), ih (fun z hz => h1 z (by simp [hz]))]
  unfold fndA; rw [this]

theorem put_l (l : List S61) (c : Int) (v : ByteArray) (hl : l.length ≤ 5864062014800) : ∀ (n k i : Nat), l.length - i ≤ n → n < k → i ≤ l.length →
    option_Put.l0 k c v l (l.length : Int) (i : Int) = some (l.take i ++ ptS (l.drop i) c v) := by
  intro n
  induction n with
  | zero =>
    intro k i hn hk hi
    obtain ⟨k, rfl⟩ : ∃ q, k = q + 1 := ⟨k - 1, by omega⟩
    obtain rfl : i = l.length := by omega
    rw [option_Put.l0, if_neg (by omega), if_pos (by omega), List.drop_length, List.take_length]; rfl
  | succ n ih =>
    intro k i hn hk hi
    obtain ⟨k, rfl⟩ : ∃ q, k = q + 1 := ⟨k - 1, by omega⟩
    by_cases hlt : i < l.length
    · rw [option_Put.l0, if_pos (by omega), if_pos (by omega), if_pos (by omega), rd_at hlt, drop_at hlt, ptS]
      by_cases h : l[i].f0 = c
      · rw [if_pos h, if_pos h, Int.toNat_natCast, List.set_eq_take_append_cons_drop, if_pos hlt]
      · rw [if_neg h, if_neg h, wsucc (by omega), ih k (i + 1) (by omega) (by omega) (by omega), List.take_succ_eq_append_getElem hlt, List.append_assoc]; rfl
    · obtain rfl : i = l.length := by omega
      rw [option_Put.l0, if_neg (by omega), if_pos (by omega), List.drop_length, List.take_length]; rfl
theorem put_f (l : List S61) (c : Int) (v : ByteArray) (hl : l.length ≤ 5864062014800) (k : Nat) (hk : l.length < k) : option_Put.f k l c v = some (putS l c v) := by
  unfold option_Put.f
  rw [if_pos (by simp; omega), Option.bind_some, isCode_f, Option.bind_some, List.nil_append]
  unfold putS
  by_cases hc : 1 ≤ c ∧ c ≤ 254
  · rw [if_pos (decide_eq_true hc), if_pos hc]
    have := put_l l c v hl l.length k 0 (by omega) hk (by omega)
    simpa using this
  · rw [if_neg (by rw [decide_eq_false hc]; decide), if_neg hc]
theorem rfind_f (l : List S61) (c : Int) (hl : l.length ≤ 5864062014800) (k : Nat) (hk : l.length < k) : ddiref35_Find.f k l c = some (fndA (ab l) c) := by
  unfold ddiref35_Find.f
  rw [index_f l c (by omega) k hk, Option.bind_some]
  rcases idx_cases l c 0 with ⟨h1, h2⟩ | ⟨a, x, b, h1, h2, h3, h4⟩
  · rw [h2, if_pos (by decide), fnd_new h1]
  · rw [h4, if_neg (by omega), if_pos (by omega), Nat.zero_add]
    subst h1
    rw [if_pos (by simp; omega), rd_split, fnd_split h3 h2]
theorem rput_j (l : List S61) (c : Int) (v : ByteArray) (hl : l.length ≤ 5864062014800) (k : Nat) (hk : l.length + 1 < k) (hc : 1 ≤ c ∧ c ≤ 254) : ddiref35_Put.j1 k c v l false = some (ptS l c v) := by
  obtain ⟨k, rfl⟩ : ∃ q, k = q + 1 := ⟨k - 1, by omega⟩
  rw [ddiref35_Put.j1, if_neg (by decide), index_f l c (by omega) k (by omega), Option.bind_some]
  rcases idx_cases l c 0 with ⟨h1, h2⟩ | ⟨a, x, b, h1, h2, h3, h4⟩
  · rw [h2, if_neg (by decide), if_pos (by omega), ptS_new v h1]
  · rw [h4, if_pos (by omega), if_pos (by omega), Nat.zero_add]
    subst h1
    rw [if_pos (by simp; omega), rd_split, Int.toNat_natCast, set_split, ptS_split v h3 h2]
theorem rput_l (l : List S61) (c : Int) (v : ByteArray) (hl : l.length ≤ 5864062014800) : ∀ (n k i : Nat), l.length - i ≤ n → n + l.length + 3 < k → i ≤ l.length →
    ddiref35_Put.l0 k l c v (l.take i) (i : Int) = some (putS l c v) := by
  intro n
  have hend : ∀ k, l.length + 2 < k → (if c < 1 then ddiref35_Put.j1 k c v l true else ddiref35_Put.j1 k c v l (decide (c > 254))) = some (putS l c v) := by
    intro k hk
    obtain ⟨k, rfl⟩ : ∃ q, k = q + 1 := ⟨k - 1, by omega⟩
    unfold putS
    by_cases h1 : c < 1
    · rw [if_pos h1, if_neg (by omega), ddiref35_Put.j1, if_pos rfl]
    · rw [if_neg h1]
      by_cases h2 : c > 254
      · rw [decide_eq_true h2, if_neg (by omega), ddiref35_Put.j1, if_pos rfl]
      · rw [decide_eq_false h2, if_pos (by omega)]
        exact rput_j l c v hl _ (by omega) (by omega)
  induction n with
  | zero =>
    intro k i hn hk hi
    obtain ⟨k, rfl⟩ : ∃ q, k = q + 1 := ⟨k - 1, by omega⟩
    obtain rfl : i = l.length := by omega
    rw [ddiref35_Put.l0, if_neg (by omega), List.take_length]
    exact hend k (by omega)
  | succ n ih =>
    intro k i hn hk hi
    obtain ⟨k, rfl⟩ : ∃ q, k = q + 1 := ⟨k - 1, by omega⟩
    by_cases hlt : i < l.length
    · rw [ddiref35_Put.l0, if_pos (by omega), if_pos (by omega), if_pos (by rw [List.length_take]; omega), rd_at hlt, wsucc (by omega)]
      have := ih k (i + 1) (by omega) (by omega) (by omega)
      rw [List.take_succ_eq_append_getElem hlt] at this
      exact this
    · obtain rfl : i = l.length := by omega
      rw [ddiref35_Put.l0, if_neg (by omega), List.take_length]
      exact hend k (by omega)
theorem rput_f (l : List S61) (c : Int) (v : ByteArray) (hl : l.length ≤ 5864062014800) (k : Nat) (hk : 2 * l.length + 3 < k) : ddiref35_Put.f k l c v = some (putS l c v) := by
  have := rput_l l c v hl l.length k 0 (by omega) (by omega) (by omega)
  simpa [ddiref35_Put.f] using this
end Go.Proofs.YtcoekgnbncocnaaDoor.OPT


namespace Go.Proofs.YtcoekgnbncocnaaDoor.PK
open Go Go.RowKit Go.Proofs.YtcoekgnbncocnaaDoorW.PrintWords Go.Proofs.YtcoekgnbncocnaaDoorW.PrintLast Go.Proofs.YtcoekgnbncocnaaDoorW.PrintMore Go.Proofs.YtcoekgnbncocnaaDoor.DN Go.Proofs.YtcoekgnbncocnaaDoor.OPT Go.Proofs.YtcoekgnbncocnaaDoor.ADR Go.Proofs.YtcoekgnbncocnaaDoor.Pa
set_option linter.unusedVariables false
set_option linter.unusedSimpArgs false

theorem and7 (n : Int) (h0 : -9223372036854775808 ≤ n) (h1 : n ≤ 9223372036854775807) : Go.bits .and .i64 n 7 = n % 8 := by
  have h2 : (BitVec.ofInt 64 (7 : Int)).toNat = 7 := by decide
  have h3 : (BitVec.ofInt 64 n).toNat = (n % 18446744073709551616).toNat := by rw [BitVec.toNat_ofInt]; rfl
  show IntKind.i64.wrap ((BitVec.ofInt 64 n &&& BitVec.ofInt 64 (7 : Int)).toNat : Int) = _
  rw [BitVec.toNat_and, h2, h3, show (7 : Nat) = 2 ^ 3 - 1 from rfl, Nat.and_two_pow_sub_one_eq_mod, i64_w, wrap_id (by omega) (by omega)]
  omega
theorem most_f (n : Int) (h0 : -9223372036854775808 ≤ n) (h1 : n ≤ 9223372036854775807) : dhcp_most.f n = some (n * 7 / 8) := by
  unfold dhcp_most.f
  rw [and7 n h0 h1, wrap_id (x := n / 8 * 7) (by omega) (by omega), wrap_id (x := n % 8 * 7) (by omega) (by omega), wrap_id (by omega) (by omega)]
  congr 1; omega
theorem half_f (n : Int) : dhcp_half.f n = some (n / 2) := rfl

end Go.Proofs.YtcoekgnbncocnaaDoor.PK


namespace Go.Proofs.YtcoekgnbncocnaaDoor.PK
open Go Go.RowKit Go.Proofs.YtcoekgnbncocnaaDoorW.PrintWords Go.Proofs.YtcoekgnbncocnaaDoorW.PrintLast Go.Proofs.YtcoekgnbncocnaaDoorW.PrintMore Go.Proofs.YtcoekgnbncocnaaDoor.DN Go.Proofs.YtcoekgnbncocnaaDoor.OPT Go.Proofs.YtcoekgnbncocnaaDoor.ADR Go.Proofs.YtcoekgnbncocnaaDoor.Pa
set_option linter.unusedVariables false
set_option linter.unusedSimpArgs false

def bytP (n : Int) : ByteArray × Bool := if 0 ≤ n ∧ n < 4294967296 then (B (word n), true) else (⟨#[]⟩, false)
theorem bytes4_f (n : Int) (k : Nat) (hk : 40 ≤ k) : option_Bytes.f k n 4 = some (bytP n) := by
  refine up (fun k => option_Bytes.mono _ _ k) hk ?_
  unfold bytP
  have hs4 : shl .i64 1 (IntKind.u64.wrap (wrap64 (8 * 4))) = 4294967296 := by decide +kernel
  unfold option_Bytes.f
  rw [isSize_f, Option.bind_some, if_pos (by decide)]
  by_cases hn : n < 0
  · rw [if_pos hn, if_neg (by omega)]; rfl
  · rw [if_neg hn, if_pos (by decide +kernel), hs4]
    by_cases hb : n < 4294967296
    · rw [decide_eq_false (by omega), if_pos (by omega)]
      have : option_Bytes.j0 40 n 4 false = some (strOfNums [n / 16777216 % 256, n / 65536 % 256, n / 256 % 256, n / 1 % 256], true) := by kernel_rfl
      rw [this, Int.ediv_one]; rfl
    · rw [decide_eq_true (by omega), if_neg (by omega)]; rfl
def gf : List S61 → List S61 → List S61
  | acc, [] => acc
  | acc, o :: m => gf (if (fndA (ab acc) o.f0).2 = true then acc else putS acc o.f0 o.f1) m
def msk (bits : Int) : ByteArray := strOfNums [((shl .u32 4294967295 (wrap64 (32 - bits))) / 16777216) % 256, ((shl .u32 4294967295 (wrap64 (32 - bits))) / 65536) % 256, ((shl .u32 4294967295 (wrap64 (32 - bits))) / 256) % 256, (shl .u32 4294967295 (wrap64 (32 - bits))) % 256]
def g1 (acc : List S61) (bits : Int) : List S61 := if (fndA (ab acc) 1).2 = true then acc else if 0 ≤ bits ∧ bits ≤ 32 then putS acc 1 (msk bits) else acc
def g2 (acc : List S61) (c n : Int) : List S61 := if (bytP n).2 = true then putS acc c (bytP n).1 else acc
def g3 (acc : List S61) (t : Int) : List S61 := g2 (g2 (g2 acc 51 t) 58 (t / 2)) 59 (t * 7 / 8)
def grantO (l m : List S61) (bits t : Int) : List S61 := g3 (g1 (gf l m) bits) t
theorem putS_length (l : List S61) (c : Int) (v : ByteArray) : (putS l c v).length ≤ l.length + 1 := by
  unfold putS; split
  · exact ptS_length l c v
  · omega
theorem g2_length (l : List S61) (c n : Int) : (g2 l c n).length ≤ l.length + 1 := by
  unfold g2; split
  · exact putS_length ..
  · omega
theorem g1_length (l : List S61) (b : Int) : (g1 l b).length ≤ l.length + 1 := by
  unfold g1; split
  · omega
  · split
    · exact putS_length ..
    · omega
theorem gf_length : ∀ (m acc : List S61), (gf acc m).length ≤ acc.length + m.length
  | [], acc => by simp [gf]
  | o :: m, acc => by
    rw [gf, List.length_cons]
    have := gf_length m (if (fndA (ab acc) o.f0).2 = true then acc else putS acc o.f0 o.f1)
    split at this
    · rw [if_pos (by assumption)]; omega
    · have h2 := putS_length acc o.f0 o.f1
      rw [if_neg (by assumption)]; omega
section
variable (a0 a1 a2 : Int) (a3 : ByteArray) (a4 : Bool) (a5 a6 : Int) (a7 : Bool) (a8 a9 : Int) (a10 : Bool) (a11 a12 : Int) (a13 : Bool) (l : List S61) (b0 : Bool) (b1 b2 : Int) (c0 : Bool) (c1 c2 c3 : Int) (c4 : ByteArray) (m5 : List S139) (m6 : List S141) (m : List S61) (t : Int)
theorem grant_l1 (acc : List S61) (ha : acc.length ≤ 100000) (k : Nat) (hk : 200000 < k) :
    dhcp_Grant.l1 (k + 4) acc [51, 58, 59] [t, t / 2, t * 7 / 8] 3 0 a0 a1 a2 a3 a4 a5 a6 a7 a8 a9 a10 a11 a12 a13 l b0 b1 b2 = some (a0, a1, a2, a3, a4, a5, a6, b0, b1, b2, a10, a11, a12, a13, g3 acc t) := by
  have step : ∀ (j : Nat) (acc : List S61) (i c n : Int), acc.length ≤ 100003 → 200000 < j → 0 ≤ i → i < 3 → rd [t, t / 2, t * 7 / 8] i = n → rd [51, 58, 59] i = c →
      dhcp_Grant.l1 (j + 1) acc [51, 58, 59] [t, t / 2, t * 7 / 8] 3 i a0 a1 a2 a3 a4 a5 a6 a7 a8 a9 a10 a11 a12 a13 l b0 b1 b2 = dhcp_Grant.l1 j (g2 acc c n) [51, 58, 59] [t, t / 2, t * 7 / 8] 3 (i + 1) a0 a1 a2 a3 a4 a5 a6 a7 a8 a9 a10 a11 a12 a13 l b0 b1 b2 := by
    intro j acc i c n hacc hj h0 h1 hn hc
    rw [dhcp_Grant.l1, if_pos h1, if_pos h0, if_pos (by simp only [List.length_cons, List.length_nil]; omega), hn, bytes4_f n j (by omega), Option.bind_some, wrap_id (x := i + 1) (by omega) (by omega)]
    unfold g2
    by_cases h : (bytP n).2 = true
    · rw [if_pos h, if_pos h, if_pos (by simp only [List.length_cons, List.length_nil]; omega), hc, put_f acc c _ (by omega) j (by omega), Option.bind_some]
    · rw [if_neg h, if_neg h]
  have l1 := g2_length acc 51 t
  have l2 := g2_length (g2 acc 51 t) 58 (t / 2)
  rw [step (k + 3) acc 0 51 t (by omega) (by omega) (by decide) (by decide) rfl rfl, step (k + 2) (g2 acc 51 t) (0 + 1) 58 (t / 2) (by omega) (by omega) (by decide) (by decide) rfl rfl,
    step (k + 1) (g2 (g2 acc 51 t) 58 (t / 2)) (0 + 1 + 1) 59 (t * 7 / 8) (by omega) (by omega) (by decide) (by decide) rfl rfl, dhcp_Grant.l1, if_neg (by decide)]
  rfl
theorem grant_j2 (acc : List S61) (ha : acc.length ≤ 100000) (k : Nat) (hk : 200000 < k) (ht0 : -9223372036854775808 ≤ t) (ht1 : t ≤ 9223372036854775807) :
    dhcp_Grant.j2 (k + 5) acc a0 a1 a2 a3 a4 a5 a6 a7 a8 a9 a10 a11 a12 a13 l b0 b1 b2 c0 c1 c2 c3 c4 m5 m6 m t = some (a0, a1, a2, a3, a4, a5, a6, b0, b1, b2, a10, a11, a12, a13, g3 acc t) := by
  rw [dhcp_Grant.j2, half_f, Option.bind_some, most_f t ht0 ht1, Option.bind_some, Option.bind_some]
  exact grant_l1 a0 a1 a2 a3 a4 a5 a6 a7 a8 a9 a10 a11 a12 a13 l b0 b1 b2 t acc ha k hk
theorem grant_j1 (acc : List S61) (ha : acc.length ≤ 99999) (k : Nat) (hk : 200000 < k) (ht0 : -9223372036854775808 ≤ t) (ht1 : t ≤ 9223372036854775807) (b : Bool) (hb : b = true → 0 ≤ c3 ∧ c3 ≤ 32) :
    dhcp_Grant.j1 (k + 6) acc c3 b a0 a1 a2 a3 a4 a5 a6 a7 a8 a9 a10 a11 a12 a13 l b0 b1 b2 c0 c1 c2 c3 c4 m5 m6 m t = some (a0, a1, a2, a3, a4, a5, a6, b0, b1, b2, a10, a11, a12, a13, g3 (if b = true then putS acc 1 (msk c3) else acc) t) := by
  rw [dhcp_Grant.j1]
  by_cases h : b = true
  · have hb2 := hb h
    have hp := putS_length acc 1 (msk c3)
    rw [if_pos h, if_pos h, if_pos (by rw [wrap_id (by omega) (by omega)]; omega), put_f acc 1 _ (by omega) (k + 5) (by omega), Option.bind_some]
    exact grant_j2 a0 a1 a2 a3 a4 a5 a6 a7 a8 a9 a10 a11 a12 a13 l b0 b1 b2 c0 c1 c2 c3 c4 m5 m6 m t (putS acc 1 (msk c3)) (by omega) k hk ht0 ht1
  · rw [if_neg h, if_neg h]
    exact grant_j2 a0 a1 a2 a3 a4 a5 a6 a7 a8 a9 a10 a11 a12 a13 l b0 b1 b2 c0 c1 c2 c3 c4 m5 m6 m t acc (by omega) k hk ht0 ht1
theorem grant_end (acc : List S61) (ha : acc.length ≤ 99999) (k : Nat) (hk : 200000 < k) (ht0 : -9223372036854775808 ≤ t) (ht1 : t ≤ 9223372036854775807) (i : Int) (hi : ¬ i < (m.length : Int)) :
    dhcp_Grant.l0 (k + 7) acc m (m.length : Int) i a0 a1 a2 a3 a4 a5 a6 a7 a8 a9 a10 a11 a12 a13 l b0 b1 b2 c0 c1 c2 c3 c4 m5 m6 m t = some (a0, a1, a2, a3, a4, a5, a6, b0, b1, b2, a10, a11, a12, a13, g3 (g1 acc c3) t) := by
  rw [dhcp_Grant.l0, if_neg hi, find_f acc 1 (by omega) (k + 6) (by omega), Option.bind_some]
  have J := fun b hb => grant_j1 a0 a1 a2 a3 a4 a5 a6 a7 a8 a9 a10 a11 a12 a13 l b0 b1 b2 c0 c1 c2 c3 c4 m5 m6 m t acc ha k hk ht0 ht1 b hb
  unfold g1
  by_cases h : (fndA (ab acc) 1).2 = true
  · rw [if_pos h, if_pos h, J false (fun e => by cases e), if_neg Bool.false_ne_true]
  · rw [if_neg h, if_neg h]
    by_cases h2 : c3 ≥ 0
    · rw [if_pos h2, J _ (fun e => ⟨h2, of_decide_eq_true e⟩)]
      by_cases h3 : c3 ≤ 32
      · rw [decide_eq_true h3, if_pos rfl, if_pos ⟨h2, h3⟩]
      · rw [decide_eq_false h3, if_neg Bool.false_ne_true, if_neg (fun e => h3 e.2)]
    · rw [if_neg h2, J false (fun e => by cases e), if_neg Bool.false_ne_true, if_neg (fun e => h2 e.1)]
theorem grant_l (hm : m.length ≤ 1000) (ht0 : -9223372036854775808 ≤ t) (ht1 : t ≤ 9223372036854775807) : ∀ (n k i : Nat) (acc : List S61), m.length - i ≤ n → 200008 + n < k → i ≤ m.length → acc.length + (m.length - i) ≤ 99999 →
    dhcp_Grant.l0 k acc m (m.length : Int) (i : Int) a0 a1 a2 a3 a4 a5 a6 a7 a8 a9 a10 a11 a12 a13 l b0 b1 b2 c0 c1 c2 c3 c4 m5 m6 m t = some (a0, a1, a2, a3, a4, a5, a6, b0, b1, b2, a10, a11, a12, a13, g3 (g1 (gf acc (m.drop i)) c3) t) := by
  intro n
  induction n with
  | zero =>
    intro k i acc hn hk hi ha
    obtain ⟨k, rfl⟩ : ∃ q, k = q + 7 := ⟨k - 7, by omega⟩
    rw [List.drop_eq_nil_of_le (by omega), gf]
    exact grant_end a0 a1 a2 a3 a4 a5 a6 a7 a8 a9 a10 a11 a12 a13 l b0 b1 b2 c0 c1 c2 c3 c4 m5 m6 m t acc (by omega) k (by omega) ht0 ht1 (i : Int) (by omega)
  | succ n ih =>
    intro k i acc hn hk hi ha
    by_cases hlt : i < m.length
    · obtain ⟨k, rfl⟩ : ∃ q, k = q + 1 := ⟨k - 1, by omega⟩
      rw [dhcp_Grant.l0, if_pos (by omega), if_pos (by omega), if_pos (by omega), rd_at hlt, find_f acc _ (by omega) k (by omega), Option.bind_some, drop_at hlt, gf, wsucc (by omega)]
      by_cases h : (fndA (ab acc) m[i].f0).2 = true
      · rw [if_pos h, if_pos h]
        exact ih k (i + 1) acc (by omega) (by omega) (by omega) (by omega)
      · have hp := putS_length acc m[i].f0 m[i].f1
        rw [if_neg h, if_neg h, put_f acc _ _ (by omega) k (by omega), Option.bind_some]
        exact ih k (i + 1) _ (by omega) (by omega) (by omega) (by omega)
    · obtain ⟨k, rfl⟩ : ∃ q, k = q + 7 := ⟨k - 7, by omega⟩
      rw [List.drop_eq_nil_of_le (by omega), gf]
      exact grant_end a0 a1 a2 a3 a4 a5 a6 a7 a8 a9 a10 a11 a12 a13 l b0 b1 b2 c0 c1 c2 c3 c4 m5 m6 m t acc (by omega) k (by omega) ht0 ht1 (i : Int) (by omega)
theorem grant_f (hl : l.length ≤ 1000) (hm : m.length ≤ 1000) (ht0 : -9223372036854775808 ≤ t) (ht1 : t ≤ 9223372036854775807) (k : Nat) (hk : 202000 < k) :
    dhcp_Grant.f k a0 a1 a2 a3 a4 a5 a6 a7 a8 a9 a10 a11 a12 a13 l b0 b1 b2 c0 c1 c2 c3 c4 m5 m6 m t = some (a0, a1, a2, a3, a4, a5, a6, b0, b1, b2, a10, a11, a12, a13, grantO l m c3 t) := by
  unfold dhcp_Grant.f grantO
  rw [if_pos (by simp; omega), List.nil_append]
  have := grant_l a0 a1 a2 a3 a4 a5 a6 a7 a8 a9 a10 a11 a12 a13 l b0 b1 b2 c0 c1 c2 c3 c4 m5 m6 m t hm ht0 ht1 m.length k 0 l (by omega) (by omega) (by omega) (by omega)
  simpa using this
end
end Go.Proofs.YtcoekgnbncocnaaDoor.PK


namespace Go.Proofs.YtcoekgnbncocnaaDoor.PK
open Go Go.RowKit Go.Proofs.YtcoekgnbncocnaaDoorW.PrintWords Go.Proofs.YtcoekgnbncocnaaDoorW.PrintLast Go.Proofs.YtcoekgnbncocnaaDoorW.PrintMore Go.Proofs.YtcoekgnbncocnaaDoor.DN Go.Proofs.YtcoekgnbncocnaaDoor.OPT Go.Proofs.YtcoekgnbncocnaaDoor.ADR Go.Proofs.YtcoekgnbncocnaaDoor.Pa
set_option linter.unusedVariables false
set_option linter.unusedSimpArgs false
theorem rbytes35 (n : Int) (h0 : -9223372036854775808 ≤ n) (h1 : n ≤ 9223372036854775807) (k : Nat) (hk : 100 < k) : ddiref35_Bytes.f k n 4 = some (bytP n) := by
  obtain ⟨r, e1, e2⟩ := bytes_alike n 4 h0 h1 (by decide) (by decide) k hk
  rw [bytes4_f n k (by omega)] at e1
  rw [e2, ← e1]
theorem rmask_all : ∀ j : Fin 33, (ddiref36_mask.f 100 ((j.val : Nat) : Int)).map (fun b => b.data.toList) = some (msk ((j.val : Nat) : Int)).data.toList := by decide +kernel
theorem rmask_f (b : Int) (h0 : 0 ≤ b) (h1 : b ≤ 32) (k : Nat) (hk : 100 ≤ k) : ddiref36_mask.f k b = some (msk b) := by
  refine up (fun k => ddiref36_mask.mono _ k) hk ?_
  have h := rmask_all ⟨b.toNat, by omega⟩
  have e : ((b.toNat : Nat) : Int) = b := by omega
  dsimp only at h
  rw [e] at h
  cases hm : ddiref36_mask.f 100 b with
  | none => rw [hm] at h; cases h
  | some x =>
    rw [hm] at h
    simp only [Option.map_some, Option.some.injEq] at h
    congr 1
    cases x with | mk d => cases hd : msk b with | mk d2 =>
    rw [hd] at h
    have : d = d2 := Array.toList_inj.1 h
    rw [this]
theorem rput36 (l : List S61) (c n : Int) (hl : l.length ≤ 100000) (h0 : -9223372036854775808 ≤ n) (h1 : n ≤ 9223372036854775807) (k : Nat) (hk : 200010 < k) : ddiref36_put.f k l c n = some (g2 l c n) := by
  unfold ddiref36_put.f g2
  rw [rbytes35 n h0 h1 k (by omega), Option.bind_some]
  by_cases h : (bytP n).2 = true
  · rw [if_pos h, if_pos h, rput_f l c _ (by omega) k (by omega), Option.bind_some]
  · rw [if_neg h, if_neg h]
theorem g2_alike (l : List S61) (c : Int) {m n : Int} (h : m = n ∨ ((m < 0 ∨ 4294967296 ≤ m) ∧ (n < 0 ∨ 4294967296 ≤ n))) : g2 l c m = g2 l c n := by
  rcases h with rfl | ⟨h1, h2⟩
  · rfl
  · have e1 : bytP m = (⟨#[]⟩, false) := if_neg (by omega)
    have e2 : bytP n = (⟨#[]⟩, false) := if_neg (by omega)
    unfold g2
    rw [e1, e2]
theorem rhalf36 (t : Int) (h1 : t ≤ 9223372036854775807) : ddiref36_half.f t = some (if t < 0 then -1 else t / 2) := by
  unfold ddiref36_half.f
  by_cases h : t < 0
  · rw [if_pos h, if_pos h]
  · rw [if_neg h, if_neg h, Int.tdiv_eq_ediv_of_nonneg (by omega), wrap_id (by omega) (by omega)]
theorem reighths36 (t : Int) (h1 : t ≤ 9223372036854775807) : ddiref36_eighths.f t = some (if t < 0 ∨ t > 1099511627776 then -1 else t * 7 / 8) := by
  unfold ddiref36_eighths.f
  by_cases h : t < 0
  · rw [if_pos h, if_pos (Or.inl h)]
  · rw [if_neg h]
    by_cases h2 : t > 1099511627776
    · rw [if_pos h2, if_pos (Or.inr h2)]
    · rw [if_neg h2, if_neg (by omega), wrap_id (x := t * 7) (by omega) (by omega), Int.tdiv_eq_ediv_of_nonneg (by omega), wrap_id (by omega) (by omega)]
section
variable (a0 a1 a2 : Int) (a3 : ByteArray) (a4 : Bool) (a5 a6 : Int) (b0 : Bool) (b1 b2 : Int) (a10 : Bool) (a11 a12 : Int) (a13 : Bool) (l : List S61) (c0 : Bool) (c1 c2 c3 : Int) (c4 : ByteArray) (m5 : List S139) (m6 : List S141) (m : List S61) (t : Int)
theorem rgrant_j2 (acc : List S61) (ha : acc.length ≤ 99000) (k : Nat) (hk : 200010 < k) (ht0 : -9223372036854775808 ≤ t) (ht1 : t ≤ 9223372036854775807) :
    ddiref36_Grant.j2 (k + 1) acc a0 a1 a2 a3 a4 a5 a6 b0 b1 b2 a10 a11 a12 a13 l c0 c1 c2 c3 c4 m5 m6 m t = some (a0, a1, a2, a3, a4, a5, a6, b0, b1, b2, a10, a11, a12, a13, g3 acc t) := by
  have l1 := g2_length acc 51 t
  have l2 := g2_length (g2 acc 51 t) 58 (if t < 0 then -1 else t / 2)
  have b1 : -9223372036854775808 ≤ (if t < 0 then -1 else t / 2) ∧ (if t < 0 then -1 else t / 2) ≤ 9223372036854775807 := by split <;> omega
  have b2 : -9223372036854775808 ≤ (if t < 0 ∨ t > 1099511627776 then -1 else t * 7 / 8) ∧ (if t < 0 ∨ t > 1099511627776 then -1 else t * 7 / 8) ≤ 9223372036854775807 := by split <;> omega
  rw [ddiref36_Grant.j2, rput36 acc 51 t (by omega) ht0 ht1 k hk, Option.bind_some, rhalf36 t ht1, Option.bind_some, rput36 _ 58 _ (by omega) b1.1 b1.2 k hk, Option.bind_some, reighths36 t ht1, Option.bind_some,
    rput36 _ 59 _ (by omega) b2.1 b2.2 k hk, Option.bind_some]
  unfold g3
  rw [g2_alike (g2 acc 51 t) 58 (m := if t < 0 then -1 else t / 2) (n := t / 2) (by split <;> omega), g2_alike _ 59 (m := if t < 0 ∨ t > 1099511627776 then -1 else t * 7 / 8) (n := t * 7 / 8) (by split <;> omega)]
theorem rgrant_j1 (acc : List S61) (ha : acc.length ≤ 98000) (k : Nat) (hk : 200010 < k) (ht0 : -9223372036854775808 ≤ t) (ht1 : t ≤ 9223372036854775807) (b : Bool) (hb : b = true → 0 ≤ c3 ∧ c3 ≤ 32) :
    ddiref36_Grant.j1 (k + 2) acc b a0 a1 a2 a3 a4 a5 a6 b0 b1 b2 a10 a11 a12 a13 l c0 c1 c2 c3 c4 m5 m6 m t = some (a0, a1, a2, a3, a4, a5, a6, b0, b1, b2, a10, a11, a12, a13, g3 (if b = true then putS acc 1 (msk c3) else acc) t) := by
  rw [ddiref36_Grant.j1]
  by_cases h : b = true
  · have hb2 := hb h
    have hp := putS_length acc 1 (msk c3)
    rw [if_pos h, if_pos h, rmask_f c3 hb2.1 hb2.2 (k + 1) (by omega), Option.bind_some, rput_f acc 1 _ (by omega) (k + 1) (by omega), Option.bind_some]
    exact rgrant_j2 a0 a1 a2 a3 a4 a5 a6 b0 b1 b2 a10 a11 a12 a13 l c0 c1 c2 c3 c4 m5 m6 m t (putS acc 1 (msk c3)) (by omega) k hk ht0 ht1
  · rw [if_neg h, if_neg h]
    exact rgrant_j2 a0 a1 a2 a3 a4 a5 a6 b0 b1 b2 a10 a11 a12 a13 l c0 c1 c2 c3 c4 m5 m6 m t acc (by omega) k hk ht0 ht1
theorem rgrant_end (acc : List S61) (ha : acc.length ≤ 98000) (k : Nat) (hk : 200010 < k) (ht0 : -9223372036854775808 ≤ t) (ht1 : t ≤ 9223372036854775807) (i : Int) (hi : ¬ i < (m.length : Int)) :
    ddiref36_Grant.l0 (k + 3) acc i a0 a1 a2 a3 a4 a5 a6 b0 b1 b2 a10 a11 a12 a13 l c0 c1 c2 c3 c4 m5 m6 m t = some (a0, a1, a2, a3, a4, a5, a6, b0, b1, b2, a10, a11, a12, a13, g3 (g1 acc c3) t) := by
  rw [ddiref36_Grant.l0, if_neg hi, rfind_f acc 1 (by omega) (k + 2) (by omega), Option.bind_some]
  have J := fun b hb => rgrant_j1 a0 a1 a2 a3 a4 a5 a6 b0 b1 b2 a10 a11 a12 a13 l c0 c1 c2 c3 c4 m5 m6 m t acc ha k hk ht0 ht1 b hb
  unfold g1
  by_cases h : (fndA (ab acc) 1).2 = true
  · rw [if_pos h, if_pos h, J false (fun e => by cases e), if_neg Bool.false_ne_true]
  · rw [if_neg h, if_neg h]
    by_cases h2 : c3 ≥ 0
    · rw [if_pos h2, J _ (fun e => ⟨h2, of_decide_eq_true e⟩)]
      by_cases h3 : c3 ≤ 32
      · rw [decide_eq_true h3, if_pos rfl, if_pos ⟨h2, h3⟩]
      · rw [decide_eq_false h3, if_neg Bool.false_ne_true, if_neg (fun e => h3 e.2)]
    · rw [if_neg h2, J false (fun e => by cases e), if_neg Bool.false_ne_true, if_neg (fun e => h2 e.1)]
theorem rgrant_l (hm : m.length ≤ 1000) (ht0 : -9223372036854775808 ≤ t) (ht1 : t ≤ 9223372036854775807) : ∀ (n k i : Nat) (acc : List S61), m.length - i ≤ n → 200020 + n < k → i ≤ m.length → acc.length + (m.length - i) ≤ 98000 →
    ddiref36_Grant.l0 k acc (i : Int) a0 a1 a2 a3 a4 a5 a6 b0 b1 b2 a10 a11 a12 a13 l c0 c1 c2 c3 c4 m5 m6 m t = some (a0, a1, a2, a3, a4, a5, a6, b0, b1, b2, a10, a11, a12, a13, g3 (g1 (gf acc (m.drop i)) c3) t) := by
  intro n
  induction n with
  | zero =>
    intro k i acc hn hk hi ha
    obtain ⟨k, rfl⟩ : ∃ q, k = q + 3 := ⟨k - 3, by omega⟩
    rw [List.drop_eq_nil_of_le (by omega), gf]
    exact rgrant_end a0 a1 a2 a3 a4 a5 a6 b0 b1 b2 a10 a11 a12 a13 l c0 c1 c2 c3 c4 m5 m6 m t acc (by omega) k (by omega) ht0 ht1 (i : Int) (by omega)
  | succ n ih =>
    intro k i acc hn hk hi ha
    by_cases hlt : i < m.length
    · obtain ⟨k, rfl⟩ : ∃ q, k = q + 1 := ⟨k - 1, by omega⟩
      rw [ddiref36_Grant.l0, if_pos (by omega), if_pos (by omega), rd_at hlt, rfind_f acc _ (by omega) k (by omega), Option.bind_some, drop_at hlt, gf, wsucc (by omega)]
      by_cases h : (fndA (ab acc) m[i].f0).2 = true
      · rw [if_pos h, if_pos h]
        exact ih k (i + 1) acc (by omega) (by omega) (by omega) (by omega)
      · have hp := putS_length acc m[i].f0 m[i].f1
        rw [if_neg h, if_neg h, rput_f acc _ _ (by omega) k (by omega), Option.bind_some]
        exact ih k (i + 1) _ (by omega) (by omega) (by omega) (by omega)
    · obtain ⟨k, rfl⟩ : ∃ q, k = q + 3 := ⟨k - 3, by omega⟩
      rw [List.drop_eq_nil_of_le (by omega), gf]
      exact rgrant_end a0 a1 a2 a3 a4 a5 a6 b0 b1 b2 a10 a11 a12 a13 l c0 c1 c2 c3 c4 m5 m6 m t acc (by omega) k (by omega) ht0 ht1 (i : Int) (by omega)
end
theorem rgrant_f (a0 a1 a2 : Int) (a3 : ByteArray) (a4 : Bool) (a5 a6 : Int) (a7 : Bool) (a8 a9 : Int) (a10 : Bool) (a11 a12 : Int) (a13 : Bool) (l : List S61) (b0 : Bool) (b1 b2 : Int) (c0 : Bool) (c1 c2 c3 : Int) (c4 : ByteArray) (m5 : List S139) (m6 : List S141) (m : List S61) (t : Int)
    (hl : l.length ≤ 1000) (hm : m.length ≤ 1000) (ht0 : -9223372036854775808 ≤ t) (ht1 : t ≤ 9223372036854775807) (k : Nat) (hk : 202000 < k) :
    ddiref36_Grant.f k a0 a1 a2 a3 a4 a5 a6 a7 a8 a9 a10 a11 a12 a13 l b0 b1 b2 c0 c1 c2 c3 c4 m5 m6 m t = some (a0, a1, a2, a3, a4, a5, a6, b0, b1, b2, a10, a11, a12, a13, grantO l m c3 t) := by
  unfold ddiref36_Grant.f grantO
  have := rgrant_l a0 a1 a2 a3 a4 a5 a6 b0 b1 b2 a10 a11 a12 a13 l c0 c1 c2 c3 c4 m5 m6 m t hm ht0 ht1 m.length k 0 l (by omega) (by omega) (by omega) (by omega)
  simpa using this
end Go.Proofs.YtcoekgnbncocnaaDoor.PK


namespace Go.Proofs.YtcoekgnbncocnaaDoor.PK
open Go Go.RowKit Go.Proofs.YtcoekgnbncocnaaDoorW.PrintWords Go.Proofs.YtcoekgnbncocnaaDoorW.PrintLast Go.Proofs.YtcoekgnbncocnaaDoorW.PrintMore Go.Proofs.YtcoekgnbncocnaaDoor.DN Go.Proofs.YtcoekgnbncocnaaDoor.OPT Go.Proofs.YtcoekgnbncocnaaDoor.ADR Go.Proofs.YtcoekgnbncocnaaDoor.Pa
set_option linter.unusedVariables false
set_option linter.unusedSimpArgs false

def cutO (x : S61) : S61 := ⟨x.f0, x.f1.extract 0 (min x.f1.size 1100)⟩
def shl (l : List S61) : List S61 := (l.take 40).map cutO
theorem mn_nat (a b : Nat) : mn (a : Int) (b : Int) = ((min a b : Nat) : Int) := by unfold mn; split <;> omega
theorem mn_1100 (a : Nat) : mn (a : Int) 1100 = ((min a 1100 : Nat) : Int) := mn_nat a 1100
theorem mn_100 (a : Nat) : mn (a : Int) 100 = ((min a 100 : Nat) : Int) := mn_nat a 100
theorem opts_l (l : List S61) (hl : l.length ≤ 5864062014805) : ∀ (n k i : Nat), 40 - i ≤ n → n < k → i ≤ 40 → i ≤ l.length →
    ddiref36_options.l0 k l ((l.take i).map cutO) (i : Int) = some (shl l) := by
  intro n
  induction n with
  | zero =>
    intro k i hn hk hi hil
    obtain ⟨k, rfl⟩ : ∃ q, k = q + 1 := ⟨k - 1, by omega⟩
    obtain rfl : i = 40 := by omega
    rw [ddiref36_options.l0]
    by_cases h : 40 < l.length
    · rw [if_pos (by omega), if_neg (by omega)]; rfl
    · rw [if_neg (by omega)]; rfl
  | succ n ih =>
    intro k i hn hk hi hil
    obtain ⟨k, rfl⟩ : ∃ q, k = q + 1 := ⟨k - 1, by omega⟩
    rw [ddiref36_options.l0]
    by_cases h1 : i < l.length
    · rw [if_pos (by omega)]
      by_cases h2 : i < 40
      · have h3 : ((l.take i).map cutO).length ≤ 40 := by rw [List.length_map, List.length_take]; omega
        rw [if_pos (by omega), if_pos (by omega), rd_at h1, mn_1100, if_pos (by omega), if_pos (by omega), if_pos (by omega), Int.toNat_natCast, wsucc (by omega)]
        have h4 : (l.take (i + 1)).map cutO = (l.take i).map cutO ++ [(⟨l[i].f0, l[i].f1.extract 0 (min l[i].f1.size 1100)⟩ : S61)] := by
          rw [List.take_succ_eq_append_getElem h1, List.map_append]; rfl
        rw [← h4]
        exact ih k (i + 1) (by omega) (by omega) (by omega) (by omega)
      · rw [if_neg (by omega)]
        obtain rfl : i = 40 := by omega
        rfl
    · rw [if_neg (by omega)]
      obtain rfl : i = l.length := by omega
      unfold shl
      rw [List.take_length, List.take_of_length_le hi]
theorem opts_f (l : List S61) (hl : l.length ≤ 5864062014805) (k : Nat) (hk : 100 < k) : ddiref36_options.f k l = some (shl l) := by
  have := opts_l l hl 40 k 0 (by omega) (by omega) (by omega) (by omega)
  simpa [ddiref36_options.f] using this
theorem short_f (a0 a1 a2 : Int) (a3 : ByteArray) (a4 : Bool) (a5 a6 : Int) (a7 : Bool) (a8 a9 : Int) (a10 : Bool) (a11 a12 : Int) (a13 : Bool) (l : List S61) (hl : l.length ≤ 5864062014805) (k : Nat) (hk : 100 < k) :
    ddiref36_Short.f k a0 a1 a2 a3 a4 a5 a6 a7 a8 a9 a10 a11 a12 a13 l = some (a0, a1, a2, a3.extract 0 (min a3.size 100), a4, a5, a6, a7, a8, a9, a10, a11, a12, a13, shl l) := by
  unfold ddiref36_Short.f
  rw [mn_100, if_pos (by omega), if_pos (by omega), opts_f l hl k hk, Option.bind_some, Int.toNat_natCast]
theorem shl_length (l : List S61) : (shl l).length ≤ 40 := by unfold shl; rw [List.length_map, List.length_take]; omega
theorem eqA (b : Bool) (h l : Int) : (!(b == b) || (!(h == h) || (!(l == l)))) = false := by simp
theorem same_l (a0 a1 a2 : Int) (a3 : ByteArray) (a4 : Bool) (a5 a6 : Int) (a7 : Bool) (a8 a9 : Int) (a10 : Bool) (a11 a12 : Int) (a13 : Bool) (b0 b1 b2 : Int) (b3 : ByteArray) (b4 : Bool) (b5 b6 : Int) (b7 : Bool) (b8 b9 : Int) (b10 : Bool) (b11 b12 : Int) (b13 : Bool) (l : List S61) (hl : l.length ≤ 5864062014805) : ∀ (n k i : Nat), l.length - i ≤ n → n < k → i ≤ l.length →
    ddiref36_Same.l0 k (i : Int) a0 a1 a2 a3 a4 a5 a6 a7 a8 a9 a10 a11 a12 a13 l b0 b1 b2 b3 b4 b5 b6 b7 b8 b9 b10 b11 b12 b13 l = some true := by
  intro n
  induction n with
  | zero =>
    intro k i hn hk hi
    obtain ⟨k, rfl⟩ : ∃ q, k = q + 1 := ⟨k - 1, by omega⟩
    rw [ddiref36_Same.l0, if_neg (by omega)]
  | succ n ih =>
    intro k i hn hk hi
    obtain ⟨k, rfl⟩ : ∃ q, k = q + 1 := ⟨k - 1, by omega⟩
    rw [ddiref36_Same.l0]
    by_cases h1 : i < l.length
    · have := ih k (i + 1) (by omega) (by omega) (by omega)
      rw [← wsucc (by omega)] at this
      simp only [if_pos (show (i : Int) < (l.length : Int) by omega), if_pos (show (0 : Int) ≤ (i : Int) by omega)]
      simpa using this
    · rw [if_neg (by omega)]
theorem same_f (a0 a1 a2 : Int) (a3 : ByteArray) (a4 : Bool) (a5 a6 : Int) (a7 : Bool) (a8 a9 : Int) (a10 : Bool) (a11 a12 : Int) (a13 : Bool) (l : List S61) (hl : l.length ≤ 5864062014805) (k : Nat) (hk : l.length < k) :
    ddiref36_Same.f k a0 a1 a2 a3 a4 a5 a6 a7 a8 a9 a10 a11 a12 a13 l a0 a1 a2 a3 a4 a5 a6 a7 a8 a9 a10 a11 a12 a13 l = some true := by
  unfold ddiref36_Same.f
  rw [if_pos rfl, if_pos rfl, if_pos rfl, if_pos rfl, eqA, eqA, eqA, if_neg Bool.false_ne_true, if_neg Bool.false_ne_true, if_neg Bool.false_ne_true, show (a13 != a13) = false by simp, if_neg Bool.false_ne_true, if_pos rfl]
  exact same_l a0 a1 a2 a3 a4 a5 a6 a7 a8 a9 a10 a11 a12 a13 a0 a1 a2 a3 a4 a5 a6 a7 a8 a9 a10 a11 a12 a13 l hl l.length k 0 (by omega) hk (by omega)
end Go.Proofs.YtcoekgnbncocnaaDoor.PK


namespace Go.Proofs.YtcoekgnbncocnaaDoor.PK
open Go Go.RowKit Go.Proofs.YtcoekgnbncocnaaDoorW.PrintWords Go.Proofs.YtcoekgnbncocnaaDoorW.PrintLast Go.Proofs.YtcoekgnbncocnaaDoorW.PrintMore Go.Proofs.YtcoekgnbncocnaaDoor.DN Go.Proofs.YtcoekgnbncocnaaDoor.OPT Go.Proofs.YtcoekgnbncocnaaDoor.ADR Go.Proofs.YtcoekgnbncocnaaDoor.Pa
set_option linter.unusedVariables false
set_option linter.unusedSimpArgs false
theorem awake36_f (k : Nat) (hk : 100 ≤ k) : ddilaw36_awake.f k = some true := by
  refine up (fun k => ddilaw36_awake.mono k) hk ?_
  kernel_rfl
theorem wf_i64 {n : Int} (h : (Lit.int .i64 n).wf = true) : -9223372036854775808 ≤ n ∧ n ≤ 9223372036854775807 := by
  have e1 : IntKind.i64.min = -9223372036854775808 := rfl
  have e2 : IntKind.i64.max = 9223372036854775807 := rfl
  simp [Lit.wf, e1, e2] at h
  exact h
end Go.Proofs.YtcoekgnbncocnaaDoor.PK


namespace Go.Proofs.YtcoekgnbncocnaaDoor.Pa
open Go Go.RowKit Go.Proofs.YtcoekgnbncocnaaDoorW.PrintWords
def Wf24 (x : S24) : Prop := (True) ∧ ((Lit.int .u64 x.f1).wf = true) ∧ ((Lit.int .u64 x.f2).wf = true)
def Wf141 (x : S141) : Prop := (x.f0.size ≤ 140737488351232) ∧ (Wf24 x.f1) ∧ (x.f2.size ≤ 140737488351232)
def Wf139 (x : S139) : Prop := (Wf24 x.f0) ∧ (Wf24 x.f1)
end Go.Proofs.YtcoekgnbncocnaaDoor.Pa
namespace Go.Proofs.YtcoekgnbncocnaaDoor.Pure
open Go Go.RowKit Go.Proofs.YtcoekgnbncocnaaDoorW.PrintWords Go.Proofs.YtcoekgnbncocnaaDoorW.PrintLast Go.Proofs.YtcoekgnbncocnaaDoorW.PrintMore Go.Proofs.YtcoekgnbncocnaaDoor.DN Go.Proofs.YtcoekgnbncocnaaDoor.OPT Go.Proofs.YtcoekgnbncocnaaDoor.ADR Go.Proofs.YtcoekgnbncocnaaDoor.PK Go.Proofs.YtcoekgnbncocnaaDoor.Pa
set_option linter.unusedVariables false
set_option linter.unusedSimpArgs false
theorem grantO_length (l m : List S61) (b t : Int) : (grantO l m b t).length ≤ l.length + m.length + 4 := by
  unfold grantO g3
  have h1 := g2_length (g2 (g2 (g1 (gf l m) b) 51 t) 58 (t / 2)) 59 (t * 7 / 8)
  have h2 := g2_length (g2 (g1 (gf l m) b) 51 t) 58 (t / 2)
  have h3 := g2_length (g1 (gf l m) b) 51 t
  have h4 := g1_length (gf l m) b
  have h5 := gf_length m l
  omega
theorem DhcpGrants : ∀ (a0_0 : Int) (a0_1 : Int) (a0_2 : Int) (a0_3 : ByteArray) (a0_4 : Bool) (a0_5 : Int) (a0_6 : Int) (a0_7 : Bool) (a0_8 : Int) (a0_9 : Int) (a0_10 : Bool) (a0_11 : Int) (a0_12 : Int) (a0_13 : Bool) (l0_14 : List S61) (a1_0 : Bool) (a1_1 : Int) (a1_2 : Int) (a2_0 : Bool) (a2_1 : Int) (a2_2 : Int) (a2_3 : Int) (a2_4 : ByteArray) (l2_5 : List S139) (l2_6 : List S141) (l2_7 : List S61) (a2_8 : Int), (Lit.int .i64 a0_0).wf = true → (Lit.int .i64 a0_1).wf = true → (Lit.int .i64 a0_2).wf = true → a0_3.size ≤ 140737488351232 → (Lit.int .u64 a0_5).wf = true → (Lit.int .u64 a0_6).wf = true → (Lit.int .u64 a0_8).wf = true → (Lit.int .u64 a0_9).wf = true → (Lit.int .u64 a0_11).wf = true → (Lit.int .u64 a0_12).wf = true → l0_14.length * 24 ≤ 140737488351232 → (∀ y ∈ l0_14, Wf61 y) → (Lit.int .u64 a1_1).wf = true → (Lit.int .u64 a1_2).wf = true → (Lit.int .u64 a2_1).wf = true → (Lit.int .u64 a2_2).wf = true → (Lit.int .i64 a2_3).wf = true → a2_4.size ≤ 140737488351232 → l2_5.length * 48 ≤ 140737488351232 → (∀ y ∈ l2_5, Wf139 y) → l2_6.length * 56 ≤ 140737488351232 → (∀ y ∈ l2_6, Wf141 y) → l2_7.length * 24 ≤ 140737488351232 → (∀ y ∈ l2_7, Wf61 y) → (Lit.int .i64 a2_8).wf = true → ∃ k, ddilaw36_DhcpGrants.f k a0_0 a0_1 a0_2 a0_3 a0_4 a0_5 a0_6 a0_7 a0_8 a0_9 a0_10 a0_11 a0_12 a0_13 l0_14 a1_0 a1_1 a1_2 a2_0 a2_1 a2_2 a2_3 a2_4 l2_5 l2_6 l2_7 a2_8 = some true := by
  intro a0_0 a0_1 a0_2 a0_3 a0_4 a0_5 a0_6 a0_7 a0_8 a0_9 a0_10 a0_11 a0_12 a0_13 l0_14 a1_0 a1_1 a1_2 a2_0 a2_1 a2_2 a2_3 a2_4 l2_5 l2_6 l2_7 a2_8 w0 w1 w2 w3 w5 w6 w8 w9 w11 w12 hl hwf v1 v2 u1 u2 u3 u4 hr hrw hq hqw hm hmw ht
  have ht := wf_i64 ht
  have hs := short_f a0_0 a0_1 a0_2 a0_3 a0_4 a0_5 a0_6 a0_7 a0_8 a0_9 a0_10 a0_11 a0_12 a0_13 l0_14 (by omega) 300000 (by omega)
  have hs2 := short_f 0 0 0 (⟨#[]⟩ : ByteArray) false 0 0 false 0 0 false 0 0 false l2_7 (by omega) 300000 (by omega)
  have hl1 := shl_length l0_14
  have hm1 := shl_length l2_7
  generalize shl l0_14 = l at hs hl1
  generalize shl l2_7 = m at hs2 hm1
  refine ⟨300000, ?_⟩
  unfold ddilaw36_DhcpGrants.f
  rw [hs, Option.bind_some, hs2, Option.bind_some]
  dsimp only
  rw [grant_f _ _ _ _ _ _ _ _ _ _ _ _ _ _ l a1_0 a1_1 a1_2 a2_0 a2_1 a2_2 a2_3 a2_4 l2_5 l2_6 m a2_8 (by omega) (by omega) ht.1 ht.2 300000 (by omega), Option.bind_some,
    rgrant_f _ _ _ _ _ _ _ _ _ _ _ _ _ _ l a1_0 a1_1 a1_2 a2_0 a2_1 a2_2 a2_3 a2_4 l2_5 l2_6 m a2_8 (by omega) (by omega) ht.1 ht.2 300000 (by omega), Option.bind_some]
  have hg := grantO_length l m a2_3 a2_8
  dsimp only
  rw [same_f _ _ _ _ _ _ _ _ _ _ _ _ _ _ (grantO l m a2_3 a2_8) (by omega) 300000 (by omega), Option.bind_some, if_pos rfl, awake36_f 300000 (by omega)]
  rfl
end Go.Proofs.YtcoekgnbncocnaaDoor.Pure

