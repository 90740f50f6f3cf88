/- option.Put, and the reference's Find and Put: over the plain theory of options. -/
import Derived.Test.YtkojlapefmcjnaaDoorRef
import Derived.Test.YtkojlapefmcjnaaDoorPax24
import Derived.Test.YtkojlapefmcjnaaDoorPax25
namespace Go.Proofs.YtkojlapefmcjnaaDoor.OPT
open Go Go.RowKit Go.Proofs.YtkojlapefmcjnaaDoorW.PrintWords Go.Proofs.YtkojlapefmcjnaaDoor.DN Go.Proofs.YtkojlapefmcjnaaDoor.Pa
set_option linter.unusedVariables false
set_option linter.unusedSimpArgs false

def ptS : List S34 → Int → ByteArray → List S34
  | [], c, v => [⟨c, v⟩]
  | x :: l, c, v => if x.f0 = c then ⟨x.f0, v⟩ :: l else x :: ptS l c v
def putS (l : List S34) (c : Int) (v : ByteArray) : List S34 := if 1 ≤ c ∧ c ≤ 254 then ptS l c v else l
theorem ab_ptS (l : List S34) (c : Int) (v : ByteArray) : ab (ptS l c v) = pt (ab l) c (L v) := by
  induction l with
  | nil => rfl
  | cons x l ih =>
    rw [ptS, ab_cons, pt]
    by_cases h : x.f0 = c
    · rw [if_pos h, if_pos (show (o1 x).1 = c from h), ab_cons]
      simp only [o1, h]
    · rw [if_neg h, if_neg (show ¬ (o1 x).1 = c from h), ab_cons, ih]
theorem ptS_split {a : List S34} {x : S34} {b : List S34} {c : Int} (v : ByteArray) (h1 : ∀ y ∈ a, y.f0 ≠ c) (h2 : x.f0 = c) : ptS (a ++ x :: b) c v = a ++ ⟨x.f0, v⟩ :: b := by
  induction a with
  | nil => rw [List.nil_append, ptS, if_pos h2]; rfl
  | cons y a ih => rw [List.cons_append, ptS, if_neg (h1 y (by simp)), ih (fun z hz => h1 z (by simp [hz]))]; rfl
theorem ptS_new {l : List S34} {c : Int} (v : ByteArray) (h1 : ∀ y ∈ l, y.f0 ≠ c) : ptS l c v = l ++ [⟨c, v⟩] := by
  induction l with
  | nil => rfl
  | cons y a ih => rw [ptS, if_neg (h1 y (by simp)), ih (fun z hz => h1 z (by simp [hz]))]; rfl
theorem ptS_length (l : List S34) (c : Int) (v : ByteArray) : (ptS l c v).length ≤ l.length + 1 := by
  induction l with
  | nil => simp [ptS]
  | cons x l ih => rw [ptS]; split <;> simp <;> omega
theorem fnd_split {a : List S34} {x : S34} {b : List S34} {c : Int} (h1 : ∀ y ∈ a, y.f0 ≠ c) (h2 : x.f0 = c) : fndA (ab (a ++ x :: b)) c = (x.f1, true) := by
  have : fnd (ab (a ++ x :: b)) c = some (L x.f1) := by
    induction a with
    | nil => rw [List.nil_append, ab_cons, fnd, if_pos (show (o1 x).1 = c from h2)]; rfl
    | cons y a ih => rw [List.cons_append, ab_cons, fnd, if_neg (show ¬ (o1 y).1 = c from h1 y (by simp)), ih (fun z hz => h1 z (by simp [hz]))]
  unfold fndA; rw [this]; simp
theorem fnd_new {l : List S34} {c : Int} (h1 : ∀ y ∈ l, y.f0 ≠ c) : fndA (ab l) c = (⟨#[]⟩, false) := by
  have : fnd (ab l) c = none := by
    induction l with
    | nil => rfl
    | cons y a ih => rw [ab_cons, fnd, if_neg (show ¬ (o1 y).1 = c from h1 y (by simp)), ih (fun z hz => h1 z (by simp [hz]))]
  unfold fndA; rw [this]

theorem put_l (l : List S34) (c : Int) (v : ByteArray) (hl : l.length ≤ 5864062014800) : ∀ (n k i : Nat), l.length - i ≤ n → n < k → i ≤ l.length →
    option_Put.l0 k c v l (l.length : Int) (i : Int) = some (l.take i ++ ptS (l.drop i) c v) := by
  intro n
  induction n with
  | zero =>
    intro k i hn hk hi
    obtain ⟨k, rfl⟩ : ∃ q, k = q + 1 := ⟨k - 1, by omega⟩
    obtain rfl : i = l.length := by omega
    rw [option_Put.l0, if_neg (by omega), if_pos (by omega), List.drop_length, List.take_length]; rfl
  | succ n ih =>
    intro k i hn hk hi
    obtain ⟨k, rfl⟩ : ∃ q, k = q + 1 := ⟨k - 1, by omega⟩
    by_cases hlt : i < l.length
    · rw [option_Put.l0, if_pos (by omega), if_pos (by omega), if_pos (by omega), rd_at hlt, drop_at hlt, ptS]
      by_cases h : l[i].f0 = c
      · rw [if_pos h, if_pos h, Int.toNat_natCast, List.set_eq_take_append_cons_drop, if_pos hlt]
      · rw [if_neg h, if_neg h, wsucc (by omega), ih k (i + 1) (by omega) (by omega) (by omega), List.take_succ_eq_append_getElem hlt, List.append_assoc]; rfl
    · obtain rfl : i = l.length := by omega
      rw [option_Put.l0, if_neg (by omega), if_pos (by omega), List.drop_length, List.take_length]; rfl
theorem put_f (l : List S34) (c : Int) (v : ByteArray) (hl : l.length ≤ 5864062014800) (k : Nat) (hk : l.length < k) : option_Put.f k l c v = some (putS l c v) := by
  unfold option_Put.f
  rw [if_pos (by simp; omega), Option.bind_some, isCode_f, Option.bind_some, List.nil_append]
  unfold putS
  by_cases hc : 1 ≤ c ∧ c ≤ 254
  · rw [if_pos (decide_eq_true hc), if_pos hc]
    have := put_l l c v hl l.length k 0 (by omega) hk (by omega)
    simpa using this
  · rw [if_neg (by rw [decide_eq_false hc]; decide), if_neg hc]
theorem rfind_f (l : List S34) (c : Int) (hl : l.length ≤ 5864062014800) (k : Nat) (hk : l.length < k) : ddiref35_Find.f k l c = some (fndA (ab l) c) := by
  unfold ddiref35_Find.f
  rw [index_f l c (by omega) k hk, Option.bind_some]
  rcases idx_cases l c 0 with ⟨h1, h2⟩ | ⟨a, x, b, h1, h2, h3, h4⟩
  · rw [h2, if_pos (by decide), fnd_new h1]
  · rw [h4, if_neg (by omega), if_pos (by omega), Nat.zero_add]
    subst h1
    rw [if_pos (by simp; omega), rd_split, fnd_split h3 h2]
theorem rput_j (l : List S34) (c : Int) (v : ByteArray) (hl : l.length ≤ 5864062014800) (k : Nat) (hk : l.length + 1 < k) (hc : 1 ≤ c ∧ c ≤ 254) : ddiref35_Put.j1 k c v l false = some (ptS l c v) := by
  obtain ⟨k, rfl⟩ : ∃ q, k = q + 1 := ⟨k - 1, by omega⟩
  rw [ddiref35_Put.j1, if_neg (by decide), index_f l c (by omega) k (by omega), Option.bind_some]
  rcases idx_cases l c 0 with ⟨h1, h2⟩ | ⟨a, x, b, h1, h2, h3, h4⟩
  · rw [h2, if_neg (by decide), if_pos (by omega), ptS_new v h1]
  · rw [h4, if_pos (by omega), if_pos (by omega), Nat.zero_add]
    subst h1
    rw [if_pos (by simp; omega), rd_split, Int.toNat_natCast, set_split, ptS_split v h3 h2]
theorem rput_l (l : List S34) (c : Int) (v : ByteArray) (hl : l.length ≤ 5864062014800) : ∀ (n k i : Nat), l.length - i ≤ n → n + l.length + 3 < k → i ≤ l.length →
    ddiref35_Put.l0 k l c v (l.take i) (i : Int) = some (putS l c v) := by
  intro n
  have hend : ∀ k, l.length + 2 < k → (if c < 1 then ddiref35_Put.j1 k c v l true else ddiref35_Put.j1 k c v l (decide (c > 254))) = some (putS l c v) := by
    intro k hk
    obtain ⟨k, rfl⟩ : ∃ q, k = q + 1 := ⟨k - 1, by omega⟩
    unfold putS
    by_cases h1 : c < 1
    · rw [if_pos h1, if_neg (by omega), ddiref35_Put.j1, if_pos rfl]
    · rw [if_neg h1]
      by_cases h2 : c > 254
      · rw [decide_eq_true h2, if_neg (by omega), ddiref35_Put.j1, if_pos rfl]
      · rw [decide_eq_false h2, if_pos (by omega)]
        exact rput_j l c v hl _ (by omega) (by omega)
  induction n with
  | zero =>
    intro k i hn hk hi
    obtain ⟨k, rfl⟩ : ∃ q, k = q + 1 := ⟨k - 1, by omega⟩
    obtain rfl : i = l.length := by omega
    rw [ddiref35_Put.l0, if_neg (by omega), List.take_length]
    exact hend k (by omega)
  | succ n ih =>
    intro k i hn hk hi
    obtain ⟨k, rfl⟩ : ∃ q, k = q + 1 := ⟨k - 1, by omega⟩
    by_cases hlt : i < l.length
    · rw [ddiref35_Put.l0, if_pos (by omega), if_pos (by omega), if_pos (by rw [List.length_take]; omega), rd_at hlt, wsucc (by omega)]
      have := ih k (i + 1) (by omega) (by omega) (by omega)
      rw [List.take_succ_eq_append_getElem hlt] at this
      exact this
    · obtain rfl : i = l.length := by omega
      rw [ddiref35_Put.l0, if_neg (by omega), List.take_length]
      exact hend k (by omega)
theorem rput_f (l : List S34) (c : Int) (v : ByteArray) (hl : l.length ≤ 5864062014800) (k : Nat) (hk : 2 * l.length + 3 < k) : ddiref35_Put.f k l c v = some (putS l c v) := by
  have := rput_l l c v hl l.length k 0 (by omega) (by omega) (by omega)
  simpa [ddiref35_Put.f] using this
end Go.Proofs.YtkojlapefmcjnaaDoor.OPT
