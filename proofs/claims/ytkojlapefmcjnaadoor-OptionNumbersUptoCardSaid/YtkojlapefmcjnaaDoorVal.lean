/- What option.Find, size, isCode, Valid and the reference's index and Valid answer: over the plain theory of options. -/
import Derived.Test.YtkojlapefmcjnaaDoorBytes
import Derived.Test.YtkojlapefmcjnaaDoorOpt
import Derived.Test.YtkojlapefmcjnaaDoorPax3
import Derived.Test.YtkojlapefmcjnaaDoorPax4
namespace Go.Proofs.YtkojlapefmcjnaaDoor.OPT
open Go Go.RowKit Go.Proofs.YtkojlapefmcjnaaDoorW.PrintWords Go.Proofs.YtkojlapefmcjnaaDoor.DN Go.Proofs.YtkojlapefmcjnaaDoor.Pa
set_option linter.unusedVariables false
set_option linter.unusedSimpArgs false

def o1 (x : S34) : O := (x.f0, L x.f1)
def ab (l : List S34) : List O := l.map o1
theorem ab_nil : ab [] = [] := rfl
theorem ab_cons (x : S34) (l : List S34) : ab (x :: l) = o1 x :: ab l := rfl
theorem ab_append (l m : List S34) : ab (l ++ m) = ab l ++ ab m := List.map_append
theorem ab_length (l : List S34) : (ab l).length = l.length := List.length_map ..
theorem ab_take (l : List S34) (i : Nat) : ab (l.take i) = (ab l).take i := List.map_take ..
theorem ab_drop (l : List S34) (i : Nat) : ab (l.drop i) = (ab l).drop i := List.map_drop ..
theorem o1_inj {x y : S34} (h : o1 x = o1 y) : x = y := by
  obtain ⟨a, b⟩ := x
  obtain ⟨c, d⟩ := y
  have h1 := (Prod.mk.inj h).1
  have h2 := L_inj (Prod.mk.inj h).2
  simp only at h1 h2
  rw [h1, h2]
theorem ab_inj : ∀ {l m : List S34}, ab l = ab m → l = m
  | [], [], _ => rfl
  | [], _ :: _, h => by cases h
  | _ :: _, [], h => by cases h
  | x :: l, y :: m, h => by rw [o1_inj (List.cons.inj h).1, ab_inj (List.cons.inj h).2]

/-- sizes that any argument keeps -/
def Sm (l : List S34) : Prop := l.length ≤ 5864062014634 ∧ ∀ x ∈ l, x.f1.size ≤ 140737488351232
theorem rd_at {l : List S34} {i : Nat} (h : i < l.length) : rd_T34 l (i : Int) = l[i] := by unfold rd_T34; simp [h]
theorem wsucc {i : Nat} (h : i < 9223372036854775806) : wrap64 ((i : Int) + 1) = ((i + 1 : Nat) : Int) := by rw [wrap_id (by omega) (by omega)]; rfl
theorem drop_at {α : Type} {l : List α} {i : Nat} (h : i < l.length) : l.drop i = l[i] :: l.drop (i + 1) := by rw [List.drop_eq_getElem_cons h]

def fndA (m : List O) (c : Int) : ByteArray × Bool := match fnd m c with
  | some v => (B v, true)
  | none => (⟨#[]⟩, false)
theorem find_l (l : List S34) (c : Int) (hl : l.length ≤ 5864062014800) : ∀ (n k i : Nat), l.length - i ≤ n → n < k → i ≤ l.length → option_Find.l0 k c l (l.length : Int) (i : Int) = some (fndA (ab (l.drop i)) c) := by
  intro n
  induction n with
  | zero =>
    intro k i hn hk hi
    obtain ⟨k, rfl⟩ : ∃ q, k = q + 1 := ⟨k - 1, by omega⟩
    obtain rfl : i = l.length := by omega
    rw [option_Find.l0, if_neg (by omega), List.drop_length]; rfl
  | succ n ih =>
    intro k i hn hk hi
    obtain ⟨k, rfl⟩ : ∃ q, k = q + 1 := ⟨k - 1, by omega⟩
    by_cases hlt : i < l.length
    · rw [option_Find.l0, if_pos (by omega), if_pos (by omega), if_pos (by omega), rd_at hlt, drop_at hlt, ab_cons]
      by_cases hc : l[i].f0 = c
      · rw [if_pos hc]; simp [fndA, fnd, o1, hc]
      · rw [if_neg hc, wsucc (by omega), ih k (i + 1) (by omega) (by omega) (by omega)]
        have : fnd (o1 l[i] :: ab (l.drop (i + 1))) c = fnd (ab (l.drop (i + 1))) c := by rw [fnd, if_neg (show ¬ (o1 l[i]).1 = c from hc)]
        unfold fndA; rw [this]
    · obtain rfl : i = l.length := by omega
      rw [option_Find.l0, if_neg (by omega), List.drop_length]; rfl
theorem find_f (l : List S34) (c : Int) (hl : l.length ≤ 5864062014800) (k : Nat) (hk : l.length < k) : option_Find.f k l c = some (fndA (ab l) c) := by
  have := find_l l c hl l.length k 0 (by omega) hk (by omega)
  simpa [option_Find.f] using this
theorem fndA_some (m : List O) (c : Int) : (fndA m c).2 = (fnd m c).isSome := by unfold fndA; cases fnd m c <;> rfl
theorem fnd_some_iff (m : List O) (c : Int) : (fnd m c).isSome = true ↔ c ∈ m.map (·.1) := by
  induction m with
  | nil => simp [fnd]
  | cons o m ih =>
    rw [fnd]
    by_cases h : o.1 = c
    · simp [h]
    · have h' : ¬ c = o.1 := fun e => h e.symm
      rw [if_neg h, ih]; simp only [List.map_cons, List.mem_cons, h', false_or]
theorem sz_le {M : Nat} : ∀ {l : List S34}, (∀ x ∈ l, x.f1.size ≤ M) → sz (ab l) ≤ l.length * M
  | [], _ => by simp [ab, sz]
  | x :: l, h => by
    have h1 := h x (by simp)
    have h2 := sz_le (l := l) (fun y hy => h y (by simp [hy]))
    rw [ab_cons, sz]
    have : (o1 x).2.length = x.f1.size := L_len _
    rw [this, List.length_cons, Nat.add_mul]; omega
theorem sz_drop_le (l : List O) (i : Nat) : sz (l.drop i) ≤ sz l := by
  have := sz_append (l.take i) (l.drop i)
  rw [List.take_append_drop] at this; omega
theorem size_l (l : List S34) (hl : l.length ≤ 5864062014800) : ∀ (n k i a : Nat), l.length - i ≤ n → n < k → i ≤ l.length → a + sz (ab (l.drop i)) ≤ 9223372036854775807 →
    option_size.l0 k (a : Int) l (l.length : Int) (i : Int) = some ((a + sz (ab (l.drop i)) : Nat) : Int) := by
  intro n
  induction n with
  | zero =>
    intro k i a hn hk hi _
    obtain ⟨k, rfl⟩ : ∃ q, k = q + 1 := ⟨k - 1, by omega⟩
    obtain rfl : i = l.length := by omega
    rw [option_size.l0, if_neg (by omega), List.drop_length]; rfl
  | succ n ih =>
    intro k i a hn hk hi hs
    obtain ⟨k, rfl⟩ : ∃ q, k = q + 1 := ⟨k - 1, by omega⟩
    by_cases hlt : i < l.length
    · rw [drop_at hlt, ab_cons, sz] at hs
      have hz : (o1 l[i]).2.length = l[i].f1.size := L_len _
      rw [hz] at hs
      rw [option_size.l0, if_pos (by omega), if_pos (by omega), if_pos (by omega), rd_at hlt, drop_at hlt, ab_cons, sz, hz]
      rw [show wrap64 ((a : Int) + (l[i].f1.size : Int)) = ((a + l[i].f1.size : Nat) : Int) by rw [wrap_id (by omega) (by omega)]; rfl, wsucc (by omega)]
      rw [ih k (i + 1) _ (by omega) (by omega) (by omega) (by omega)]
      congr 2; omega
    · obtain rfl : i = l.length := by omega
      rw [option_size.l0, if_neg (by omega), List.drop_length]; rfl
theorem size_f (l : List S34) (hl : l.length ≤ 32) (h : ∀ x ∈ l, x.f1.size ≤ 140737488351232) (k : Nat) (hk : l.length < k) : option_size.f k l = some ((sz (ab l) : Nat) : Int) := by
  have h2 := sz_le h
  have := size_l l (by omega) l.length k 0 0 (by omega) hk (by omega) (by rw [List.drop_zero]; omega)
  rw [List.drop_zero, Nat.zero_add] at this
  exact this
theorem isCode_f (c : Int) : option_isCode.f c = some (decide (1 ≤ c ∧ c ≤ 254)) := by
  unfold option_isCode.f
  by_cases h : c ≥ 1
  · rw [if_pos h]; congr 1; simp; omega
  · rw [if_neg h]; congr 1; simp; omega

/-- what the loops of Valid look at -/
def chk : List O → List O → Bool
  | _, [] => true
  | pre, o :: r => !(decide (o.1 ∈ pre.map (·.1))) && (decide (1 ≤ o.1 ∧ o.1 ≤ 254) && (decide (o.2.length ≤ 1024) && chk (pre ++ [o]) r))
theorem chk_iff : ∀ (l pre : List O), chk pre l = true ↔ ((∀ o ∈ l, 1 ≤ o.1 ∧ o.1 ≤ 254) ∧ (∀ o ∈ l, o.2.length ≤ 1024) ∧ (l.map (·.1)).Nodup ∧ ∀ o ∈ l, o.1 ∉ pre.map (·.1))
  | [], pre => by simp [chk]
  | o :: l, pre => by
    rw [chk, Bool.and_eq_true, Bool.and_eq_true, Bool.and_eq_true, chk_iff l (pre ++ [o])]
    simp only [Bool.not_eq_true', decide_eq_false_iff_not, decide_eq_true_iff, List.mem_cons, forall_eq_or_imp, List.map_cons, List.nodup_cons, List.map_append, List.map_nil, List.mem_append, List.mem_singleton, not_or]
    constructor
    · rintro ⟨h1, h2, h3, h4, h5, h6, h7⟩
      refine ⟨⟨h2, h4⟩, ⟨h3, h5⟩, ⟨fun hm => ?_, h6⟩, h1, fun x hx => (h7 x hx).1⟩
      obtain ⟨y, hy, e⟩ := List.mem_map.1 hm
      exact (h7 y hy).2.1 (by simpa using e)
    · rintro ⟨⟨h2, h4⟩, ⟨h3, h5⟩, ⟨h8, h6⟩, h1, h7⟩
      exact ⟨h1, h2, h3, h4, h5, h6, fun x hx => ⟨h7 x hx, fun e => h8 (e ▸ List.mem_map_of_mem hx), by simp⟩⟩
theorem vld_iff (l : List O) : vld l ↔ l.length ≤ 32 ∧ sz l ≤ 4096 ∧ chk [] l = true := by
  rw [chk_iff]
  constructor
  · rintro ⟨⟨a, b, c⟩, d, e⟩; exact ⟨a, b, e, c, d, by simp⟩
  · rintro ⟨a, b, e, c, d, _⟩; exact ⟨⟨a, b, c⟩, d, e⟩
theorem valid_l (l : List S34) (hl : l.length ≤ 32) : ∀ (n k i : Nat), l.length - i ≤ n → n + 40 < k → i ≤ l.length → option_Valid.l0 k l l (l.length : Int) (i : Int) = some (chk (ab (l.take i)) (ab (l.drop i))) := by
  intro n
  induction n with
  | zero =>
    intro k i hn hk hi
    obtain ⟨k, rfl⟩ : ∃ q, k = q + 1 := ⟨k - 1, by omega⟩
    obtain rfl : i = l.length := by omega
    rw [option_Valid.l0, if_neg (by omega), List.drop_length]; rfl
  | succ n ih =>
    intro k i hn hk hi
    obtain ⟨k, rfl⟩ : ∃ q, k = q + 1 := ⟨k - 1, by omega⟩
    by_cases hlt : i < l.length
    · rw [option_Valid.l0, if_pos (by omega), if_pos (by omega), if_pos (by omega), if_pos (by omega), rd_at hlt, drop_at hlt, ab_cons, Int.toNat_natCast]
      have hlen : (l.take i).length ≤ 32 := by rw [List.length_take]; omega
      rw [find_f _ _ (by omega) k (by omega), Option.bind_some]
      have h3 : chk (ab (l.take i)) (o1 l[i] :: ab (l.drop (i + 1))) = (!(decide ((o1 l[i]).1 ∈ (ab (l.take i)).map (·.1))) && (decide (1 ≤ (o1 l[i]).1 ∧ (o1 l[i]).1 ≤ 254) && (decide ((o1 l[i]).2.length ≤ 1024) && chk (ab (l.take (i + 1))) (ab (l.drop (i + 1)))))) := by
        rw [chk, List.take_succ_eq_append_getElem hlt, ab_append]; rfl
      rw [h3]
      have hz : (o1 l[i]).2.length = l[i].f1.size := L_len _
      have hc : (o1 l[i]).1 = l[i].f0 := rfl
      rw [hz, hc]
      by_cases h1 : l[i].f0 ∈ (ab (l.take i)).map (·.1)
      · rw [if_pos (by rw [fndA_some]; exact (fnd_some_iff _ _).2 h1)]; simp [h1]
      · rw [if_neg (by rw [fndA_some]; intro h; exact h1 ((fnd_some_iff _ _).1 h)), isCode_f, Option.bind_some]
        by_cases h2 : 1 ≤ l[i].f0 ∧ l[i].f0 ≤ 254
        · rw [if_pos (decide_eq_true h2)]
          by_cases h4 : (l[i].f1.size : Int) > 1024
          · rw [if_pos h4]; simp [show ¬ l[i].f1.size ≤ 1024 by omega]
          · rw [if_neg h4, wsucc (by omega), ih k (i + 1) (by omega) (by omega) (by omega)]
            rw [decide_eq_false h1, decide_eq_true h2, decide_eq_true (show l[i].f1.size ≤ 1024 by omega)]; rfl
        · rw [if_neg (by rw [decide_eq_false h2]; decide)]; simp [h2]
    · obtain rfl : i = l.length := by omega
      rw [option_Valid.l0, if_neg (by omega), List.drop_length]; rfl
theorem valid_f (l : List S34) (h : ∀ x ∈ l, x.f1.size ≤ 140737488351232) (k : Nat) (hk : 100 < k) : option_Valid.f k l = some (decide (vld (ab l))) := by
  obtain ⟨k, rfl⟩ : ∃ q, k = q + 1 := ⟨k - 1, by omega⟩
  unfold option_Valid.f
  by_cases h1 : (l.length : Int) > 32
  · rw [if_pos h1, option_Valid.j0, if_pos rfl, decide_eq_false (by rw [vld_iff, ab_length]; omega)]
  · rw [if_neg h1, size_f l (by omega) h _ (by omega), Option.bind_some, option_Valid.j0]
    by_cases h2 : ((sz (ab l) : Nat) : Int) > 4096
    · rw [if_pos (decide_eq_true h2), decide_eq_false (by rw [vld_iff]; omega)]
    · rw [if_neg (by rw [decide_eq_false h2]; decide)]
      have := valid_l l (by omega) l.length k 0 (by omega) (by omega) (by omega)
      rw [List.take_zero, List.drop_zero] at this
      refine Eq.trans this ?_
      congr 1
      rw [Bool.eq_iff_iff, decide_eq_true_iff, vld_iff, ab_length]
      exact ⟨fun h => ⟨by omega, by omega, h⟩, fun h => h.2.2⟩
end Go.Proofs.YtkojlapefmcjnaaDoor.OPT
