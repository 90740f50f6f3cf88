/- Plain theory of the canonical order of names, of what two names have in common, and of the first label; no program in sight. -/
import Derived.Test.YtfcgconojomfpaaDoorNames
import Derived.Lib.Bytealg
import GoSem.Op.String
namespace Go.Proofs.YtfcgconojomfpaaDoor.DN
open Go
set_option linter.unusedVariables false
set_option linter.unusedSimpArgs false

/-! ### bytes -/
theorem cmp_refl : ∀ l : List UInt8, Lib.compareBytes l l = 0
  | [] => rfl
  | a :: l => by
    have h : ¬ a < a := by simp
    rw [Lib.compareBytes, if_neg h, if_neg h, cmp_refl l]
theorem cmp_zero : ∀ l m : List UInt8, Lib.compareBytes l m = 0 ↔ l = m
  | [], [] => by simp [Lib.compareBytes]
  | [], _ :: _ => by simp [Lib.compareBytes]
  | _ :: _, [] => by simp [Lib.compareBytes]
  | a :: l, b :: m => by
    have ih := cmp_zero l m
    rw [Lib.compareBytes]
    by_cases h1 : a < b
    · rw [if_pos h1]; simp; rintro rfl; exact absurd h1 (by simp)
    · rw [if_neg h1]
      by_cases h2 : b < a
      · rw [if_pos h2]; simp; rintro rfl; exact absurd h2 (by simp)
      · rw [if_neg h2, ih]
        have : a = b := by
          rw [UInt8.lt_iff_toNat_lt] at h1 h2
          exact UInt8.toNat_inj.1 (by omega)
        simp [this]
theorem cmp_range : ∀ l m : List UInt8, Lib.compareBytes l m = -1 ∨ Lib.compareBytes l m = 0 ∨ Lib.compareBytes l m = 1
  | [], [] => by simp [Lib.compareBytes]
  | [], _ :: _ => by simp [Lib.compareBytes]
  | _ :: _, [] => by simp [Lib.compareBytes]
  | a :: l, b :: m => by
    have ih := cmp_range l m
    rw [Lib.compareBytes]
    split
    · simp
    · split
      · simp
      · exact ih
theorem cmp_neg : ∀ l m : List UInt8, Lib.compareBytes m l = - Lib.compareBytes l m
  | [], [] => by simp [Lib.compareBytes]
  | [], _ :: _ => by simp [Lib.compareBytes]
  | _ :: _, [] => by simp [Lib.compareBytes]
  | a :: l, b :: m => by
    have ih := cmp_neg l m
    rw [Lib.compareBytes, Lib.compareBytes]
    by_cases h1 : a < b
    · have h2 : ¬ b < a := by rw [UInt8.lt_iff_toNat_lt] at h1 ⊢; omega
      rw [if_neg h2, if_pos h1, if_pos h1]; rfl
    · by_cases h2 : b < a
      · rw [if_pos h2, if_neg h1, if_pos h2]
      · rw [if_neg h2, if_neg h1, if_neg h1, if_neg h2, ih]
theorem cmp_less : ∀ l m : List UInt8, Op.bytesLess l m = decide (Lib.compareBytes l m = -1)
  | [], [] => by simp [Op.bytesLess, Lib.compareBytes]
  | [], _ :: _ => by simp [Op.bytesLess, Lib.compareBytes]
  | _ :: _, [] => by simp [Op.bytesLess, Lib.compareBytes]
  | a :: l, b :: m => by
    have ih := cmp_less l m
    rw [Op.bytesLess, Lib.compareBytes, ih]
    by_cases h1 : a < b
    · simp [h1]
    · rw [if_neg h1]
      by_cases h2 : b < a
      · have hne : (a == b) = false := by
          rw [beq_eq_false_iff_ne]; rintro rfl; exact absurd h2 (by simp)
        simp [h1, h2, hne]
      · have : a = b := by
          rw [UInt8.lt_iff_toNat_lt] at h1 h2
          exact UInt8.toNat_inj.1 (by omega)
        subst this; simp
theorem cmp_text (l m : List UInt8) : (if Op.bytesLess l m = true then (-1 : Int) else if Op.bytesLess m l = true then 1 else 0) = Lib.compareBytes l m := by
  rw [cmp_less, cmp_less, cmp_neg l m]
  rcases cmp_range l m with h | h | h <;> simp [h]
theorem cmp_trans : ∀ l m n : List UInt8, Lib.compareBytes l m ≤ 0 → Lib.compareBytes m n ≤ 0 → Lib.compareBytes l n ≤ 0 ∧ (Lib.compareBytes l n = 0 → Lib.compareBytes l m = 0)
  | [], m, [], h1, h2 => by
    refine ⟨by simp [Lib.compareBytes], fun _ => ?_⟩
    cases m with
    | nil => rfl
    | cons b m => simp [Lib.compareBytes] at h2
  | [], m, c :: n, h1, h2 => by simp [Lib.compareBytes]
  | a :: l, [], n, h1, h2 => by simp [Lib.compareBytes] at h1
  | a :: l, b :: m, [], h1, h2 => by simp [Lib.compareBytes] at h2
  | a :: l, b :: m, c :: n, h1, h2 => by
    have ih := cmp_trans l m n
    rw [Lib.compareBytes] at h1 h2 ⊢
    rw [Lib.compareBytes]
    simp only [UInt8.lt_iff_toNat_lt] at h1 h2 ⊢
    by_cases e1 : a.toNat < b.toNat
    · by_cases e2 : b.toNat < c.toNat
      · rw [if_pos (by omega)]; exact ⟨by omega, by omega⟩
      · by_cases e3 : c.toNat < b.toNat
        · rw [if_neg e2, if_pos e3] at h2; omega
        · rw [if_pos (by omega)]; exact ⟨by omega, by omega⟩
    · rw [if_neg e1] at h1
      by_cases e4 : b.toNat < a.toNat
      · rw [if_pos e4] at h1; omega
      · rw [if_neg e4] at h1
        by_cases e2 : b.toNat < c.toNat
        · rw [if_pos (by omega)]; exact ⟨by omega, by omega⟩
        · rw [if_neg e2] at h2
          by_cases e3 : c.toNat < b.toNat
          · rw [if_pos e3] at h2; omega
          · rw [if_neg e3] at h2
            rw [if_neg (by omega), if_neg (by omega), if_neg e1, if_neg e4]
            exact ih h1 h2

/-! ### labels, the last one first -/
def cmpR : List (List UInt8) → List (List UInt8) → Int
  | [], [] => 0
  | [], _ :: _ => -1
  | _ :: _, [] => 1
  | x :: l, y :: m => if Lib.compareBytes x y = 0 then cmpR l m else Lib.compareBytes x y
theorem cmpR_zero : ∀ l m, cmpR l m = 0 ↔ l = m
  | [], [] => by simp [cmpR]
  | [], _ :: _ => by simp [cmpR]
  | _ :: _, [] => by simp [cmpR]
  | x :: l, y :: m => by
    have ih := cmpR_zero l m
    have h := cmp_zero x y
    rw [cmpR]
    by_cases e : Lib.compareBytes x y = 0
    · rw [if_pos e, ih]; simp [h.1 e]
    · rw [if_neg e]; constructor
      · intro h2; exact absurd h2 e
      · intro h2; exact absurd (h.2 (List.cons.inj h2).1) e
theorem cmpR_neg : ∀ l m, cmpR m l = - cmpR l m
  | [], [] => by simp [cmpR]
  | [], _ :: _ => by simp [cmpR]
  | _ :: _, [] => by simp [cmpR]
  | x :: l, y :: m => by
    have ih := cmpR_neg l m
    have h := cmp_neg x y
    rw [cmpR, cmpR]
    by_cases e : Lib.compareBytes x y = 0
    · rw [if_pos (by omega), if_pos e, ih]
    · rw [if_neg (by omega), if_neg e, h]
theorem cmpR_range : ∀ l m, cmpR l m = -1 ∨ cmpR l m = 0 ∨ cmpR l m = 1
  | [], [] => by simp [cmpR]
  | [], _ :: _ => by simp [cmpR]
  | _ :: _, [] => by simp [cmpR]
  | x :: l, y :: m => by
    rw [cmpR]; split
    · exact cmpR_range l m
    · exact cmp_range x y
theorem cmpR_trans : ∀ l m n, cmpR l m ≤ 0 → cmpR m n ≤ 0 → cmpR l n ≤ 0 ∧ (cmpR l n = 0 → cmpR l m = 0)
  | [], m, [], h1, h2 => by
    refine ⟨by simp [cmpR], fun _ => ?_⟩
    cases m with
    | nil => rfl
    | cons b m => simp [cmpR] at h2
  | [], m, c :: n, h1, h2 => by simp [cmpR]
  | a :: l, [], n, h1, h2 => by simp [cmpR] at h1
  | a :: l, b :: m, [], h1, h2 => by simp [cmpR] at h2
  | a :: l, b :: m, c :: n, h1, h2 => by
    have ih := cmpR_trans l m n
    have ht := cmp_trans a b c
    have z1 := cmp_zero a b; have z2 := cmp_zero b c; have z3 := cmp_zero a c
    rw [cmpR] at h1 h2 ⊢
    rw [cmpR]
    by_cases e1 : Lib.compareBytes a b = 0
    · rw [if_pos e1] at h1 ⊢
      obtain rfl := z1.1 e1
      by_cases e2 : Lib.compareBytes a c = 0
      · rw [if_pos e2] at h2 ⊢; exact ih h1 h2
      · rw [if_neg e2] at h2 ⊢; exact ⟨h2, fun h => absurd h e2⟩
    · rw [if_neg e1] at h1 ⊢
      have h2' : Lib.compareBytes b c ≤ 0 := by
        by_cases e2 : Lib.compareBytes b c = 0
        · omega
        · rw [if_neg e2] at h2; exact h2
      obtain ⟨t1, t2⟩ := ht h1 h2'
      by_cases e3 : Lib.compareBytes a c = 0
      · exact absurd (t2 e3) e1
      · rw [if_neg e3]; exact ⟨t1, fun h => absurd h e3⟩
/-- what begins with a list comes after it; what comes between begins with it, too -/
theorem cmpR_prefix : ∀ (a b : List (List UInt8)), a <+: b → cmpR a b ≤ 0
  | [], [], _ => by simp [cmpR]
  | [], _ :: _, _ => by simp [cmpR]
  | x :: a, [], h => by simp at h
  | x :: a, y :: b, h => by
    obtain ⟨rfl, h2⟩ := List.cons_prefix_cons.1 h
    rw [cmpR, if_pos (cmp_refl x)]
    exact cmpR_prefix a b h2
theorem cmpR_between : ∀ (a b c : List (List UInt8)), a <+: c → cmpR a b ≤ 0 → cmpR b c ≤ 0 → a <+: b
  | [], b, c, _, _, _ => List.nil_prefix
  | x :: a, [], c, _, h1, _ => by simp [cmpR] at h1
  | x :: a, y :: b, [], h, _, _ => by simp at h
  | x :: a, y :: b, z :: c, h, h1, h2 => by
    obtain ⟨rfl, h3⟩ := List.cons_prefix_cons.1 h
    rw [cmpR] at h1 h2
    have hn := cmp_neg x y
    by_cases e1 : Lib.compareBytes x y = 0
    · obtain rfl := (cmp_zero x y).1 e1
      rw [if_pos e1] at h1
      rw [if_pos e1] at h2
      exact List.cons_prefix_cons.2 ⟨rfl, cmpR_between a b c h3 h1 h2⟩
    · rw [if_neg e1] at h1
      rw [if_neg (by omega)] at h2
      omega
/-- the comparison, by how many labels are the same -/
theorem cmpR_skip : ∀ (l m : List (List UInt8)), cmpR l m = (if h : cpl l m < l.length ∧ cpl l m < m.length then Lib.compareBytes (l[cpl l m]'h.1) (m[cpl l m]'h.2) else if l.length < m.length then -1 else if l.length > m.length then 1 else 0)
  | [], [] => by simp [cmpR, cpl]
  | [], _ :: _ => by simp [cmpR, cpl]
  | _ :: _, [] => by simp [cmpR, cpl]
  | x :: l, y :: m => by
    have ih := cmpR_skip l m
    rw [cmpR]
    by_cases e : x = y
    · subst e
      have hc : cpl (x :: l) (x :: m) = cpl l m + 1 := by simp [cpl]
      rw [if_pos (cmp_refl x), ih]
      simp only [hc, List.length_cons, Nat.add_lt_add_iff_right, List.getElem_cons_succ, gt_iff_lt]
    · have hc : cpl (x :: l) (y :: m) = 0 := by simp [cpl, e]
      rw [if_neg (fun h => e ((cmp_zero x y).1 h))]
      simp [hc]

/-! ### what two names have in common -/
theorem cpl_ge {α : Type} [DecidableEq α] : ∀ (l m : List α) (j : Nat), l.take j = m.take j → j ≤ l.length → j ≤ m.length → j ≤ cpl l m
  | _, _, 0, _, _, _ => Nat.zero_le _
  | [], m, j + 1, _, h, _ => by simp at h
  | x :: l, [], j + 1, _, _, h => by simp at h
  | x :: l, y :: m, j + 1, h, h1, h2 => by
    simp only [List.take_succ_cons, List.cons.injEq] at h
    have := cpl_ge l m j h.2 (by simpa using h1) (by simpa using h2)
    simp [cpl, h.1]; exact this
theorem sameN_ge {α : Type} [DecidableEq α] (a b : List α) (j : Nat) (h : a.drop (a.length - j) = b.drop (b.length - j)) (h1 : j ≤ a.length) (h2 : j ≤ b.length) : j ≤ sameN a b := by
  unfold sameN
  refine cpl_ge _ _ j ?_ (by simpa using h1) (by simpa using h2)
  rw [List.take_reverse, List.take_reverse, h]
theorem sameN_comm {α : Type} [DecidableEq α] (a b : List α) : sameN a b = sameN b a := by
  have h1 := sameN_le a b; have h2 := sameN_le b a
  have := sameN_ge a b (sameN b a) (sameN_drop b a).symm h2.2 h2.1
  have := sameN_ge b a (sameN a b) (sameN_drop a b).symm h1.2 h1.1
  omega
def commonL (a b : List (List UInt8)) : List (List UInt8) := a.drop (a.length - sameN a b)
theorem commonL_comm (a b : List (List UInt8)) : commonL a b = commonL b a := by
  unfold commonL; rw [sameN_drop, sameN_comm]
theorem commonL_suffix (a b : List (List UInt8)) : commonL a b <:+ a ∧ commonL a b <:+ b := by
  refine ⟨List.drop_suffix _ _, ?_⟩
  rw [commonL_comm]; exact List.drop_suffix _ _
theorem suffix_common {a b : List (List UInt8)} (i : Nat) (hi : i ≤ a.length) : a.drop i <:+ b ↔ a.length - i ≤ sameN a b := by
  constructor
  · intro h
    have hl := h.length_le
    rw [List.length_drop] at hl
    refine sameN_ge a b (a.length - i) ?_ (by omega) hl
    rw [show a.length - (a.length - i) = i by omega]
    have := List.suffix_iff_eq_drop.1 h
    rw [List.length_drop] at this; exact this
  · intro h
    have h2 := (commonL_suffix a b).2
    refine List.IsSuffix.trans ?_ h2
    unfold commonL
    have : i = (a.length - sameN a b) + (i - (a.length - sameN a b)) := by omega
    rw [this, ← List.drop_drop]
    exact List.drop_suffix _ _

/-! ### the first label -/
theorem index_label (x r : List UInt8) (hx : ∀ c ∈ x, c ≠ 46) : Lib.indexByte (x ++ 46 :: r) 46 = x.length := by
  induction x with
  | nil => simp [Lib.indexByte]
  | cons c x ih =>
    have hc : (c == 46) = false := by simpa using hx c (by simp)
    have h := ih (fun d hd => hx d (by simp [hd]))
    rw [List.cons_append, Lib.indexByte, hc, h]
    have : (((x.length : Nat) : Int) == -1) = false := by simp
    simp [this]
theorem star_first {l : List (List UInt8)} (h : good l) (hne : l ≠ []) : (nm l).head? = some 42 ↔ l.head? = some [42] := by
  cases l with
  | nil => exact absurd rfl hne
  | cons x l =>
    have hx := labs_all h.1 x (by simp)
    have hn := labL_ne_nil hx
    have e : nm (x :: l) = x ++ 46 :: txt l := by rw [nm, if_neg (by simp), txt_cons]
    rw [e]
    cases x with
    | nil => exact absurd rfl hn
    | cons c x =>
      simp only [List.cons_append, List.head?_cons, Option.some.injEq]
      constructor
      · rintro rfl
        simp only [labL, ordL, Bool.or_eq_true, Bool.and_eq_true, beq_iff_eq] at hx
        rcases hx with hx | hx
        · have := hx.2
          simp only [List.all_cons, Bool.and_eq_true] at this
          exact absurd this.1 (by decide)
        · exact hx
      · intro h; exact (List.cons.inj h).1
theorem nm_root : nm [] = [46] := rfl
theorem good_append {p q : List (List UInt8)} (hp : good p) (hpn : p ≠ []) (hq : labs q = true) (hs : q.head? ≠ some [42]) (hlen : (txt (p ++ q)).length ≤ 254) : good (p ++ q) := by
  refine ⟨?_, hlen⟩
  cases p with
  | nil => exact absurd rfl hpn
  | cons x p =>
    have h1 := hp.1
    simp only [labs, Bool.and_eq_true] at h1
    have hqo : q.all ordL = true := by
      cases q with
      | nil => rfl
      | cons y q =>
        simp only [labs, Bool.and_eq_true, labL, Bool.or_eq_true, beq_iff_eq] at hq
        simp only [List.all_cons, Bool.and_eq_true]
        rcases hq.1 with h | h
        · exact ⟨h, hq.2⟩
        · subst h; exact absurd rfl hs
    simp [labs, h1.1, h1.2, hqo]
end Go.Proofs.YtfcgconojomfpaaDoor.DN
