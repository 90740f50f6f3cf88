/- The law's same answers true of equal lists; and the law's awake answers true. -/
import Derived.Test.YtkojlapefmcjnaaDoorRef
import Derived.Test.YtkojlapefmcjnaaDoorEnc
import Derived.Test.YtkojlapefmcjnaaDoorPax11
import Derived.Test.YtkojlapefmcjnaaDoorPax17
namespace Go.Proofs.YtkojlapefmcjnaaDoor.OPT
open Go Go.RowKit Go.Proofs.YtkojlapefmcjnaaDoorW.PrintWords Go.Proofs.YtkojlapefmcjnaaDoor.DN Go.Proofs.YtkojlapefmcjnaaDoor.Pa
set_option linter.unusedVariables false
set_option linter.unusedSimpArgs false

theorem same_l (l : List S34) (hl : l.length ≤ 5864062014900) : ∀ (n k i : Nat), l.length - i ≤ n → n < k → i ≤ l.length → ddilaw35_same.l0 k l l (i : Int) = some true := by
  intro n
  induction n with
  | zero =>
    intro k i hn hk hi
    obtain ⟨k, rfl⟩ : ∃ q, k = q + 1 := ⟨k - 1, by omega⟩
    rw [ddilaw35_same.l0, if_neg (by omega)]
  | succ n ih =>
    intro k i hn hk hi
    obtain ⟨k, rfl⟩ : ∃ q, k = q + 1 := ⟨k - 1, by omega⟩
    by_cases hlt : i < l.length
    · rw [ddilaw35_same.l0, if_pos (by omega), if_pos (by omega), if_pos (by omega), if_neg (by simp), wsucc (by omega)]
      exact ih k (i + 1) (by omega) (by omega) (by omega)
    · rw [ddilaw35_same.l0, if_neg (by omega)]
theorem same_f (l : List S34) (hl : l.length ≤ 5864062014900) (k : Nat) (hk : l.length < k) : ddilaw35_same.f k l l = some true := by
  unfold ddilaw35_same.f
  rw [if_pos rfl]
  exact same_l l hl l.length k 0 (by omega) hk (by omega)
theorem enc_f (l : List S34) (h : ∀ x ∈ l, x.f1.size ≤ 140737488351232) : option_Encode.f l = some (encA (ab l)) := by
  unfold option_Encode.f
  rw [if_pos (by simpa using h)]
theorem enc_one (c : Int) (v : ByteArray) (h : v.size ≤ 255) (hc : 1 ≤ c ∧ c ≤ 254) : option_Encode.f [⟨c, v⟩] = some (B (UInt8.ofNat c.toNat :: UInt8.ofNat (L v).length :: (L v ++ [255])), 0) := by
  rw [enc_f _ (by intro x hx; rw [List.mem_singleton] at hx; subst hx; exact (by omega : v.size ≤ 140737488351232))]
  have hv : vld (ab [⟨c, v⟩]) := by
    refine ⟨⟨by simp [ab], ?_, ?_⟩, by simp [ab], ?_⟩
    · simp only [ab, List.map, sz, o1]; rw [L_len]; omega
    · intro o ho; simp only [ab, List.map, List.mem_singleton] at ho; subst ho; simp only [o1]; rw [L_len]; omega
    · intro o ho; simp only [ab, List.map, List.mem_singleton] at ho; subst ho; exact hc
  unfold encA
  rw [if_pos hv]
  simp only [ab, List.map, enc, encL, o1]
  rw [encV, dif_pos (by rw [L_len]; omega)]
  simp
set_option maxRecDepth 100000 in
theorem awake_f (k : Nat) (hk : 300 ≤ k) : ddilaw35_awake.f k = some true := by
  have h0 := enc_one 12 ⟨#[97, 98]⟩ (by decide) (by decide)
  have hm : ddilaw35_awake.f 300 = some true := by
    unfold ddilaw35_awake.f
    rw [h0]
    decide +kernel
  obtain ⟨d, rfl⟩ := Nat.exists_eq_add_of_le hk
  clear hk
  induction d with
  | zero => exact hm
  | succ d ih => exact ddilaw35_awake.mono _ _ ih
end Go.Proofs.YtkojlapefmcjnaaDoor.OPT
