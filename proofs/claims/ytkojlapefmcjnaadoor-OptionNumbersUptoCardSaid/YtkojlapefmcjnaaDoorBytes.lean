/- Strings as lists of bytes; answers that come with enough rounds: small lemmas that all texts of this seat use. -/
import Derived.Test.YtkojlapefmcjnaaDoorWWords
import Derived.Lib.Strings
namespace Go.Proofs.YtkojlapefmcjnaaDoor.DN
open Go Go.RowKit Go.Proofs.YtkojlapefmcjnaaDoorW.PrintWords
set_option linter.unusedVariables false
set_option linter.unusedSimpArgs false

abbrev L (b : ByteArray) : List UInt8 := b.data.toList
def B (l : List UInt8) : ByteArray := ⟨l.toArray⟩
@[simp] theorem L_B (l : List UInt8) : L (B l) = l := rfl
@[simp] theorem B_L (b : ByteArray) : B (L b) = b := by obtain ⟨⟨l⟩⟩ := b; rfl
theorem L_inj {a b : ByteArray} (h : L a = L b) : a = b := by rw [← B_L a, ← B_L b, h]
theorem B_inj {a b : List UInt8} (h : B a = B b) : a = b := by rw [← L_B a, ← L_B b, h]
theorem L_len (a : ByteArray) : (L a).length = a.size := (Lib.size_eq a).symm
theorem toList_L (a : ByteArray) : a.toList = L a := Lib.toList_data a
theorem L_append (a b : ByteArray) : L (a ++ b) = L a ++ L b := by simp [L, ByteArray.data_append]
theorem L_extract (s : ByteArray) (a b : Nat) : L (s.extract a b) = ((L s).drop a).take (b - a) := Lib.extract_data s a b
theorem B_size (l : List UInt8) : (B l).size = l.length := by simp [B, ByteArray.size]
theorem B_append (a b : List UInt8) : B (a ++ b) = B a ++ B b := by apply L_inj; simp [B]

/-- a byte of a string, as a number -/
theorem bt_L (s : ByteArray) (i : Nat) (h : i < (L s).length) : bt s (i : Int) = (((L s)[i]).toNat : Int) := by
  have h' : i < s.size := by rw [L_len] at h; exact h
  unfold bt
  rw [dif_pos (by simpa using h')]
  rfl

theorem wrap_id {x : Int} (h0 : -9223372036854775808 ≤ x) (h1 : x ≤ 9223372036854775807) : wrap64 x = x := by unfold wrap64; omega

theorem ev_at {α : Type} {g : Nat → Option α} {r : α} (h : Ev g r) : ∃ K, ∀ k, K ≤ k → g k = some r := h
theorem ev_all {α : Type} {g : Nat → Option α} {r : α} (K : Nat) (h : ∀ k, K < k → g k = some r) : Ev g r := ⟨K + 1, fun k hk => h k (by omega)⟩
end Go.Proofs.YtkojlapefmcjnaaDoor.DN
