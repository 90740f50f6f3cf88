/- The reference's Encode: over the plain theory of options. -/
import Derived.Test.YtkojlapefmcjnaaDoorRef
import Derived.Test.YtkojlapefmcjnaaDoorEnc
import Derived.Test.YtkojlapefmcjnaaDoorPax7
namespace Go.Proofs.YtkojlapefmcjnaaDoor.OPT
open Go Go.RowKit Go.Proofs.YtkojlapefmcjnaaDoorW.PrintWords Go.Proofs.YtkojlapefmcjnaaDoor.DN Go.Proofs.YtkojlapefmcjnaaDoor.Pa
set_option linter.unusedVariables false
set_option linter.unusedSimpArgs false

theorem two_nums (a b : Int) : L (strOfNums [a, b]) = [UInt8.ofNat a.toNat, UInt8.ofNat b.toNat] := by simp [strOfNums, L]
theorem byte_mod {c : Int} (h1 : 1 ≤ c) (h2 : c ≤ 254) : UInt8.ofNat (c % 256).toNat = UInt8.ofNat c.toNat := by rw [show c % 256 = c by omega]
theorem renc_v (l : List S34) (i : Nat) (hlt : i < l.length) (hl : l.length ≤ 32) (hc1 : 1 ≤ l[i].f0) (hc2 : l[i].f0 ≤ 254) (K0 : Nat) (T : List UInt8) (M : Nat)
    (ih : ∀ k out, K0 < k → out.size ≤ M + 10000 → ddiref35_Encode.l0 k l out ((i + 1 : Nat) : Int) = some (B (L out ++ T), 0)) (hM : M ≤ 1000000000) :
    ∀ (n : Nat) (v out : ByteArray) (k : Nat), v.size ≤ n → n ≤ 1024 → n + K0 + 1 < k → out.size + 4 * v.size ≤ M + 9000 → ddiref35_Encode.l1 k l out (i : Int) v = some (B (L out ++ (encV (UInt8.ofNat l[i].f0.toNat) (L v) ++ T)), 0) := by
  intro n
  induction n using Nat.strongRecOn with
  | ind n ihn =>
    intro v out k hv hn hk ho
    obtain ⟨k, rfl⟩ : ∃ q, k = q + 1 := ⟨k - 1, by omega⟩
    rw [ddiref35_Encode.l1, rd_at hlt]
    by_cases h : (v.size : Int) > 255
    · have e1 : (strOfNums [l[i].f0 % 256, 255]).size = 2 := by rw [← L_len, two_nums]; rfl
      have e2 : (v.extract 0 255).size = 255 := by rw [ByteArray.size_extract]; omega
      have e3 : (v.extract 255 v.size).size = v.size - 255 := by rw [ByteArray.size_extract]; omega
      rw [if_pos h, if_pos (by omega), if_pos (by omega), Option.bind_some, if_pos (by omega), if_pos (by decide), if_pos (by omega), if_pos (by rw [ByteArray.size_append]; omega)]
      rw [ihn (v.size - 255) (by omega) (v.extract 255 v.size) _ k (by omega) (by omega) (by omega) (by rw [ByteArray.size_append, ByteArray.size_append]; omega)]
      refine congrArg (fun z => some (B z, (0 : Int))) ?_
      rw [encV.eq_def (UInt8.ofNat l[i].f0.toNat) (L v), dif_neg (by rw [L_len]; omega), L_append, L_append, two_nums, byte_mod hc1 hc2, L_extract, L_extract, List.drop_zero,
        List.take_of_length_le (i := v.size - 255) (by rw [List.length_drop, L_len]; omega)]
      simp
    · have e1 : (strOfNums [l[i].f0 % 256, (v.size : Int) % 256]).size = 2 := by rw [← L_len, two_nums]; rfl
      rw [if_neg h, if_pos (by omega), if_pos (by omega), Option.bind_some, if_pos (by omega), if_pos (by rw [ByteArray.size_append]; omega), wsucc (by omega), ih k _ (by omega) (by rw [ByteArray.size_append, ByteArray.size_append]; omega)]
      refine congrArg (fun z => some (B z, (0 : Int))) ?_
      rw [encV, dif_pos (by rw [L_len]; omega), L_append, L_append, two_nums, byte_mod hc1 hc2, L_len, show ((v.size : Int) % 256).toNat = v.size by omega]
      simp
theorem renc_l (l : List S34) (hv : vld (ab l)) : ∀ (n k i : Nat) (out : ByteArray), l.length - i ≤ n → n * 1100 + 10 < k → i ≤ l.length → out.size ≤ i * 20000 →
    ddiref35_Encode.l0 k l out (i : Int) = some (B (L out ++ enc (ab (l.drop i))), 0) := by
  have hl := no_sizes hv.1
  have hl1 := hl.1
  have hend : ∀ k out, 0 < k → out.size ≤ 1000000 → ddiref35_Encode.l0 k l out (l.length : Int) = some (B (L out ++ enc (ab (l.drop l.length))), 0) := by
    intro k out hk ho
    obtain ⟨k, rfl⟩ : ∃ q, k = q + 1 := ⟨k - 1, by omega⟩
    rw [ddiref35_Encode.l0, if_neg (by omega), if_pos (by omega), List.drop_length]
    have : out ++ (⟨#[255]⟩ : ByteArray) = B (L out ++ enc (ab [])) := by apply L_inj; rw [L_append, L_B]; rfl
    rw [this]
  intro n
  induction n with
  | zero =>
    intro k i out hn hk hi ho
    obtain rfl : i = l.length := by omega
    exact hend k out (by omega) (by omega)
  | succ n ih =>
    intro k i out hn hk hi ho
    by_cases hlt : i < l.length
    · obtain ⟨k, rfl⟩ : ∃ q, k = q + 1 := ⟨k - 1, by omega⟩
      have hok := hv.2.2 (o1 l[i]) (List.mem_map_of_mem (List.getElem_mem hlt))
      have hsz := hl.2 _ (List.getElem_mem hlt)
      rw [ddiref35_Encode.l0, if_pos (by omega), if_pos (by omega), rd_at hlt]
      have key := renc_v l i hlt hl.1 hok.1 hok.2 (n * 1100 + 10) (enc (ab (l.drop (i + 1)))) (i * 20000)
        (fun k out hk ho => ih k (i + 1) out (by omega) hk (by omega) (by omega)) (by omega) l[i].f1.size l[i].f1 out k (Nat.le_refl _) hsz (by omega) (by omega)
      rw [key, drop_at hlt, ab_cons]
      have : encV (UInt8.ofNat l[i].f0.toNat) (L l[i].f1) ++ enc (ab (l.drop (i + 1))) = enc (o1 l[i] :: ab (l.drop (i + 1))) := by simp [enc, encL, o1]
      rw [this]
    · obtain rfl : i = l.length := by omega
      exact hend k out (by omega) (by omega)
theorem renc_f (l : List S34) (h : ∀ x ∈ l, x.f1.size ≤ 140737488351232) (k : Nat) (hk : 100000 < k) : ddiref35_Encode.f k l = some (encA (ab l)) := by
  unfold ddiref35_Encode.f encA
  rw [rvalid_f l h k (by omega), Option.bind_some]
  by_cases hv : vld (ab l)
  · have hl := no_sizes hv.1
    rw [decide_eq_true hv, if_pos rfl, if_pos hv]
    have h0 : (⟨#[]⟩ : ByteArray).size = 0 := rfl
    have := renc_l l hv l.length k 0 ⟨#[]⟩ (by omega) (by omega) (by omega) (by omega)
    rw [List.drop_zero] at this
    exact this
  · rw [decide_eq_false hv, if_neg (by decide), if_neg hv]
end Go.Proofs.YtkojlapefmcjnaaDoor.OPT
