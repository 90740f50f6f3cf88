/- The plain statement of the law OptionAgain. -/
import Derived.Test.YtkojlapefmcjnaaDoorSame
import Derived.Test.YtkojlapefmcjnaaDoorPax22
namespace Go.Proofs.YtkojlapefmcjnaaDoor.Pa
open Go Go.RowKit Go.Proofs.YtkojlapefmcjnaaDoorW.PrintWords Go.Proofs.YtkojlapefmcjnaaDoor.DN Go.Proofs.YtkojlapefmcjnaaDoor.OPT
set_option linter.unusedVariables false
set_option linter.unusedSimpArgs false
theorem enc_size {m : List O} (h : vld m) : (B (enc m)).size ≤ 20000 := by
  rw [B_size]
  have h2 := encL_length m
  have h3 := h.1.2.1
  have h4 := h.1.1
  unfold enc
  rw [List.length_append]; simp only [List.length_cons, List.length_nil]; omega
theorem again_j2 (s : ByteArray) (hs : s.size ≤ 140737488351232) (m : List O) (hm : vld m) (q : Nat) (hq : q < s.size) (hp : dec [] ((L s).take q) = ([], 7)) (k : Nat) (hk : s.size + 1000 < k) :
    ddilaw35_OptionAgain.j2 k s (un m) 0 (un m) 0 ((q + 1 : Nat) : Int) false = some true := by
  obtain ⟨k, rfl⟩ : ∃ q, k = q + 1 := ⟨k - 1, by omega⟩
  have hz := no_sizes (l := un m) (by rw [ab_un]; exact hm.1)
  rw [ddilaw35_OptionAgain.j2, if_neg (by decide), show wrap64 (((q + 1 : Nat) : Int) - 1) = (q : Int) by rw [wrap_id (by omega) (by omega)]; omega, if_pos (by omega), if_pos (by omega), Int.toNat_natCast,
    dec_f (s.extract 0 q) (by rw [ByteArray.size_extract]; omega) _ (by rw [ByteArray.size_extract]; omega), Option.bind_some, valid_f (un m) (fun x hx => by have := hz.2 x hx; omega) _ (by omega), Option.bind_some, ab_un, decide_eq_true hm,
    if_pos rfl, if_pos rfl, if_pos rfl, same_f _ (by omega) _ (by omega), Option.bind_some, if_pos rfl]
  have he : L (s.extract 0 q) = (L s).take q := by rw [L_extract, List.drop_zero, Nat.sub_zero]
  rw [he, hp, if_pos rfl, awake_f _ (by omega)]
  rfl
theorem again_l (s : ByteArray) (hs : s.size ≤ 140737488351232) (m : List O) (hm : vld m) (p z : List UInt8) (hL : L s = p ++ 255 :: z) (hz : z.all (· == 0) = true) (hp : dec [] p = ([], 7)) :
    ∀ (d k : Nat), d ≤ z.length → d + s.size + 1010 < k → ddilaw35_OptionAgain.l0 k s (un m) 0 (un m) 0 ((p.length + 1 + d : Nat) : Int) = some true := by
  have hsz : s.size = p.length + 1 + z.length := by rw [← L_len, hL]; simp; omega
  intro d
  induction d with
  | zero =>
    intro k hd hk
    obtain ⟨k, rfl⟩ : ∃ q, k = q + 1 := ⟨k - 1, by omega⟩
    have hl : p.length < (L s).length := by rw [L_len]; omega
    have hb : bt s (p.length : Int) = 255 := by
      rw [bt_L s p.length hl]
      have : (L s)[p.length] = 255 := by simp [hL]
      rw [this]; rfl
    have hw : wrap64 (((p.length + 1 + 0 : Nat) : Int) - 1) = (p.length : Int) := by rw [wrap_id (by omega) (by omega)]; omega
    rw [ddilaw35_OptionAgain.l0, if_pos (by omega), hw, if_pos (by omega), if_pos (by omega), hb, if_neg (by decide)]
    obtain ⟨k, rfl⟩ : ∃ q, k = q + 1 := ⟨k - 1, by omega⟩
    rw [ddilaw35_OptionAgain.j1, if_neg (by omega), hw, if_pos (by omega), if_pos (by omega), hb, show ((255 : Int) != 255) = false by decide]
    exact again_j2 s hs m hm p.length (by omega) (by rw [hL, List.take_left' rfl]; exact hp) k (by omega)
  | succ d ih =>
    intro k hd hk
    obtain ⟨k, rfl⟩ : ∃ q, k = q + 1 := ⟨k - 1, by omega⟩
    have hl : p.length + 1 + d < (L s).length := by rw [L_len]; omega
    have hb : bt s ((p.length + 1 + d : Nat) : Int) = 0 := by
      rw [bt_L s _ hl]
      have : (L s)[p.length + 1 + d] = 0 := by
        have e : (L s)[p.length + 1 + d]? = z[d]? := by rw [hL, List.getElem?_append_right (by omega), show p.length + 1 + d - p.length = d + 1 by omega]; rfl
        rw [List.getElem?_eq_getElem hl, List.getElem?_eq_getElem (by omega)] at e
        rw [Option.some.inj e]
        have := List.all_eq_true.1 hz _ (List.getElem_mem (show d < z.length by omega))
        simpa using this
      rw [this]; rfl
    have hw : wrap64 (((p.length + 1 + (d + 1) : Nat) : Int) - 1) = ((p.length + 1 + d : Nat) : Int) := by rw [wrap_id (by omega) (by omega)]; omega
    rw [ddilaw35_OptionAgain.l0, if_pos (by omega), hw, if_pos (by omega), if_pos (by omega), hb, if_pos rfl]
    exact ih k (by omega) (by omega)
theorem OptionAgain_pure (s : ByteArray) (hs : s.size ≤ 140737488351232) : ∃ k, ddilaw35_OptionAgain.f k s = some true := by
  refine ⟨3 * s.size + 100000, ?_⟩
  unfold ddilaw35_OptionAgain.f
  rw [dec_f s hs _ (by omega), Option.bind_some]
  rcases dec_all _ (L s) [] (Nat.le_refl _) vld_nil with ⟨h1, h2, p, z, hL, hz, hp⟩ | ⟨h1, h2⟩
  · obtain ⟨m, hm⟩ : ∃ m, m = (dec [] (L s)).1 := ⟨_, rfl⟩
    rw [← hm] at h2
    rw [← hm, h1, if_pos rfl]
    have hnz := no_sizes (l := un m) (by rw [ab_un]; exact h2.1)
    have hes := enc_size h2
    have he : option_Encode.f (un m) = some (B (enc m), 0) := by
      rw [enc_f _ (fun x hx => by have := hnz.2 x hx; omega), ab_un]; unfold encA; rw [if_pos h2]
    have hd := dec_f (B (enc m)) (by omega) (3 * s.size + 100000) (by omega)
    rw [L_B, dec_enc h2] at hd
    dsimp only
    rw [he, Option.bind_some]
    dsimp only
    rw [hd, Option.bind_some]
    have hsz : s.size = p.length + 1 + z.length := by rw [← L_len, hL]; simp; omega
    have := again_l s hs m h2 p z hL hz hp z.length (3 * s.size + 100000) (Nat.le_refl _) (by omega)
    rw [← hsz] at this
    exact this
  · rw [h1]
    rcases h2 with h2 | h2 | h2 | h2 <;> rw [h2]
    · rw [if_neg (by decide), if_pos rfl, if_pos (by rfl), awake_f _ (by omega)]; rfl
    · rw [if_neg (by decide), if_neg (by decide), if_pos rfl, if_pos (by rfl), awake_f _ (by omega)]; rfl
    · rw [if_neg (by decide), if_neg (by decide), if_neg (by decide), if_neg (by decide), if_pos rfl, if_pos (by rfl), awake_f _ (by omega)]; rfl
    · rw [if_neg (by decide), if_neg (by decide), if_neg (by decide), if_pos rfl, if_pos (by rfl), awake_f _ (by omega)]; rfl
end Go.Proofs.YtkojlapefmcjnaaDoor.Pa
namespace Go.Proofs.YtkojlapefmcjnaaDoor.Pure
open Go Go.RowKit Go.Proofs.YtkojlapefmcjnaaDoor.Pa
theorem OptionAgain : ∀ (a0 : ByteArray), a0.size ≤ 140737488351232 → ∃ k, ddilaw35_OptionAgain.f k a0 = some true := fun s h => OptionAgain_pure s h
end Go.Proofs.YtkojlapefmcjnaaDoor.Pure
