/- The plain statement of the law OptionDecodes. -/
import Derived.Test.YtkojlapefmcjnaaDoorSame
import Derived.Test.YtkojlapefmcjnaaDoorRdec
import Derived.Test.YtkojlapefmcjnaaDoorPax21
namespace Go.Proofs.YtkojlapefmcjnaaDoor.Pa
open Go Go.RowKit Go.Proofs.YtkojlapefmcjnaaDoorW.PrintWords Go.Proofs.YtkojlapefmcjnaaDoor.DN Go.Proofs.YtkojlapefmcjnaaDoor.OPT
set_option linter.unusedVariables false
set_option linter.unusedSimpArgs false
theorem OptionDecodes_pure (s : ByteArray) (hs : s.size ≤ 140737488351232) : ∃ k, ddilaw35_OptionDecodes.f k s = some true := by
  refine ⟨3 * s.size + 1000, ?_⟩
  have hlen : (un (dec [] (L s)).1).length ≤ 32 := by
    rw [un_length]
    rcases dec_all _ (L s) [] (Nat.le_refl _) vld_nil with ⟨_, h, _⟩ | ⟨h, _⟩
    · exact h.1.1
    · rw [h]; simp
  unfold ddilaw35_OptionDecodes.f
  rw [dec_f s hs _ (by omega), Option.bind_some, rdec_f s hs _ (by omega), Option.bind_some, same_f _ (Nat.le_trans hlen (by decide)) _ (Nat.lt_of_le_of_lt hlen (by omega)), Option.bind_some, if_pos rfl, if_pos rfl, awake_f _ (by omega)]
  rfl
end Go.Proofs.YtkojlapefmcjnaaDoor.Pa
namespace Go.Proofs.YtkojlapefmcjnaaDoor.Pure
open Go Go.RowKit Go.Proofs.YtkojlapefmcjnaaDoor.Pa
theorem OptionDecodes : ∀ (a0 : ByteArray), a0.size ≤ 140737488351232 → ∃ k, ddilaw35_OptionDecodes.f k a0 = some true := fun s h => OptionDecodes_pure s h
end Go.Proofs.YtkojlapefmcjnaaDoor.Pure
