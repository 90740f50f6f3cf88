/- The plain statement of the law OptionCodes. -/
import Derived.Test.YtkojlapefmcjnaaDoorSame
import Derived.Test.YtkojlapefmcjnaaDoorRenc
import Derived.Test.YtkojlapefmcjnaaDoorPax18
namespace Go.Proofs.YtkojlapefmcjnaaDoor.Pa
open Go Go.RowKit Go.Proofs.YtkojlapefmcjnaaDoorW.PrintWords Go.Proofs.YtkojlapefmcjnaaDoor.DN Go.Proofs.YtkojlapefmcjnaaDoor.OPT
set_option linter.unusedVariables false
set_option linter.unusedSimpArgs false
theorem OptionCodes_pure (l : List S34) (h1 : ∀ y ∈ l, Wf34 y) : ∃ k, ddilaw35_OptionCodes.f k l = some true := by
  have hz : ∀ x ∈ l, x.f1.size ≤ 140737488351232 := fun x hx => (h1 x hx).2
  refine ⟨200000, ?_⟩
  unfold ddilaw35_OptionCodes.f
  rw [enc_f l hz, Option.bind_some, renc_f l hz _ (by decide), Option.bind_some, valid_f l hz _ (by decide), Option.bind_some, rvalid_f l hz _ (by decide), Option.bind_some, if_pos (by simp), if_pos rfl, if_pos rfl, awake_f _ (by decide)]
  rfl
end Go.Proofs.YtkojlapefmcjnaaDoor.Pa
namespace Go.Proofs.YtkojlapefmcjnaaDoor.Pure
open Go Go.RowKit Go.Proofs.YtkojlapefmcjnaaDoor.Pa
theorem OptionCodes : ∀ (l0 : List S34), l0.length * 24 ≤ 140737488351232 → (∀ y ∈ l0, Wf34 y) → ∃ k, ddilaw35_OptionCodes.f k l0 = some true := fun l _ h1 => OptionCodes_pure l h1
end Go.Proofs.YtkojlapefmcjnaaDoor.Pure
