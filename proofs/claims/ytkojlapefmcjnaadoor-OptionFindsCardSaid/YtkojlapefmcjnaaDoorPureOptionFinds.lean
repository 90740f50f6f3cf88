/- The plain statement of the law OptionFinds. -/
import Derived.Test.YtkojlapefmcjnaaDoorSame
import Derived.Test.YtkojlapefmcjnaaDoorPut
import Derived.Test.YtkojlapefmcjnaaDoorPax26
namespace Go.Proofs.YtkojlapefmcjnaaDoor.Pa
open Go Go.RowKit Go.Proofs.YtkojlapefmcjnaaDoorW.PrintWords Go.Proofs.YtkojlapefmcjnaaDoor.DN Go.Proofs.YtkojlapefmcjnaaDoor.OPT
set_option linter.unusedVariables false
set_option linter.unusedSimpArgs false
theorem OptionFinds_pure (l : List S34) (c : Int) (v : ByteArray) (h0 : l.length * 24 ≤ 140737488351232) : ∃ k, ddilaw35_OptionFinds.f k l c v = some true := by
  have hp : (putS l c v).length ≤ l.length + 1 := by
    unfold putS; split
    · exact ptS_length l c v
    · omega
  refine ⟨2 * l.length + 1000, ?_⟩
  unfold ddilaw35_OptionFinds.f
  rw [find_f l c (by omega) _ (by omega), Option.bind_some, rfind_f l c (by omega) _ (by omega), Option.bind_some, if_pos rfl, if_pos (by simp), put_f l c v (by omega) _ (by omega), Option.bind_some,
    rput_f l c v (by omega) _ (by omega), Option.bind_some, same_f _ (by omega) _ (by omega), Option.bind_some, if_pos rfl, awake_f _ (by omega)]
  rfl
end Go.Proofs.YtkojlapefmcjnaaDoor.Pa
namespace Go.Proofs.YtkojlapefmcjnaaDoor.Pure
open Go Go.RowKit Go.Proofs.YtkojlapefmcjnaaDoor.Pa
theorem OptionFinds : ∀ (l0 : List S34) (a1 : Int) (a2 : ByteArray), l0.length * 24 ≤ 140737488351232 → (∀ y ∈ l0, Wf34 y) → (Lit.int .i64 a1).wf = true → a2.size ≤ 140737488351232 → ∃ k, ddilaw35_OptionFinds.f k l0 a1 a2 = some true := fun l c v h _ _ _ => OptionFinds_pure l c v h
end Go.Proofs.YtkojlapefmcjnaaDoor.Pure
