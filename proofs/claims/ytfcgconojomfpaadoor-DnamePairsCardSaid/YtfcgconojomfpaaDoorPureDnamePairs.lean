/- The plain statement of the law DnamePairs. -/
import Derived.Test.YtfcgconojomfpaaDoorDnB
import Derived.Test.YtfcgconojomfpaaDoorPax23
namespace Go.Proofs.YtfcgconojomfpaaDoor.Pa
open Go.RowKit Go.Proofs.YtfcgconojomfpaaDoorW.PrintWords Go.Proofs.YtfcgconojomfpaaDoorW.PrintLast Go.Proofs.YtfcgconojomfpaaDoor.DN
set_option linter.unusedVariables false
set_option linter.unusedSimpArgs false
theorem DnamePairs_pure (a0 a1 : ByteArray) (h0 : a0.size ≤ 140737488351232) (h1 : a1.size ≤ 140737488351232) : ∃ k, ddilaw01_DnamePairs.f k a0 a1 = some true := by
  refine ⟨2000, ?_⟩
  have s0 := cut_size a0; have s1 := cut_size a1
  unfold ddilaw01_DnamePairs.f
  rw [cut_f a0 h0, cut_f a1 h1, Option.bind_some, Option.bind_some, under_f _ _ (by omega) (by omega) _ (by omega), runder_f _ _ (by omega) (by omega) _ (by omega), Option.bind_some, Option.bind_some, if_pos (by simp),
    compare_f _ _ (by omega) (by omega) _ (by omega), rcompare_f _ _ (by omega) (by omega) _ (by omega), Option.bind_some, Option.bind_some, if_pos rfl,
    common_f _ _ (by omega) (by omega) _ (by omega), rcommon_f _ _ (by omega) (by omega) _ (by omega), Option.bind_some, Option.bind_some, if_pos rfl, awake_f _ (by omega)]
  rfl
end Go.Proofs.YtfcgconojomfpaaDoor.Pa
namespace Go.Proofs.YtfcgconojomfpaaDoor.Pure
open Go.RowKit Go.Proofs.YtfcgconojomfpaaDoor.Pa
theorem DnamePairs : ∀ (a0 : ByteArray) (a1 : ByteArray), a0.size ≤ 140737488351232 → a1.size ≤ 140737488351232 → ∃ k, ddilaw01_DnamePairs.f k a0 a1 = some true := fun a b h0 h1 => DnamePairs_pure a b h0 h1
end Go.Proofs.YtfcgconojomfpaaDoor.Pure
