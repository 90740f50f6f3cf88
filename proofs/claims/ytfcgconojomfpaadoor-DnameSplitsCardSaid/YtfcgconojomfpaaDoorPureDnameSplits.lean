/- The plain statement of the law DnameSplits. -/
import Derived.Test.YtfcgconojomfpaaDoorDnB
import Derived.Test.YtfcgconojomfpaaDoorPax20
namespace Go.Proofs.YtfcgconojomfpaaDoor.Pa
open Go.RowKit Go.Proofs.YtfcgconojomfpaaDoorW.PrintWords Go.Proofs.YtfcgconojomfpaaDoorW.PrintLast Go.Proofs.YtfcgconojomfpaaDoor.DN
set_option linter.unusedVariables false
set_option linter.unusedSimpArgs false
theorem DnameSplits_pure (a0 : ByteArray) (h0 : a0.size ≤ 140737488351232) : ∃ k, ddilaw01_DnameSplits.f k a0 = some true := by
  refine ⟨2000, ?_⟩
  have s0 := cut_size a0
  have l0 := labels_len (L (cutS a0))
  unfold ddilaw01_DnameSplits.f
  rw [cut_f a0 h0, Option.bind_some, parent_f _ (by omega) _ (by omega), rparent_f _ (by omega) _ (by omega), star_f _ (by omega) _ (by omega), rstar_f _ (by omega) _ (by omega),
    Option.bind_some, Option.bind_some, Option.bind_some, Option.bind_some, if_pos rfl, if_pos (by simp), if_pos rfl, if_pos (by simp),
    labels_f _ (by omega) _ (by omega), rlabels_f _ (by omega) _ (by omega), Option.bind_some, Option.bind_some, texts_f _ (by simp; omega) _ (by simp; omega), Option.bind_some, if_pos rfl,
    length_f _ (by omega) _ (by omega), rlength_f _ (by omega) _ (by omega), Option.bind_some, Option.bind_some, if_pos rfl, awake_f _ (by omega)]
  rfl
end Go.Proofs.YtfcgconojomfpaaDoor.Pa
namespace Go.Proofs.YtfcgconojomfpaaDoor.Pure
open Go.RowKit Go.Proofs.YtfcgconojomfpaaDoor.Pa
theorem DnameSplits : ∀ (a0 : ByteArray), a0.size ≤ 140737488351232 → ∃ k, ddilaw01_DnameSplits.f k a0 = some true := fun a h => DnameSplits_pure a h
end Go.Proofs.YtfcgconojomfpaaDoor.Pure
