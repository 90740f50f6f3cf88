/- The plain statement of the law DnameReplaces. -/
import Derived.Test.YtfcgconojomfpaaDoorDnB
import Derived.Test.YtfcgconojomfpaaDoorPax25
namespace Go.Proofs.YtfcgconojomfpaaDoor.Pa
open Go.RowKit Go.Proofs.YtfcgconojomfpaaDoorW.PrintWords Go.Proofs.YtfcgconojomfpaaDoorW.PrintLast Go.Proofs.YtfcgconojomfpaaDoor.DN
set_option linter.unusedVariables false
set_option linter.unusedSimpArgs false
theorem DnameReplaces_pure (a0 a1 a2 : ByteArray) (h0 : a0.size ≤ 140737488351232) (h1 : a1.size ≤ 140737488351232) (h2 : a2.size ≤ 140737488351232) : ∃ k, ddilaw01_DnameReplaces.f k a0 a1 a2 = some true := by
  refine ⟨2000, ?_⟩
  have s0 := cut_size a0; have s1 := cut_size a1; have s2 := cut_size a2
  unfold ddilaw01_DnameReplaces.f
  rw [cut_f a0 h0, cut_f a1 h1, cut_f a2 h2, Option.bind_some, Option.bind_some, Option.bind_some, replace_f _ _ _ (by omega) (by omega) (by omega) _ (by omega), rreplace_f _ _ _ (by omega) (by omega) (by omega) _ (by omega),
    Option.bind_some, Option.bind_some, if_pos rfl, if_pos rfl, awake_f _ (by omega)]
  rfl
end Go.Proofs.YtfcgconojomfpaaDoor.Pa
namespace Go.Proofs.YtfcgconojomfpaaDoor.Pure
open Go.RowKit Go.Proofs.YtfcgconojomfpaaDoor.Pa
theorem DnameReplaces : ∀ (a0 : ByteArray) (a1 : ByteArray) (a2 : ByteArray), a0.size ≤ 140737488351232 → a1.size ≤ 140737488351232 → a2.size ≤ 140737488351232 → ∃ k, ddilaw01_DnameReplaces.f k a0 a1 a2 = some true := fun a b c h0 h1 h2 => DnameReplaces_pure a b c h0 h1 h2
end Go.Proofs.YtfcgconojomfpaaDoor.Pure
