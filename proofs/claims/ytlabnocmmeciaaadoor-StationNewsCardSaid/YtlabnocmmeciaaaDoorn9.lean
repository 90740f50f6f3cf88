/- Parts of the proof of this claim's statement (joined by a program of this session): PureStationNews. -/
import Derived.Test.YtlabnocmmeciaaaDoorn8
namespace Go.Proofs.YtlabnocmmeciaaaDoor.Pure
open Go Go.RowKit Go.Proofs.YtlabnocmmeciaaaDoorW.PrintWords Go.Proofs.YtlabnocmmeciaaaDoorW.PrintLast Go.Proofs.YtlabnocmmeciaaaDoorW.PrintMore Go.Proofs.YtlabnocmmeciaaaDoor.DN Go.Proofs.YtlabnocmmeciaaaDoor.Pa
set_option linter.unusedVariables false
set_option linter.unusedSimpArgs false
theorem StationNews : ∀ (a0 : ByteArray) (a1 : ByteArray), a0.size ≤ 140737488351232 → a1.size ≤ 140737488351232 → ∃ k, ddilaw42_StationNews.f k a0 a1 = some true := by
  intro c h hc hh
  refine ⟨c.size + h.size + 3001, ?_⟩
  unfold ddilaw42_StationNews.f
  rw [if_pos ⟨hc, hh, Nat.le_refl _⟩]
end Go.Proofs.YtlabnocmmeciaaaDoor.Pure

