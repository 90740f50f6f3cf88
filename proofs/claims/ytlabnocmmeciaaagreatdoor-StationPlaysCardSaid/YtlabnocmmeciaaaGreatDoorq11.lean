/- Parts of the proof of this claim's statement (joined by a program of this session): PureStationPlays. -/
import Derived.Test.YtlabnocmmeciaaaGreatDoorq10
import Derived.Test.YtlabnocmmeciaaaGreatDoorq9
set_option linter.unusedVariables false
set_option linter.unusedSimpArgs false
namespace Go.Proofs.YtlabnocmmeciaaaGreatDoor.Pure
open Go RowKit YtlabnocmmeciaaaGreatDoorW.PrintWords YtlabnocmmeciaaaGreatDoorW.PrintLast YtlabnocmmeciaaaGreatDoorW.PrintMore Pa LAW
theorem StationPlays : ∀ (a0 : ByteArray) (a1 : ByteArray) (a2 : Int) (l3 : List S40), a0.size ≤ 140737488351232 → a1.size ≤ 140737488351232 → (Lit.int .u32 a2).wf = true → l3.length * 160 ≤ 140737488351232 → (∀ y ∈ l3, Wf40 y) → ∃ k, ddilaw42_StationPlays.f k a0 a1 a2 l3 = some true := by
  intro a0 a1 a2 l3 h0 h1 h2 _ h3
  refine ⟨0, ?_⟩
  unfold ddilaw42_StationPlays.f
  rw [if_pos ⟨h0, h1, wf_u32 h2, fun x hx => okS_of (h3 x hx)⟩]
end Go.Proofs.YtlabnocmmeciaaaGreatDoor.Pure
