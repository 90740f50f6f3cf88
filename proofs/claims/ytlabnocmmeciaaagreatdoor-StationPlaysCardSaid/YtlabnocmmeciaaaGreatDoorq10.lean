/- Parts of the proof of this claim's statement (joined by a program of this session): Pax62. -/
import Derived.Test.YtlabnocmmeciaaaGreatDoorq9
set_option linter.unusedVariables false
set_option linter.unusedSimpArgs false
namespace Go.Proofs.YtlabnocmmeciaaaGreatDoor.Pa
open Go LAW RowKit YtlabnocmmeciaaaGreatDoorW.PrintWords YtlabnocmmeciaaaGreatDoorW.PrintLast YtlabnocmmeciaaaGreatDoorW.PrintMore Pa STN DN OPT PLN BQ
def ddilaw42_StationPlays.f (k : Nat) (a0 : ByteArray) (a1 : ByteArray) (a2 : Int) (l3 : List S40) : Option (Bool) := if a0.size ≤ 140737488351232 ∧ a1.size ≤ 140737488351232 ∧ (0 ≤ a2 ∧ a2 ≤ 4294967295) ∧ (∀ x ∈ l3, okS x) then some true else none
theorem ddilaw42_StationPlays.calls (k : Nat) (a0 : ByteArray) (a1 : ByteArray) (a2 : Int) (A3 : Option Addr) (c3 : Nat) (l3 : List S40) (r : Bool) (w : World) (hr3 : Kd.C k40 w A3 l3.length l3) (hc3 : l3.length ≤ c3) (h : ddilaw42_StationPlays.f k a0 a1 a2 l3 = some r) :
  Calls Tryz.prog 3 #[.string a0, .string a1, .int .u32 a2, .slice A3 l3.length c3] w fun e w' => e = .returned (.bool r) ∧ Below w.heap.size w w' := by
  unfold ddilaw42_StationPlays.f at h
  by_cases hc : a0.size ≤ 140737488351232 ∧ a1.size ≤ 140737488351232 ∧ (0 ≤ a2 ∧ a2 ≤ 4294967295) ∧ (∀ x ∈ l3, okS x)
  · rw [if_pos hc] at h
    obtain rfl := Option.some.inj h
    exact playsLaw_c a0 a1 a2 A3 c3 l3 w hr3 hc3 hc.1 hc.2.1 hc.2.2.1 hc.2.2.2
  · rw [if_neg hc] at h; exact absurd h (by simp)
end Go.Proofs.YtlabnocmmeciaaaGreatDoor.Pa
