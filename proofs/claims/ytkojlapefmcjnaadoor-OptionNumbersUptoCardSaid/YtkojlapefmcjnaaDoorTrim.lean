/- The contract of strings.Trim at a cut set of one ASCII byte, in the form of the printed functions: out of the shelf. -/
import Derived.Test.YtkojlapefmcjnaaDoorLays
import Derived.Test.YtkojlapefmcjnaaDoorPax0
import Derived.Shelf.Strings.Trim
import Derived.Laws.Cover1
namespace Go.Proofs.YtkojlapefmcjnaaDoor.Pa
open Go.Shelf Go.RowKit Go.Proofs.YtkojlapefmcjnaaDoorW.PrintWords Go.Proofs.YtkojlapefmcjnaaDoorW.PrintLast

def strings_Trim.f (a0 a1 : ByteArray) : Option ByteArray := if a0.size ≤ 9223372036854775807 ∧ a1 = ⟨#[0]⟩ then some ⟨(Lib.trimB a0.data.toList 0).toArray⟩ else none
theorem strings_Trim.calls (a0 a1 : ByteArray) (r : ByteArray) (w : World) (h : strings_Trim.f a0 a1 = some r) :
    Calls Tryd.prog 40 #[.string a0, .string a1] w fun e w' => e = .returned (.string r) ∧ Drawn0 w w' := by
  unfold strings_Trim.f at h
  split at h
  · rename_i hc
    obtain rfl := Option.some.inj h
    obtain ⟨hs, rfl⟩ := hc
    exact (Any.strings_Trim_one Tryd.lay160 a0 0 (by decide) w hs).mono fun e w' ⟨he, hw⟩ => ⟨he, by
      rcases hw with rfl | rfl
      · exact Drawn0.refl _
      · exact ⟨1, rfl⟩⟩
  · cases h
end Go.Proofs.YtkojlapefmcjnaaDoor.Pa
