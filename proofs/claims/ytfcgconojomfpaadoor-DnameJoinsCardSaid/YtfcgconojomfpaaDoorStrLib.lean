/- The contracts of strings.IndexByte and strings.Compare, in the form of the printed functions: out of the shelf. -/
import Derived.Test.YtfcgconojomfpaaDoorLays
import Derived.Test.YtfcgconojomfpaaDoorPax0
import Derived.Shelf.Small.Strs
import Derived.Laws.Cover1
import Derived.Test.YtfcgconojomfpaaDoorThy
namespace Go.Proofs.YtfcgconojomfpaaDoor.Pa
open Go.Shelf Go.RowKit Go.Proofs.YtfcgconojomfpaaDoorW.PrintWords Go.Proofs.YtfcgconojomfpaaDoorW.PrintLast

def strings_IndexByte.f (a0 : ByteArray) (a1 : Int) : Option Int := some (Lib.indexByte a0.data.toList a1.toNat.toUInt8)
theorem strings_IndexByte.calls (a0 : ByteArray) (a1 : Int) (r : Int) (w : World) (h : strings_IndexByte.f a0 a1 = some r) :
    Calls Tryd.prog 43 #[.string a0, .int .u8 a1] w fun e w' => e = .returned (.int .i64 r) ∧ Drawn0 w w' := by
  obtain rfl := Option.some.inj h
  exact (Any.strings_IndexByte Tryd.lay137 a0 a1 w).mono fun e w' ⟨he, hw⟩ => ⟨he, hw ▸ Drawn0.refl _⟩

def strings_Compare.f (a0 a1 : ByteArray) : Option Int := some (Lib.compareBytes a0.data.toList a1.data.toList)
theorem strings_Compare.calls (a0 a1 : ByteArray) (r : Int) (w : World) (h : strings_Compare.f a0 a1 = some r) :
    Calls Tryd.prog 47 #[.string a0, .string a1] w fun e w' => e = .returned (.int .i64 r) ∧ Drawn0 w w' := by
  obtain rfl := Option.some.inj h
  exact (Any.strings_Compare Tryd.lay106 a0 a1 w).mono fun e w' ⟨he, hw⟩ => ⟨he, hw ▸ Drawn0.refl _⟩

def ddiref01_text.f (a0 a1 : ByteArray) : Option Int := some (Lib.compareBytes a0.data.toList a1.data.toList)
theorem ddiref01_text.calls (a0 a1 : ByteArray) (r : Int) (w : World) (h : ddiref01_text.f a0 a1 = some r) :
    Calls Tryd.prog 48 #[.string a0, .string a1] w fun e w' => e = .returned (.int .i64 r) ∧ Drawn0 w w' := by
  obtain rfl := Option.some.inj h
  clear h
  have hl := DN.cmp_less a0.data.toList a1.data.toList
  have hz := DN.cmp_zero a0.data.toList a1.data.toList
  rw [← Lib.toList_data, ← Lib.toList_data] at hl hz ⊢
  rcases DN.cmp_range a0.toList a1.toList with hc | hc | hc
  · have h1 : Op.bytesLess a0.toList a1.toList = true := by rw [hl, hc]; rfl
    rw [hc]
    clear hl hz hc
    go_enter Tryd.func48, Tryd.ntmps48
    go_wp2
    go_ret
    exact ⟨rfl, Drawn0.refl _⟩
  · have h1 : Op.bytesLess a0.toList a1.toList = false := by rw [hl, hc]; rfl
    have h2 : (a0.toList == a1.toList) = true := beq_iff_eq.2 (hz.1 hc)
    rw [hc]
    clear hl hz hc
    go_enter Tryd.func48, Tryd.ntmps48
    go_wp2
    go_ret
    exact ⟨rfl, Drawn0.refl _⟩
  · have h1 : Op.bytesLess a0.toList a1.toList = false := by rw [hl, hc]; rfl
    have h2 : (a0.toList == a1.toList) = false := beq_eq_false_iff_ne.2 (fun e => by have := hz.2 e; omega)
    rw [hc]
    clear hl hz hc
    go_enter Tryd.func48, Tryd.ntmps48
    go_wp2
    go_ret
    exact ⟨rfl, Drawn0.refl _⟩
end Go.Proofs.YtfcgconojomfpaaDoor.Pa
