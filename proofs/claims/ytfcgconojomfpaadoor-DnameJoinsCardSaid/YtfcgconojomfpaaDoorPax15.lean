-- Written by a program of this session out of the translation's own print; Lean checks it.
import Derived.Test.YtfcgconojomfpaaDoorPax0
import Derived.Test.YtfcgconojomfpaaDoorPax3
import Derived.Test.YtfcgconojomfpaaDoorPax4
import Derived.Test.YtfcgconojomfpaaDoorPax9
import Derived.Test.YtfcgconojomfpaaDoorPax10
import Derived.Test.YtfcgconojomfpaaDoorPax11
import Derived.Test.YtfcgconojomfpaaDoorPax13
import Derived.Test.YtfcgconojomfpaaDoorPax14
namespace Go.Proofs.YtfcgconojomfpaaDoor.Pa
open Go.RowKit Go.Proofs.YtfcgconojomfpaaDoorW.PrintWords Go.Proofs.YtfcgconojomfpaaDoorW.PrintLast Go.Proofs.YtfcgconojomfpaaDoorW.PrintMore
attribute [local go_sem] max2_int min2_int max_two min_two max_three min_three max_four min_four   -- for this text's walks alone
set_option linter.unusedVariables false
set_option linter.unusedSimpArgs false

/-! ### ddilaw01_awake: function 17 -/
mutual
def ddilaw01_awake.j0 : Nat → Bool → Option (Bool)
  | 0, _ => none
  | k + 1, x52 => if x52 = true then (some false) else (ddilaw01_awake.l0 k (([(⟨#[46]⟩ : ByteArray), (⟨#[101, 120, 97, 109, 112, 108, 101, 46]⟩ : ByteArray), (⟨#[42, 46, 101, 120, 97, 109, 112, 108, 101, 46]⟩ : ByteArray), (⟨#[97, 46, 101, 120, 97, 109, 112, 108, 101, 46]⟩ : ByteArray), (⟨#[122, 46, 97, 46, 101, 120, 97, 109, 112, 108, 101, 46]⟩ : ByteArray), (⟨#[98, 46, 101, 120, 97, 109, 112, 108, 101, 46]⟩ : ByteArray), (⟨#[]⟩ : ByteArray), (⟨#[65, 46]⟩ : ByteArray)] : List ByteArray)) 1)
def ddilaw01_awake.l0 : Nat → List ByteArray → Int → Option (Bool)
  | 0, _, _ => none
  | k + 1, x9, x10 => if x10 < (x9.length : Int) then (if 0 ≤ (wrap64 (x10 - 1)) then (if (wrap64 (x10 - 1)) < (x9.length : Int) then (if 0 ≤ x10 then ((dname_Compare.f k (rdOf ByteArray.empty x9 (wrap64 (x10 - 1))) (rdOf ByteArray.empty x9 x10)).bind fun t191 => (if t191 = (-1) then (ddilaw01_awake.l0 k x9 (wrap64 (x10 + 1))) else (some false))) else (none)) else (none)) else (none)) else ((dname_Valid.f k (⟨#[42, 46, 101, 120, 97, 109, 112, 108, 101, 46]⟩ : ByteArray)).bind fun t192 => (if t192 = true then ((dname_Valid.f k (⟨#[97, 46, 46]⟩ : ByteArray)).bind fun t193 => (if t193 = true then (some false) else ((dname_Length.f k (⟨#[97, 46, 101, 120, 97, 109, 112, 108, 101, 46]⟩ : ByteArray)).bind fun t194 => (if t194 = 11 then ((dname_Common.f k (⟨#[97, 46, 98, 46, 101, 120, 97, 109, 112, 108, 101, 46]⟩ : ByteArray) (⟨#[98, 46, 101, 120, 97, 109, 112, 108, 101, 46]⟩ : ByteArray)).bind fun t195 => (if t195.toList = ([98, 46, 101, 120, 97, 109, 112, 108, 101, 46] : List UInt8) then ((dname_Under.f k (⟨#[98, 97, 100, 101, 120, 97, 109, 112, 108, 101, 46]⟩ : ByteArray) (⟨#[101, 120, 97, 109, 112, 108, 101, 46]⟩ : ByteArray)).bind fun t196 => (some (!t196))) else (some false))) else (some false))))) else (some false)))
end
def ddilaw01_awake.f (k : Nat)  : Option (Bool) := (dname_Parse.f k (⟨#[87, 87, 87]⟩ : ByteArray) (⟨#[101, 120, 97, 109, 112, 108, 101, 46]⟩ : ByteArray)).bind fun bt178 => ((dname_Parse.f k (⟨#[97, 46, 42]⟩ : ByteArray) (⟨#[101, 120, 97, 109, 112, 108, 101, 46]⟩ : ByteArray)).bind fun bt180 => ((dname_Replace.f k (⟨#[97, 46, 98, 46, 120, 46]⟩ : ByteArray) (⟨#[120, 46]⟩ : ByteArray) (⟨#[121, 46, 122, 46]⟩ : ByteArray)).bind fun bt182 => ((dname_Star.f k (⟨#[46]⟩ : ByteArray)).bind fun bt184 => (if bt178.1.toList = ([119, 119, 119, 46, 101, 120, 97, 109, 112, 108, 101, 46] : List UInt8) then (if bt178.2 = 0 then (if bt180.2 = 2 then (if bt182.1.toList = ([97, 46, 98, 46, 121, 46, 122, 46] : List UInt8) then (if bt182.2 = 0 then (if bt184.1.toList = ([42, 46] : List UInt8) then (ddilaw01_awake.j0 k (!bt184.2)) else (ddilaw01_awake.j0 k true)) else (ddilaw01_awake.j0 k true)) else (ddilaw01_awake.j0 k true)) else (ddilaw01_awake.j0 k true)) else (ddilaw01_awake.j0 k true)) else (ddilaw01_awake.j0 k true)))))
theorem ddilaw01_awake.mono_l : ∀ k, (∀ y0, LeO (ddilaw01_awake.j0 k y0) (ddilaw01_awake.j0 (k + 1) y0)) ∧ (∀ y0 y1, LeO (ddilaw01_awake.l0 k y0 y1) (ddilaw01_awake.l0 (k + 1) y0 y1))
  | 0 => ⟨fun _ r h => by simp [ddilaw01_awake.j0] at h, fun _ _ r h => by simp [ddilaw01_awake.l0] at h⟩
  | k + 1 => by
    obtain ⟨ih0, ih1⟩ := ddilaw01_awake.mono_l k
    refine ⟨?_, ?_⟩
    · intro y0
      unfold ddilaw01_awake.j0
      repeat' first
      | (with_reducible exact ih0 _)
      | (with_reducible exact ih1 _ _)
      | (with_reducible exact dname_Common.mono _ _ _)
      | (with_reducible exact dname_Compare.mono _ _ _)
      | (with_reducible exact dname_Length.mono _ _)
      | (with_reducible exact dname_Parse.mono _ _ _)
      | (with_reducible exact dname_Replace.mono _ _ _ _)
      | (with_reducible exact dname_Star.mono _ _)
      | (with_reducible exact dname_Under.mono _ _ _)
      | (with_reducible exact dname_Valid.mono _ _)
      | (with_reducible exact LeO.refl _)
      | (with_reducible exact LeO.none _)
      | (with_reducible refine LeO.ite ?_ ?_)
      | (with_reducible refine LeO.bind ?_ (fun _ => ?_))
      | exact ih0 _
      | exact ih1 _ _
      | exact dname_Common.mono _ _ _
      | exact dname_Compare.mono _ _ _
      | exact dname_Length.mono _ _
      | exact dname_Parse.mono _ _ _
      | exact dname_Replace.mono _ _ _ _
      | exact dname_Star.mono _ _
      | exact dname_Under.mono _ _ _
      | exact dname_Valid.mono _ _
      | exact LeO.none _
      | refine LeO.ite ?_ ?_
      | refine LeO.bind ?_ (fun _ => ?_)
    · intro y0 y1
      unfold ddilaw01_awake.l0
      repeat' first
      | (with_reducible exact ih0 _)
      | (with_reducible exact ih1 _ _)
      | (with_reducible exact dname_Common.mono _ _ _)
      | (with_reducible exact dname_Compare.mono _ _ _)
      | (with_reducible exact dname_Length.mono _ _)
      | (with_reducible exact dname_Parse.mono _ _ _)
      | (with_reducible exact dname_Replace.mono _ _ _ _)
      | (with_reducible exact dname_Star.mono _ _)
      | (with_reducible exact dname_Under.mono _ _ _)
      | (with_reducible exact dname_Valid.mono _ _)
      | (with_reducible exact LeO.refl _)
      | (with_reducible exact LeO.none _)
      | (with_reducible refine LeO.ite ?_ ?_)
      | (with_reducible refine LeO.bind ?_ (fun _ => ?_))
      | exact ih0 _
      | exact ih1 _ _
      | exact dname_Common.mono _ _ _
      | exact dname_Compare.mono _ _ _
      | exact dname_Length.mono _ _
      | exact dname_Parse.mono _ _ _
      | exact dname_Replace.mono _ _ _ _
      | exact dname_Star.mono _ _
      | exact dname_Under.mono _ _ _
      | exact dname_Valid.mono _ _
      | exact LeO.none _
      | refine LeO.ite ?_ ?_
      | refine LeO.bind ?_ (fun _ => ?_)
theorem ddilaw01_awake.mono : ∀ k, LeO (ddilaw01_awake.f k ) (ddilaw01_awake.f (k + 1) ) := by
  intro  k
  obtain ⟨ih0, ih1⟩ := ddilaw01_awake.mono_l k
  unfold ddilaw01_awake.f
  repeat' first
      | (with_reducible exact ih0 _)
      | (with_reducible exact ih1 _ _)
      | (with_reducible exact dname_Common.mono _ _ _)
      | (with_reducible exact dname_Compare.mono _ _ _)
      | (with_reducible exact dname_Length.mono _ _)
      | (with_reducible exact dname_Parse.mono _ _ _)
      | (with_reducible exact dname_Replace.mono _ _ _ _)
      | (with_reducible exact dname_Star.mono _ _)
      | (with_reducible exact dname_Under.mono _ _ _)
      | (with_reducible exact dname_Valid.mono _ _)
      | (with_reducible exact LeO.refl _)
      | (with_reducible exact LeO.none _)
      | (with_reducible refine LeO.ite ?_ ?_)
      | (with_reducible refine LeO.bind ?_ (fun _ => ?_))
      | exact ih0 _
      | exact ih1 _ _
      | exact dname_Common.mono _ _ _
      | exact dname_Compare.mono _ _ _
      | exact dname_Length.mono _ _
      | exact dname_Parse.mono _ _ _
      | exact dname_Replace.mono _ _ _ _
      | exact dname_Star.mono _ _
      | exact dname_Under.mono _ _ _
      | exact dname_Valid.mono _ _
      | exact LeO.none _
      | refine LeO.ite ?_ ?_
      | refine LeO.bind ?_ (fun _ => ?_)
def ddilaw01_awake.T11 : Bool × List (List Nat × List Nat) := (true, [([], []), ([], []), ([1], [1]), ([0, 2], [0, 2]), ([3], [3]), ([], []), ([], []), ([5, 6], [5, 6]), ([7], [7]), ([4, 8], [4, 8]), ([9], [9])])
def ddilaw01_awake.B11 : List Nat := [0, 0, 2, 7, 15, 0, 0, 96, 224, 511, 1023]
theorem ddilaw01_awake.tab11 : rtab .any (opsOf Tryd.f17 11) = ddilaw01_awake.T11 := by kernel_rfl
theorem ddilaw01_awake.bits11 : waitsOk ddilaw01_awake.T11.2 ddilaw01_awake.B11 = true := by kernel_rfl
set_option maxHeartbeats 8000000 in
set_option maxRecDepth 100000 in
theorem ddilaw01_awake.calls (k : Nat)  (r : Bool) (w : World) (h : ddilaw01_awake.f k  = some r) :
    Calls Tryd.prog 17 #[] w fun e w' => e = .returned (.bool r) ∧ Below w.heap.size w w' := by
  have HB := Aside0.mk (Below.refl w.heap.size w)
  have H : ((dname_Parse.f k (⟨#[87, 87, 87]⟩ : ByteArray) (⟨#[101, 120, 97, 109, 112, 108, 101, 46]⟩ : ByteArray)).bind fun bt178 => ((dname_Parse.f k (⟨#[97, 46, 42]⟩ : ByteArray) (⟨#[101, 120, 97, 109, 112, 108, 101, 46]⟩ : ByteArray)).bind fun bt180 => ((dname_Replace.f k (⟨#[97, 46, 98, 46, 120, 46]⟩ : ByteArray) (⟨#[120, 46]⟩ : ByteArray) (⟨#[121, 46, 122, 46]⟩ : ByteArray)).bind fun bt182 => ((dname_Star.f k (⟨#[46]⟩ : ByteArray)).bind fun bt184 => (if bt178.1.toList = ([119, 119, 119, 46, 101, 120, 97, 109, 112, 108, 101, 46] : List UInt8) then (if bt178.2 = 0 then (if bt180.2 = 2 then (if bt182.1.toList = ([97, 46, 98, 46, 121, 46, 122, 46] : List UInt8) then (if bt182.2 = 0 then (if bt184.1.toList = ([42, 46] : List UInt8) then (ddilaw01_awake.j0 k (!bt184.2)) else (ddilaw01_awake.j0 k true)) else (ddilaw01_awake.j0 k true)) else (ddilaw01_awake.j0 k true)) else (ddilaw01_awake.j0 k true)) else (ddilaw01_awake.j0 k true)) else (ddilaw01_awake.j0 k true)))))) = some r := h
  clear h
  replace H := Option.bind_eq_some_iff.mp H
  obtain ⟨⟨t178, t179⟩, A10, H⟩ := H
  replace H : ((dname_Parse.f k (⟨#[97, 46, 42]⟩ : ByteArray) (⟨#[101, 120, 97, 109, 112, 108, 101, 46]⟩ : ByteArray)).bind fun bt180 => ((dname_Replace.f k (⟨#[97, 46, 98, 46, 120, 46]⟩ : ByteArray) (⟨#[120, 46]⟩ : ByteArray) (⟨#[121, 46, 122, 46]⟩ : ByteArray)).bind fun bt182 => ((dname_Star.f k (⟨#[46]⟩ : ByteArray)).bind fun bt184 => (if t178.toList = ([119, 119, 119, 46, 101, 120, 97, 109, 112, 108, 101, 46] : List UInt8) then (if t179 = 0 then (if bt180.2 = 2 then (if bt182.1.toList = ([97, 46, 98, 46, 121, 46, 122, 46] : List UInt8) then (if bt182.2 = 0 then (if bt184.1.toList = ([42, 46] : List UInt8) then (ddilaw01_awake.j0 k (!bt184.2)) else (ddilaw01_awake.j0 k true)) else (ddilaw01_awake.j0 k true)) else (ddilaw01_awake.j0 k true)) else (ddilaw01_awake.j0 k true)) else (ddilaw01_awake.j0 k true)) else (ddilaw01_awake.j0 k true))))) = some r := H
  have A1 := Aside0.mk A10
  clear A10
  replace H := Option.bind_eq_some_iff.mp H
  obtain ⟨⟨t180, t181⟩, A20, H⟩ := H
  replace H : ((dname_Replace.f k (⟨#[97, 46, 98, 46, 120, 46]⟩ : ByteArray) (⟨#[120, 46]⟩ : ByteArray) (⟨#[121, 46, 122, 46]⟩ : ByteArray)).bind fun bt182 => ((dname_Star.f k (⟨#[46]⟩ : ByteArray)).bind fun bt184 => (if t178.toList = ([119, 119, 119, 46, 101, 120, 97, 109, 112, 108, 101, 46] : List UInt8) then (if t179 = 0 then (if t181 = 2 then (if bt182.1.toList = ([97, 46, 98, 46, 121, 46, 122, 46] : List UInt8) then (if bt182.2 = 0 then (if bt184.1.toList = ([42, 46] : List UInt8) then (ddilaw01_awake.j0 k (!bt184.2)) else (ddilaw01_awake.j0 k true)) else (ddilaw01_awake.j0 k true)) else (ddilaw01_awake.j0 k true)) else (ddilaw01_awake.j0 k true)) else (ddilaw01_awake.j0 k true)) else (ddilaw01_awake.j0 k true)))) = some r := H
  have A2 := Aside0.mk A20
  clear A20
  replace H := Option.bind_eq_some_iff.mp H
  obtain ⟨⟨t182, t183⟩, A30, H⟩ := H
  replace H : ((dname_Star.f k (⟨#[46]⟩ : ByteArray)).bind fun bt184 => (if t178.toList = ([119, 119, 119, 46, 101, 120, 97, 109, 112, 108, 101, 46] : List UInt8) then (if t179 = 0 then (if t181 = 2 then (if t182.toList = ([97, 46, 98, 46, 121, 46, 122, 46] : List UInt8) then (if t183 = 0 then (if bt184.1.toList = ([42, 46] : List UInt8) then (ddilaw01_awake.j0 k (!bt184.2)) else (ddilaw01_awake.j0 k true)) else (ddilaw01_awake.j0 k true)) else (ddilaw01_awake.j0 k true)) else (ddilaw01_awake.j0 k true)) else (ddilaw01_awake.j0 k true)) else (ddilaw01_awake.j0 k true))) = some r := H
  have A3 := Aside0.mk A30
  clear A30
  replace H := Option.bind_eq_some_iff.mp H
  obtain ⟨⟨t184, t185⟩, A40, H⟩ := H
  replace H : (if t178.toList = ([119, 119, 119, 46, 101, 120, 97, 109, 112, 108, 101, 46] : List UInt8) then (if t179 = 0 then (if t181 = 2 then (if t182.toList = ([97, 46, 98, 46, 121, 46, 122, 46] : List UInt8) then (if t183 = 0 then (if t184.toList = ([42, 46] : List UInt8) then (ddilaw01_awake.j0 k (!t185)) else (ddilaw01_awake.j0 k true)) else (ddilaw01_awake.j0 k true)) else (ddilaw01_awake.j0 k true)) else (ddilaw01_awake.j0 k true)) else (ddilaw01_awake.j0 k true)) else (ddilaw01_awake.j0 k true)) = some r := H
  have A4 := Aside0.mk A40
  clear A40
  have HC5 := Aside0.mk H
  clear H
  go_enter Tryd.func17, Tryd.ntmps17
  go_upto_region 5 with (first | ((with_reducible refine gate_callee (f := 13) rfl ?_); refine goesL_ (some 12) rfl rfl Tryd.func13 (by kernel_rfl) rfl #[.string (⟨#[87, 87, 87]⟩ : ByteArray), .string (⟨#[101, 120, 97, 109, 112, 108, 101, 46]⟩ : ByteArray)] rfl (by (try simp only [List.map_toArray, List.map_cons, List.map_nil]); first | done | rfl | (simp only [List.length_drop, List.length_take]; rfl)) ?_; (with_reducible refine (dname_Parse.calls k (⟨#[87, 87, 87]⟩ : ByteArray) (⟨#[101, 120, 97, 109, 112, 108, 101, 46]⟩ : ByteArray) t178 t179 _ A1.out).mono ?_); rintro e w6 ⟨rfl, hb⟩; refine ⟨_, rfl, ?_⟩; have n0_ := Aside0.mk (below_step (by repeat (first | (with_reducible first | exact HB.out | apply below_alloc | apply pw_below_drewN | apply below_drew1) | exact HB.out)) hb); clear HB; have HB := n0_; clear n0_; (try clear hb); (try clear hb2); (try clear hk); (try clear hi)) | ((with_reducible refine gate_callee (f := 13) rfl ?_); refine goesL_ (some 16) rfl rfl Tryd.func13 (by kernel_rfl) rfl #[.string (⟨#[97, 46, 42]⟩ : ByteArray), .string (⟨#[101, 120, 97, 109, 112, 108, 101, 46]⟩ : ByteArray)] rfl (by (try simp only [List.map_toArray, List.map_cons, List.map_nil]); first | done | rfl | (simp only [List.length_drop, List.length_take]; rfl)) ?_; (with_reducible refine (dname_Parse.calls k (⟨#[97, 46, 42]⟩ : ByteArray) (⟨#[101, 120, 97, 109, 112, 108, 101, 46]⟩ : ByteArray) t180 t181 _ A2.out).mono ?_); rintro e w7 ⟨rfl, hb⟩; refine ⟨_, rfl, ?_⟩; have n0_ := Aside0.mk (below_step (by repeat (first | (with_reducible first | exact HB.out | apply below_alloc | apply pw_below_drewN | apply below_drew1) | exact HB.out)) hb); clear HB; have HB := n0_; clear n0_; (try clear hb); (try clear hb2); (try clear hk); (try clear hi)) | ((with_reducible refine gate_callee (f := 33) rfl ?_); refine goesL_ (some 20) rfl rfl Tryd.func33 (by kernel_rfl) rfl #[.string (⟨#[97, 46, 98, 46, 120, 46]⟩ : ByteArray), .string (⟨#[120, 46]⟩ : ByteArray), .string (⟨#[121, 46, 122, 46]⟩ : ByteArray)] rfl (by (try simp only [List.map_toArray, List.map_cons, List.map_nil]); first | done | rfl | (simp only [List.length_drop, List.length_take]; rfl)) ?_; (with_reducible refine (dname_Replace.calls k (⟨#[97, 46, 98, 46, 120, 46]⟩ : ByteArray) (⟨#[120, 46]⟩ : ByteArray) (⟨#[121, 46, 122, 46]⟩ : ByteArray) t182 t183 _ A3.out).mono ?_); rintro e w8 ⟨rfl, hb⟩; refine ⟨_, rfl, ?_⟩; have n0_ := Aside0.mk (below_step (by repeat (first | (with_reducible first | exact HB.out | apply below_alloc | apply pw_below_drewN | apply below_drew1) | exact HB.out)) hb); clear HB; have HB := n0_; clear n0_; (try clear hb); (try clear hb2); (try clear hk); (try clear hi)) | ((with_reducible refine gate_callee (f := 20) rfl ?_); refine goesL_ (some 24) rfl rfl Tryd.func20 (by kernel_rfl) rfl #[.string (⟨#[46]⟩ : ByteArray)] rfl (by (try simp only [List.map_toArray, List.map_cons, List.map_nil]); first | done | rfl | (simp only [List.length_drop, List.length_take]; rfl)) ?_; (with_reducible refine (dname_Star.calls k (⟨#[46]⟩ : ByteArray) t184 t185 _ A4.out).mono ?_); rintro e w9 ⟨rfl, hb⟩; refine ⟨_, rfl, ?_⟩; have n0_ := Aside0.mk (below_step (by repeat (first | (with_reducible first | exact HB.out | apply below_alloc | apply pw_below_drewN | apply below_drew1) | exact HB.out)) hb); clear HB; have HB := n0_; clear n0_; (try clear hb); (try clear hb2); (try clear hk); (try clear hi)))
  (try simp only [Act.put, List.setIfInBounds_toArray, List.set_cons_zero, List.set_cons_succ])
  go_cut [52] (fun v52 wc => ∃ (kq : Nat) (x52_4 : Bool), v52 = .bool x52_4 ∧ Aside0 (ddilaw01_awake.j0 kq x52_4 = some r) ∧ Aside0 (kq ≤ k) ∧ Aside0 (Below w.heap.size w wc))
  case first =>
    have H := HC5.out
    clear HC5
    by_cases c10 : t178.toList = ([119, 119, 119, 46, 101, 120, 97, 109, 112, 108, 101, 46] : List UInt8)
    · rw [if_pos c10] at H
      have c10b0 : (t178.toList == ([119, 119, 119, 46, 101, 120, 97, 109, 112, 108, 101, 46] : List UInt8)) = true := beq_iff_eq.mpr c10
      have c10b1 : (t178.toList != ([119, 119, 119, 46, 101, 120, 97, 109, 112, 108, 101, 46] : List UInt8)) = false := bne_eq_false_iff_eq.mpr c10
      clear c10
      (first | rw [c10b0] | (simp only [i64_w, i32_w]; rw [c10b0]) | skip)
      by_cases c11 : t179 = 0
      · rw [if_pos c11] at H
        have c11b0 : (t179 == 0) = true := beq_iff_eq.mpr c11
        have c11b1 : (t179 != 0) = false := bne_eq_false_iff_eq.mpr c11
        clear c11
        by_cases c12 : t181 = 2
        · rw [if_pos c12] at H
          have c12b0 : (t181 == 2) = true := beq_iff_eq.mpr c12
          have c12b1 : (t181 != 2) = false := bne_eq_false_iff_eq.mpr c12
          clear c12
          by_cases c13 : t182.toList = ([97, 46, 98, 46, 121, 46, 122, 46] : List UInt8)
          · rw [if_pos c13] at H
            have c13b0 : (t182.toList == ([97, 46, 98, 46, 121, 46, 122, 46] : List UInt8)) = true := beq_iff_eq.mpr c13
            have c13b1 : (t182.toList != ([97, 46, 98, 46, 121, 46, 122, 46] : List UInt8)) = false := bne_eq_false_iff_eq.mpr c13
            clear c13
            by_cases c14 : t183 = 0
            · rw [if_pos c14] at H
              have c14b0 : (t183 == 0) = true := beq_iff_eq.mpr c14
              have c14b1 : (t183 != 0) = false := bne_eq_false_iff_eq.mpr c14
              clear c14
              by_cases c15 : t184.toList = ([42, 46] : List UInt8)
              · rw [if_pos c15] at H
                have c15b0 : (t184.toList == ([42, 46] : List UInt8)) = true := beq_iff_eq.mpr c15
                have c15b1 : (t184.toList != ([42, 46] : List UInt8)) = false := bne_eq_false_iff_eq.mpr c15
                clear c15
                have H' := Aside0.mk H
                clear H
                go_wp2
                go_meet
                case rel => exact ⟨_, (!t185), (by first | rfl | (simp; done) | (simp [*]; done)), H', ⟨by first | omega | exact Nat.le_refl _⟩, ⟨by repeat (first | (with_reducible first | exact HB.out | apply below_alloc | apply pw_below_drewN | apply below_drew1) | exact HB.out)⟩⟩
              · rw [if_neg c15] at H
                have c15b0 : (t184.toList == ([42, 46] : List UInt8)) = false := beq_eq_false_iff_ne.mpr c15
                have c15b1 : (t184.toList != ([42, 46] : List UInt8)) = true := bne_iff_ne.mpr c15
                have H' := Aside0.mk H
                clear H
                go_wp2
                go_meet
                case rel => exact ⟨_, (true), (by first | rfl | (simp; done) | (simp [*]; done)), H', ⟨by first | omega | exact Nat.le_refl _⟩, ⟨by repeat (first | (with_reducible first | exact HB.out | apply below_alloc | apply pw_below_drewN | apply below_drew1) | exact HB.out)⟩⟩
            · rw [if_neg c14] at H
              have c14b0 : (t183 == 0) = false := beq_eq_false_iff_ne.mpr c14
              have c14b1 : (t183 != 0) = true := bne_iff_ne.mpr c14
              have H' := Aside0.mk H
              clear H
              go_wp2
              go_meet
              case rel => exact ⟨_, (true), (by first | rfl | (simp; done) | (simp [*]; done)), H', ⟨by first | omega | exact Nat.le_refl _⟩, ⟨by repeat (first | (with_reducible first | exact HB.out | apply below_alloc | apply pw_below_drewN | apply below_drew1) | exact HB.out)⟩⟩
          · rw [if_neg c13] at H
            have c13b0 : (t182.toList == ([97, 46, 98, 46, 121, 46, 122, 46] : List UInt8)) = false := beq_eq_false_iff_ne.mpr c13
            have c13b1 : (t182.toList != ([97, 46, 98, 46, 121, 46, 122, 46] : List UInt8)) = true := bne_iff_ne.mpr c13
            have H' := Aside0.mk H
            clear H
            go_wp2
            go_meet
            case rel => exact ⟨_, (true), (by first | rfl | (simp; done) | (simp [*]; done)), H', ⟨by first | omega | exact Nat.le_refl _⟩, ⟨by repeat (first | (with_reducible first | exact HB.out | apply below_alloc | apply pw_below_drewN | apply below_drew1) | exact HB.out)⟩⟩
        · rw [if_neg c12] at H
          have c12b0 : (t181 == 2) = false := beq_eq_false_iff_ne.mpr c12
          have c12b1 : (t181 != 2) = true := bne_iff_ne.mpr c12
          have H' := Aside0.mk H
          clear H
          go_wp2
          go_meet
          case rel => exact ⟨_, (true), (by first | rfl | (simp; done) | (simp [*]; done)), H', ⟨by first | omega | exact Nat.le_refl _⟩, ⟨by repeat (first | (with_reducible first | exact HB.out | apply below_alloc | apply pw_below_drewN | apply below_drew1) | exact HB.out)⟩⟩
      · rw [if_neg c11] at H
        have c11b0 : (t179 == 0) = false := beq_eq_false_iff_ne.mpr c11
        have c11b1 : (t179 != 0) = true := bne_iff_ne.mpr c11
        have H' := Aside0.mk H
        clear H
        go_wp2
        go_meet
        case rel => exact ⟨_, (true), (by first | rfl | (simp; done) | (simp [*]; done)), H', ⟨by first | omega | exact Nat.le_refl _⟩, ⟨by repeat (first | (with_reducible first | exact HB.out | apply below_alloc | apply pw_below_drewN | apply below_drew1) | exact HB.out)⟩⟩
    · rw [if_neg c10] at H
      have c10b0 : (t178.toList == ([119, 119, 119, 46, 101, 120, 97, 109, 112, 108, 101, 46] : List UInt8)) = false := beq_eq_false_iff_ne.mpr c10
      have c10b1 : (t178.toList != ([119, 119, 119, 46, 101, 120, 97, 109, 112, 108, 101, 46] : List UInt8)) = true := bne_iff_ne.mpr c10
      (first | rw [c10b0] | (simp only [i64_w, i32_w]; rw [c10b0]) | skip)
      have H' := Aside0.mk H
      clear H
      go_wp2
      go_meet
      case rel => exact ⟨_, (true), (by first | rfl | (simp; done) | (simp [*]; done)), H', ⟨by first | omega | exact Nat.le_refl _⟩, ⟨by repeat (first | (with_reducible first | exact HB.out | apply below_alloc | apply pw_below_drewN | apply below_drew1) | exact HB.out)⟩⟩
  case rest =>
    clear HC5
    try clear c1
    try clear c2
    try clear p2
    try clear c3
    try clear c10
    try clear c10b0
    try clear c10b1
    try clear c11
    try clear c11b0
    try clear c11b1
    try clear c12
    try clear c12b0
    try clear c12b1
    try clear c13
    try clear c13b0
    try clear c13b1
    try clear c14
    try clear c14b0
    try clear c14b1
    try clear c15
    try clear c15b0
    try clear c15b1
    obtain ⟨kq, x52_4, rfl, HA, HJ4, HB⟩ := hcut
    cases kq with
    | zero => exact absurd HA.out (by simp [ddilaw01_awake.j0])
    | succ kj4 =>
      have H := HA.out
      clear HA
      simp only [ddilaw01_awake.j0] at H
      by_cases c16 : x52_4 = true
      · subst c16
        have H1 : (some false) = some r := by rw [if_pos rfl] at H; exact H
        clear H
        have H := H1
        clear H1
        obtain rfl := Option.some.inj H
        go_wp2
        go_ret
        exact ⟨by first | rfl | (simp [errW_none, errW_some] <;> rfl) | (simp [*, errW_none, errW_some] <;> rfl), by repeat (first | (with_reducible first | exact HB.out | apply below_alloc | apply pw_below_drewN | apply below_drew1) | exact HB.out)⟩
      · replace c16 := Bool.eq_false_iff.mpr c16
        subst c16
        have H1 : (ddilaw01_awake.l0 kj4 (([(⟨#[46]⟩ : ByteArray), (⟨#[101, 120, 97, 109, 112, 108, 101, 46]⟩ : ByteArray), (⟨#[42, 46, 101, 120, 97, 109, 112, 108, 101, 46]⟩ : ByteArray), (⟨#[97, 46, 101, 120, 97, 109, 112, 108, 101, 46]⟩ : ByteArray), (⟨#[122, 46, 97, 46, 101, 120, 97, 109, 112, 108, 101, 46]⟩ : ByteArray), (⟨#[98, 46, 101, 120, 97, 109, 112, 108, 101, 46]⟩ : ByteArray), (⟨#[]⟩ : ByteArray), (⟨#[65, 46]⟩ : ByteArray)] : List ByteArray)) 1) = some r := by rw [if_neg (show ¬ (false = true) by decide)] at H; exact H
        clear H
        have H := H1
        clear H1
        obtain ⟨y186, hy186⟩ : ∃ y_ : List ByteArray, y_ = (([(⟨#[46]⟩ : ByteArray), (⟨#[101, 120, 97, 109, 112, 108, 101, 46]⟩ : ByteArray), (⟨#[42, 46, 101, 120, 97, 109, 112, 108, 101, 46]⟩ : ByteArray), (⟨#[97, 46, 101, 120, 97, 109, 112, 108, 101, 46]⟩ : ByteArray), (⟨#[122, 46, 97, 46, 101, 120, 97, 109, 112, 108, 101, 46]⟩ : ByteArray), (⟨#[98, 46, 101, 120, 97, 109, 112, 108, 101, 46]⟩ : ByteArray), (⟨#[]⟩ : ByteArray), (⟨#[65, 46]⟩ : ByteArray)] : List ByteArray)) := ⟨_, rfl⟩
        replace H : (ddilaw01_awake.l0 kj4 y186 1) = some r := by first | (rw [hy186]; with_reducible exact H) | (have H2_ := (Option.bind_some _ _).symm.trans H; rw [hy186]; with_reducible exact H2_) | (have H2_ := (Option.bind_some _ _).symm.trans H; with_reducible exact H2_) | with_reducible exact H | (rw [hy186]; exact H) | exact H
        have Ny186 := Aside0.mk hy186
        clear hy186
        have H' := Aside0.mk H
        clear H
        go_wp2_with (first | ((with_reducible refine gate_dst (N := 53) rfl ?_); refine Kd.R_lit Kd.string _ 9 ?hg (N := 53) ?hd (xs := ([(⟨#[46]⟩ : ByteArray), (⟨#[101, 120, 97, 109, 112, 108, 101, 46]⟩ : ByteArray), (⟨#[42, 46, 101, 120, 97, 109, 112, 108, 101, 46]⟩ : ByteArray), (⟨#[97, 46, 101, 120, 97, 109, 112, 108, 101, 46]⟩ : ByteArray), (⟨#[122, 46, 97, 46, 101, 120, 97, 109, 112, 108, 101, 46]⟩ : ByteArray), (⟨#[98, 46, 101, 120, 97, 109, 112, 108, 101, 46]⟩ : ByteArray), (⟨#[]⟩ : ByteArray), (⟨#[65, 46]⟩ : ByteArray)] : List ByteArray)) (inner := [.string (⟨#[46]⟩ : ByteArray), .string (⟨#[101, 120, 97, 109, 112, 108, 101, 46]⟩ : ByteArray), .string (⟨#[42, 46, 101, 120, 97, 109, 112, 108, 101, 46]⟩ : ByteArray), .string (⟨#[97, 46, 101, 120, 97, 109, 112, 108, 101, 46]⟩ : ByteArray), .string (⟨#[122, 46, 97, 46, 101, 120, 97, 109, 112, 108, 101, 46]⟩ : ByteArray), .string (⟨#[98, 46, 101, 120, 97, 109, 112, 108, 101, 46]⟩ : ByteArray), .string (⟨#[]⟩ : ByteArray), .string (⟨#[65, 46]⟩ : ByteArray)]) (ok := fun _ => True) (okp := fun _ => True) ?hr ?hp (fun _ hk => hk) trivial (Below.refl _ _) (Nat.le_refl _) (by simp) ?_; (case hd => rfl); (case hg => rfl); (case hr => first | (go_simp; done) | (go_simp; rfl)); (case hp => exact (Reps.one (show Kd.M Kd.string _ _ _ (⟨#[46]⟩ : ByteArray) [.string (⟨#[46]⟩ : ByteArray)] from rfl) (Reps.one (show Kd.M Kd.string _ _ _ (⟨#[101, 120, 97, 109, 112, 108, 101, 46]⟩ : ByteArray) [.string (⟨#[101, 120, 97, 109, 112, 108, 101, 46]⟩ : ByteArray)] from rfl) (Reps.one (show Kd.M Kd.string _ _ _ (⟨#[42, 46, 101, 120, 97, 109, 112, 108, 101, 46]⟩ : ByteArray) [.string (⟨#[42, 46, 101, 120, 97, 109, 112, 108, 101, 46]⟩ : ByteArray)] from rfl) (Reps.one (show Kd.M Kd.string _ _ _ (⟨#[97, 46, 101, 120, 97, 109, 112, 108, 101, 46]⟩ : ByteArray) [.string (⟨#[97, 46, 101, 120, 97, 109, 112, 108, 101, 46]⟩ : ByteArray)] from rfl) (Reps.one (show Kd.M Kd.string _ _ _ (⟨#[122, 46, 97, 46, 101, 120, 97, 109, 112, 108, 101, 46]⟩ : ByteArray) [.string (⟨#[122, 46, 97, 46, 101, 120, 97, 109, 112, 108, 101, 46]⟩ : ByteArray)] from rfl) (Reps.one (show Kd.M Kd.string _ _ _ (⟨#[98, 46, 101, 120, 97, 109, 112, 108, 101, 46]⟩ : ByteArray) [.string (⟨#[98, 46, 101, 120, 97, 109, 112, 108, 101, 46]⟩ : ByteArray)] from rfl) (Reps.one (show Kd.M Kd.string _ _ _ (⟨#[]⟩ : ByteArray) [.string (⟨#[]⟩ : ByteArray)] from rfl) (Reps.one (show Kd.M Kd.string _ _ _ (⟨#[65, 46]⟩ : ByteArray) [.string (⟨#[65, 46]⟩ : ByteArray)] from rfl) (Reps.none _ _)))))))))); intro v187 w17 ho18 hb hg_ hnew_; clear hg_ hnew_; (first | rw [← Ny186.out] at ho18 | (simp only [Int.reduceToNat] at ho18; rw [← Ny186.out] at ho18)); have n0_ := Aside0.mk (Kd.R_lower ho18 (below_size (by repeat (first | (with_reducible first | exact HB.out | apply below_alloc | apply pw_below_drewN | apply below_drew1) | exact HB.out)))); have n1_ := Aside0.mk (below_step (by repeat (first | (with_reducible first | exact HB.out | apply below_alloc | apply pw_below_drewN | apply below_drew1) | exact HB.out)) hb); clear HB; have HO188 := n0_; have HB := n1_; clear n0_ n1_; clear hb ho18))
        go_loopg [10] kj4 (fun kq v10 w' => ∃ (x10_2 : Int), v10 = .int .i64 x10_2 ∧ Aside0 (ddilaw01_awake.l0 kq y186 x10_2 = some r) ∧ Aside0 (kq ≤ kj4) ∧ Aside0 (Kd.R Kd.string 9 w' w.heap.size (fun _ => True) v187 y186) ∧ Aside0 (Below w.heap.size w w'))
        case atStart => exact ⟨(1), (by first | rfl | (simp; done) | (simp [*]; done)), H', ⟨Nat.le_refl _⟩, ⟨by (with_reducible repeat (first | apply Kd.R_alloc | apply Kd.R_drewN | apply Kd.R_drew)); exact HO188.out⟩, ⟨by repeat (first | (with_reducible first | exact HB.out | apply below_alloc | apply pw_below_drewN | apply below_drew1) | exact HB.out)⟩⟩
        case round =>
          clear H'
          try clear c1
          try clear c2
          try clear p2
          try clear c3
          try clear c10
          try clear c10b0
          try clear c10b1
          try clear c11
          try clear c11b0
          try clear c11b1
          try clear c12
          try clear c12b0
          try clear c12b1
          try clear c13
          try clear c13b0
          try clear c13b1
          try clear c14
          try clear c14b0
          try clear c14b1
          try clear c15
          try clear c15b0
          try clear c15b1
          try clear c16
          try clear c17
          try clear p2
          obtain ⟨x10_2, rfl, HA, HK2, HO_9, HB⟩ := hrel
          cases gk with
          | zero => exact absurd HA.out (by simp [ddilaw01_awake.l0])
          | succ k2 =>
            have H := HA.out
            clear HA
            simp only [ddilaw01_awake.l0] at H
            by_cases c19 : x10_2 < (y186.length : Int)
            · rw [if_pos c19] at H
              have c19b0 : decide (x10_2 < (y186.length : Int)) = true := decide_eq_true c19
              clear c19
              obtain ⟨ji20, hji20⟩ : ∃ j_ : Int, (wrap64 (x10_2 - 1)) = j_ := ⟨_, rfl⟩
              replace H : (if 0 ≤ (ji20) then (if (ji20) < (y186.length : Int) then (if 0 ≤ x10_2 then ((dname_Compare.f k2 (rdOf ByteArray.empty y186 (ji20)) (rdOf ByteArray.empty y186 x10_2)).bind fun t191 => (if t191 = (-1) then (ddilaw01_awake.l0 k2 y186 (wrap64 (x10_2 + 1))) else (some false))) else (none)) else (none)) else (none)) = some r := by first | (rw [hji20] at H; exact H) | (simp only [hji20] at H ⊢; exact H)
              have hji20w : (IntKind.i64.wrap (x10_2 - 1)) = ji20 := (i64_w _).trans hji20
              by_cases c21 : 0 ≤ (ji20)
              · rw [if_pos c21] at H
                have c21b0 : decide (0 ≤ (ji20)) = true := decide_eq_true c21
                clear c21
                by_cases c22 : (ji20) < (y186.length : Int)
                · rw [if_pos c22] at H
                  have c22b0 : decide ((ji20) < (y186.length : Int)) = true := decide_eq_true c22
                  clear c22
                  by_cases c23 : 0 ≤ x10_2
                  · rw [if_pos c23] at H
                    have c23b0 : decide (0 ≤ x10_2) = true := decide_eq_true c23
                    clear c23
                    replace H := Option.bind_eq_some_iff.mp H
                    obtain ⟨t191, A240, H⟩ := H
                    replace H : (if t191 = (-1) then (ddilaw01_awake.l0 k2 y186 (wrap64 (x10_2 + 1))) else (some false)) = some r := H
                    have A24 := Aside0.mk A240
                    clear A240
                    by_cases c25 : t191 = (-1)
                    · rw [if_pos c25] at H
                      have c25b0 : (t191 == (-1)) = true := beq_iff_eq.mpr c25
                      have c25b1 : (t191 != (-1)) = false := bne_eq_false_iff_eq.mpr c25
                      clear c25
                      have H' := Aside0.mk H
                      clear H
                      obtain ⟨Ao26, co26, eo26⟩ := Kd.R_slice HO_9.out
                      subst eo26
                      try go_wp2
                      have n0_ := Aside0.mk (Kd.R_drew HO_9.out)
                      have n1_ := Aside0.mk (below_drew1 HB.out)
                      clear HO_9
                      clear HB
                      have HO_9 := n0_
                      have HB := n1_
                      clear n0_ n1_
                      have p189 : 0 ≤ ((ji20) : Int) := of_decide_eq_true (by first | (with_reducible assumption) | assumption)
                      have q189 : (ji20) < (y186.length : Int) := of_decide_eq_true (by first | (with_reducible assumption) | assumption)
                      obtain ⟨ad189, e189, hx189_0⟩ := Kd.at_string (Kd.R_reads' HO_9.out).2.2 (ji20) p189 q189
                      cases e189
                      replace p189 := eq_true p189
                      replace q189 := eq_true q189
                      have p190 : 0 ≤ (x10_2 : Int) := of_decide_eq_true (by first | (with_reducible assumption) | assumption)
                      have q190 : x10_2 < (y186.length : Int) := of_decide_eq_true (by first | (with_reducible assumption) | assumption)
                      obtain ⟨ad190, e190, hx190_0⟩ := Kd.at_string (Kd.R_reads' HO_9.out).2.2 x10_2 p190 q190
                      obtain rfl : ad189 = ad190 := (by injection e190)
                      replace p190 := eq_true p190
                      replace q190 := eq_true q190
                      refine start_ (n := 11) (S := fun w' => w'.cell? (ad189.add ((ji20)).toNat) = some (.string (rdOf ByteArray.empty y186 (ji20))) ∧ w'.cell? (ad189.add (x10_2).toNat) = some (.string (rdOf ByteArray.empty y186 x10_2))) (ds := []) #[false, false, false, false, false, false, false, false, false, false, false] (by kernel_rfl) rfl rfl ⟨hx189_0, hx190_0⟩ (fun hHeld => ?_); refine with_tabW ddilaw01_awake.tab11 ddilaw01_awake.bits11 (fun HT_ HW_ => ?_)
                      generalize wr.drew = w27 at HO_9 HB hx189_0 hx190_0 hHeld ⊢
                      refine pure_ (i := 0) (N := some 60) (v := ?_) (a' := ?_) #[true, false, false, false, false, false, false, false, false, false, false] rfl rfl (any_of HT_.out (by kernel_rfl)) (fun _ _ _ h => h) (Or.inl ⟨by rfl, ?_⟩) ?_ ?_
                      rotate_left
                      · intro w'
                        go_simp
                        with_reducible rfl
                      rotate_left
                      · simp only [Act.put, List.setIfInBounds_toArray, List.set_cons_zero, List.set_cons_succ, i64_w, i32_w]
                        rfl
                      refine pure_ (i := 1) (N := some 61) (v := ?_) (a' := ?_) #[true, true, false, false, false, false, false, false, false, false, false] rfl rfl (any_of HT_.out (by kernel_rfl)) (fun _ _ _ h => h) (Or.inl ⟨by rfl, ?_⟩) ?_ ?_
                      rotate_left
                      · intro w'
                        go_simp
                        with_reducible rfl
                      rotate_left
                      · simp only [Act.put, List.setIfInBounds_toArray, List.set_cons_zero, List.set_cons_succ, i64_w, i32_w]
                        rfl
                      refine pure_ (i := 2) (N := some 62) (v := ?_) (a' := ?_) #[true, true, true, false, false, false, false, false, false, false, false] rfl rfl (any_of HT_.out (by kernel_rfl)) (fun _ _ _ h => h) (Or.inl ⟨by rfl, ?_⟩) ?_ ?_
                      rotate_left
                      · intro w'
                        go_simp
                        with_reducible rfl
                      rotate_left
                      · simp only [Act.put, List.setIfInBounds_toArray, List.set_cons_zero, List.set_cons_succ, i64_w, i32_w]
                        rfl
                      refine pure_ (i := 3) (N := some 63) (v := ?_) (a' := ?_) #[true, true, true, true, false, false, false, false, false, false, false] rfl rfl (any_of HT_.out (by kernel_rfl)) (fun _ _ _ h => h) (Or.inl ⟨by rfl, ?_⟩) ?_ ?_
                      rotate_left
                      · intro w'
                        go_simp
                        with_reducible rfl
                      rotate_left
                      · simp only [Act.put, List.setIfInBounds_toArray, List.set_cons_zero, List.set_cons_succ, i64_w, i32_w]
                        rfl
                      refine pure_ (i := 5) (N := some 65) (v := ?_) (a' := ?_) #[true, true, true, true, false, true, false, false, false, false, false] rfl rfl (any_of HT_.out (by kernel_rfl)) (fun _ _ _ h => h) (Or.inl ⟨by rfl, ?_⟩) ?_ ?_
                      rotate_left
                      · intro w'
                        go_simp
                        with_reducible rfl
                      rotate_left
                      · simp only [Act.put, List.setIfInBounds_toArray, List.set_cons_zero, List.set_cons_succ, i64_w, i32_w]
                        rfl
                      refine pure_ (i := 6) (N := some 66) (v := ?_) (a' := ?_) #[true, true, true, true, false, true, true, false, false, false, false] rfl rfl (any_of HT_.out (by kernel_rfl)) (fun _ _ _ h => h) (Or.inl ⟨by rfl, ?_⟩) ?_ ?_
                      rotate_left
                      · intro w'
                        go_simp
                        with_reducible rfl
                      rotate_left
                      · simp only [Act.put, List.setIfInBounds_toArray, List.set_cons_zero, List.set_cons_succ, i64_w, i32_w]
                        rfl
                      refine pure_ (i := 7) (N := some 67) (v := ?_) (a' := ?_) #[true, true, true, true, false, true, true, true, false, false, false] rfl rfl (any_of HT_.out (by kernel_rfl)) (fun _ _ _ h => h) (Or.inl ⟨by rfl, ?_⟩) ?_ ?_
                      rotate_left
                      · intro w'
                        go_simp
                        with_reducible rfl
                      rotate_left
                      · simp only [Act.put, List.setIfInBounds_toArray, List.set_cons_zero, List.set_cons_succ, i64_w, i32_w]
                        rfl
                      refine take_ (i := 4) (N := some 64) (v := ?_) (a' := ?_) #[true, true, true, true, true, true, true, true, false, false, false] rfl rfl (take_ofW HT_.out HW_.out (by kernel_rfl)) (fun _ _ _ h => h) (Or.inl ⟨by rfl, ?_⟩) hHeld ?_ ?_
                      rotate_left
                      · rintro w' ⟨s0, s1⟩
                        go_simp
                        with_reducible rfl
                      rotate_left
                      · simp only [Act.put, List.setIfInBounds_toArray, List.set_cons_zero, List.set_cons_succ, i64_w, i32_w]
                        rfl
                      refine take_ (i := 8) (N := some 68) (v := ?_) (a' := ?_) #[true, true, true, true, true, true, true, true, true, false, false] rfl rfl (take_ofW HT_.out HW_.out (by kernel_rfl)) (fun _ _ _ h => h) (Or.inl ⟨by rfl, ?_⟩) hHeld ?_ ?_
                      rotate_left
                      · rintro w' ⟨s0, s1⟩
                        go_simp
                        with_reducible rfl
                      rotate_left
                      · simp only [Act.put, List.setIfInBounds_toArray, List.set_cons_zero, List.set_cons_succ, i64_w, i32_w]
                        rfl
                      refine one_ (i := 9) (N := some 69) #[true, true, true, true, true, true, true, true, true, true, false] rfl rfl (one_of HT_.out (by kernel_rfl)) (by decide) (fun K hK => ?_)
                      refine goes_ Tryd.func29 (by kernel_rfl) rfl #[.string (rdOf ByteArray.empty y186 (ji20)), .string (rdOf ByteArray.empty y186 x10_2)] (by rfl) rfl rfl (by (try simp only [List.map_toArray, List.map_cons, List.map_nil]); first | done | (simp only [hji20]; rfl) | rfl | (simp only [List.length_drop, List.length_take]; rfl)) ?_
                      with_reducible refine (dname_Compare.calls k2 (rdOf ByteArray.empty y186 (ji20)) (rdOf ByteArray.empty y186 x10_2) t191 _ A24.out).mono ?_
                      rintro e w28 ⟨rfl, hb⟩
                      have HS0_ := (hb.cell (World.block_lt_of_cell? _ _ (hHeld.1))).trans (hHeld.1)
                      have HS1_ := (hb.cell (World.block_lt_of_cell? _ _ (hHeld.2))).trans (hHeld.2)
                      refine ⟨_, rfl, ?_⟩
                      have n0_ := Aside0.mk (Kd.R_below (by (with_reducible repeat (first | apply Kd.R_alloc | apply Kd.R_drewN | apply Kd.R_drew)); exact HO_9.out) hb)
                      have n1_ := Aside0.mk (below_step (by repeat (first | (with_reducible first | exact HB.out | apply below_alloc | apply pw_below_drewN | apply below_drew1) | exact HB.out)) hb)
                      clear HO_9
                      clear HB
                      have HO_9 := n0_
                      have HB := n1_
                      clear n0_ n1_
                      (try clear hb)
                      (try clear hb2)
                      (try clear hk)
                      (try clear hi)
                      refine hK.out _ _ ⟨HS0_, HS1_⟩ (fun hHeld => ?_)
                      clear hK K
                      refine norm_ (a' := ?_) ?_ ?_
                      rotate_left
                      · show Act.put _ (some 69) _ = _
                        simp only [Act.put, List.setIfInBounds_toArray, List.set_cons_zero, List.set_cons_succ, i64_w, i32_w]
                        rfl
                      refine pure_ (i := 10) (N := some 70) (v := ?_) (a' := ?_) #[true, true, true, true, true, true, true, true, true, true, true] rfl rfl (any_of HT_.out (by kernel_rfl)) (fun _ _ _ h => h) (Or.inl ⟨by rfl, ?_⟩) ?_ ?_
                      rotate_left
                      · intro w'
                        go_simp
                        with_reducible rfl
                      rotate_left
                      · simp only [Act.put, List.setIfInBounds_toArray, List.set_cons_zero, List.set_cons_succ, i64_w, i32_w]
                        rfl
                      refine done_ (done_of HT_.out (by kernel_rfl)) ?_
                      try go_wp2
                      go_roundg k2
                      case measure => have := HJ4.out; have := HK2.out; omega
                      case rel => exact ⟨(wrap64 (x10_2 + 1)), (by first | rfl | (simp; done) | (simp [*]; done)), H', ⟨by have := HJ4.out; have := HK2.out; omega⟩, ⟨by (with_reducible repeat (first | apply Kd.R_alloc | apply Kd.R_drewN | apply Kd.R_drew)); exact HO_9.out⟩, ⟨by repeat (first | (with_reducible first | exact HB.out | apply below_alloc | apply pw_below_drewN | apply below_drew1) | exact HB.out)⟩⟩
                    · rw [if_neg c25] at H
                      have c25b0 : (t191 == (-1)) = false := beq_eq_false_iff_ne.mpr c25
                      have c25b1 : (t191 != (-1)) = true := bne_iff_ne.mpr c25
                      obtain rfl := Option.some.inj H
                      obtain ⟨Ao29, co29, eo29⟩ := Kd.R_slice HO_9.out
                      subst eo29
                      try go_wp2
                      have n0_ := Aside0.mk (Kd.R_drew HO_9.out)
                      have n1_ := Aside0.mk (below_drew1 HB.out)
                      clear HO_9
                      clear HB
                      have HO_9 := n0_
                      have HB := n1_
                      clear n0_ n1_
                      have p189 : 0 ≤ ((ji20) : Int) := of_decide_eq_true (by first | (with_reducible assumption) | assumption)
                      have q189 : (ji20) < (y186.length : Int) := of_decide_eq_true (by first | (with_reducible assumption) | assumption)
                      obtain ⟨ad189, e189, hx189_0⟩ := Kd.at_string (Kd.R_reads' HO_9.out).2.2 (ji20) p189 q189
                      cases e189
                      replace p189 := eq_true p189
                      replace q189 := eq_true q189
                      have p190 : 0 ≤ (x10_2 : Int) := of_decide_eq_true (by first | (with_reducible assumption) | assumption)
                      have q190 : x10_2 < (y186.length : Int) := of_decide_eq_true (by first | (with_reducible assumption) | assumption)
                      obtain ⟨ad190, e190, hx190_0⟩ := Kd.at_string (Kd.R_reads' HO_9.out).2.2 x10_2 p190 q190
                      obtain rfl : ad189 = ad190 := (by injection e190)
                      replace p190 := eq_true p190
                      replace q190 := eq_true q190
                      refine start_ (n := 11) (S := fun w' => w'.cell? (ad189.add ((ji20)).toNat) = some (.string (rdOf ByteArray.empty y186 (ji20))) ∧ w'.cell? (ad189.add (x10_2).toNat) = some (.string (rdOf ByteArray.empty y186 x10_2))) (ds := []) #[false, false, false, false, false, false, false, false, false, false, false] (by kernel_rfl) rfl rfl ⟨hx189_0, hx190_0⟩ (fun hHeld => ?_); refine with_tabW ddilaw01_awake.tab11 ddilaw01_awake.bits11 (fun HT_ HW_ => ?_)
                      generalize wr.drew = w30 at HO_9 HB hx189_0 hx190_0 hHeld ⊢
                      refine pure_ (i := 0) (N := some 60) (v := ?_) (a' := ?_) #[true, false, false, false, false, false, false, false, false, false, false] rfl rfl (any_of HT_.out (by kernel_rfl)) (fun _ _ _ h => h) (Or.inl ⟨by rfl, ?_⟩) ?_ ?_
                      rotate_left
                      · intro w'
                        go_simp
                        with_reducible rfl
                      rotate_left
                      · simp only [Act.put, List.setIfInBounds_toArray, List.set_cons_zero, List.set_cons_succ, i64_w, i32_w]
                        rfl
                      refine pure_ (i := 1) (N := some 61) (v := ?_) (a' := ?_) #[true, true, false, false, false, false, false, false, false, false, false] rfl rfl (any_of HT_.out (by kernel_rfl)) (fun _ _ _ h => h) (Or.inl ⟨by rfl, ?_⟩) ?_ ?_
                      rotate_left
                      · intro w'
                        go_simp
                        with_reducible rfl
                      rotate_left
                      · simp only [Act.put, List.setIfInBounds_toArray, List.set_cons_zero, List.set_cons_succ, i64_w, i32_w]
                        rfl
                      refine pure_ (i := 2) (N := some 62) (v := ?_) (a' := ?_) #[true, true, true, false, false, false, false, false, false, false, false] rfl rfl (any_of HT_.out (by kernel_rfl)) (fun _ _ _ h => h) (Or.inl ⟨by rfl, ?_⟩) ?_ ?_
                      rotate_left
                      · intro w'
                        go_simp
                        with_reducible rfl
                      rotate_left
                      · simp only [Act.put, List.setIfInBounds_toArray, List.set_cons_zero, List.set_cons_succ, i64_w, i32_w]
                        rfl
                      refine pure_ (i := 3) (N := some 63) (v := ?_) (a' := ?_) #[true, true, true, true, false, false, false, false, false, false, false] rfl rfl (any_of HT_.out (by kernel_rfl)) (fun _ _ _ h => h) (Or.inl ⟨by rfl, ?_⟩) ?_ ?_
                      rotate_left
                      · intro w'
                        go_simp
                        with_reducible rfl
                      rotate_left
                      · simp only [Act.put, List.setIfInBounds_toArray, List.set_cons_zero, List.set_cons_succ, i64_w, i32_w]
                        rfl
                      refine pure_ (i := 5) (N := some 65) (v := ?_) (a' := ?_) #[true, true, true, true, false, true, false, false, false, false, false] rfl rfl (any_of HT_.out (by kernel_rfl)) (fun _ _ _ h => h) (Or.inl ⟨by rfl, ?_⟩) ?_ ?_
                      rotate_left
                      · intro w'
                        go_simp
                        with_reducible rfl
                      rotate_left
                      · simp only [Act.put, List.setIfInBounds_toArray, List.set_cons_zero, List.set_cons_succ, i64_w, i32_w]
                        rfl
                      refine pure_ (i := 6) (N := some 66) (v := ?_) (a' := ?_) #[true, true, true, true, false, true, true, false, false, false, false] rfl rfl (any_of HT_.out (by kernel_rfl)) (fun _ _ _ h => h) (Or.inl ⟨by rfl, ?_⟩) ?_ ?_
                      rotate_left
                      · intro w'
                        go_simp
                        with_reducible rfl
                      rotate_left
                      · simp only [Act.put, List.setIfInBounds_toArray, List.set_cons_zero, List.set_cons_succ, i64_w, i32_w]
                        rfl
                      refine pure_ (i := 7) (N := some 67) (v := ?_) (a' := ?_) #[true, true, true, true, false, true, true, true, false, false, false] rfl rfl (any_of HT_.out (by kernel_rfl)) (fun _ _ _ h => h) (Or.inl ⟨by rfl, ?_⟩) ?_ ?_
                      rotate_left
                      · intro w'
                        go_simp
                        with_reducible rfl
                      rotate_left
                      · simp only [Act.put, List.setIfInBounds_toArray, List.set_cons_zero, List.set_cons_succ, i64_w, i32_w]
                        rfl
                      refine take_ (i := 4) (N := some 64) (v := ?_) (a' := ?_) #[true, true, true, true, true, true, true, true, false, false, false] rfl rfl (take_ofW HT_.out HW_.out (by kernel_rfl)) (fun _ _ _ h => h) (Or.inl ⟨by rfl, ?_⟩) hHeld ?_ ?_
                      rotate_left
                      · rintro w' ⟨s0, s1⟩
                        go_simp
                        with_reducible rfl
                      rotate_left
                      · simp only [Act.put, List.setIfInBounds_toArray, List.set_cons_zero, List.set_cons_succ, i64_w, i32_w]
                        rfl
                      refine take_ (i := 8) (N := some 68) (v := ?_) (a' := ?_) #[true, true, true, true, true, true, true, true, true, false, false] rfl rfl (take_ofW HT_.out HW_.out (by kernel_rfl)) (fun _ _ _ h => h) (Or.inl ⟨by rfl, ?_⟩) hHeld ?_ ?_
                      rotate_left
                      · rintro w' ⟨s0, s1⟩
                        go_simp
                        with_reducible rfl
                      rotate_left
                      · simp only [Act.put, List.setIfInBounds_toArray, List.set_cons_zero, List.set_cons_succ, i64_w, i32_w]
                        rfl
                      refine one_ (i := 9) (N := some 69) #[true, true, true, true, true, true, true, true, true, true, false] rfl rfl (one_of HT_.out (by kernel_rfl)) (by decide) (fun K hK => ?_)
                      refine goes_ Tryd.func29 (by kernel_rfl) rfl #[.string (rdOf ByteArray.empty y186 (ji20)), .string (rdOf ByteArray.empty y186 x10_2)] (by rfl) rfl rfl (by (try simp only [List.map_toArray, List.map_cons, List.map_nil]); first | done | (simp only [hji20]; rfl) | rfl | (simp only [List.length_drop, List.length_take]; rfl)) ?_
                      with_reducible refine (dname_Compare.calls k2 (rdOf ByteArray.empty y186 (ji20)) (rdOf ByteArray.empty y186 x10_2) t191 _ A24.out).mono ?_
                      rintro e w31 ⟨rfl, hb⟩
                      have HS0_ := (hb.cell (World.block_lt_of_cell? _ _ (hHeld.1))).trans (hHeld.1)
                      have HS1_ := (hb.cell (World.block_lt_of_cell? _ _ (hHeld.2))).trans (hHeld.2)
                      refine ⟨_, rfl, ?_⟩
                      have n0_ := Aside0.mk (Kd.R_below (by (with_reducible repeat (first | apply Kd.R_alloc | apply Kd.R_drewN | apply Kd.R_drew)); exact HO_9.out) hb)
                      have n1_ := Aside0.mk (below_step (by repeat (first | (with_reducible first | exact HB.out | apply below_alloc | apply pw_below_drewN | apply below_drew1) | exact HB.out)) hb)
                      clear HO_9
                      clear HB
                      have HO_9 := n0_
                      have HB := n1_
                      clear n0_ n1_
                      (try clear hb)
                      (try clear hb2)
                      (try clear hk)
                      (try clear hi)
                      refine hK.out _ _ ⟨HS0_, HS1_⟩ (fun hHeld => ?_)
                      clear hK K
                      refine norm_ (a' := ?_) ?_ ?_
                      rotate_left
                      · show Act.put _ (some 69) _ = _
                        simp only [Act.put, List.setIfInBounds_toArray, List.set_cons_zero, List.set_cons_succ, i64_w, i32_w]
                        rfl
                      refine pure_ (i := 10) (N := some 70) (v := ?_) (a' := ?_) #[true, true, true, true, true, true, true, true, true, true, true] rfl rfl (any_of HT_.out (by kernel_rfl)) (fun _ _ _ h => h) (Or.inl ⟨by rfl, ?_⟩) ?_ ?_
                      rotate_left
                      · intro w'
                        go_simp
                        with_reducible rfl
                      rotate_left
                      · simp only [Act.put, List.setIfInBounds_toArray, List.set_cons_zero, List.set_cons_succ, i64_w, i32_w]
                        rfl
                      refine done_ (done_of HT_.out (by kernel_rfl)) ?_
                      try go_wp2
                      go_ret
                      exact ⟨by first | rfl | (simp [errW_none, errW_some] <;> rfl) | (simp only [← hji20]; first | rfl | (simp [errW_none, errW_some] <;> rfl)) | (simp [*, errW_none, errW_some] <;> rfl), by repeat (first | (with_reducible first | exact HB.out | apply below_alloc | apply pw_below_drewN | apply below_drew1) | exact HB.out)⟩
                  · rw [if_neg c23] at H
                    exact absurd H (by simp)
                · rw [if_neg c22] at H
                  exact absurd H (by simp)
              · rw [if_neg c21] at H
                exact absurd H (by simp)
            · rw [if_neg c19] at H
              have c19b0 : decide (x10_2 < (y186.length : Int)) = false := decide_eq_false c19
              clear c19
              replace H := Option.bind_eq_some_iff.mp H
              obtain ⟨t192, A320, H⟩ := H
              replace H : (if t192 = true then ((dname_Valid.f k2 (⟨#[97, 46, 46]⟩ : ByteArray)).bind fun t193 => (if t193 = true then (some false) else ((dname_Length.f k2 (⟨#[97, 46, 101, 120, 97, 109, 112, 108, 101, 46]⟩ : ByteArray)).bind fun t194 => (if t194 = 11 then ((dname_Common.f k2 (⟨#[97, 46, 98, 46, 101, 120, 97, 109, 112, 108, 101, 46]⟩ : ByteArray) (⟨#[98, 46, 101, 120, 97, 109, 112, 108, 101, 46]⟩ : ByteArray)).bind fun t195 => (if t195.toList = ([98, 46, 101, 120, 97, 109, 112, 108, 101, 46] : List UInt8) then ((dname_Under.f k2 (⟨#[98, 97, 100, 101, 120, 97, 109, 112, 108, 101, 46]⟩ : ByteArray) (⟨#[101, 120, 97, 109, 112, 108, 101, 46]⟩ : ByteArray)).bind fun t196 => (some (!t196))) else (some false))) else (some false))))) else (some false)) = some r := H
              have A32 := Aside0.mk A320
              clear A320
              by_cases c33 : t192 = true
              · subst c33
                have H1 : ((dname_Valid.f k2 (⟨#[97, 46, 46]⟩ : ByteArray)).bind fun t193 => (if t193 = true then (some false) else ((dname_Length.f k2 (⟨#[97, 46, 101, 120, 97, 109, 112, 108, 101, 46]⟩ : ByteArray)).bind fun t194 => (if t194 = 11 then ((dname_Common.f k2 (⟨#[97, 46, 98, 46, 101, 120, 97, 109, 112, 108, 101, 46]⟩ : ByteArray) (⟨#[98, 46, 101, 120, 97, 109, 112, 108, 101, 46]⟩ : ByteArray)).bind fun t195 => (if t195.toList = ([98, 46, 101, 120, 97, 109, 112, 108, 101, 46] : List UInt8) then ((dname_Under.f k2 (⟨#[98, 97, 100, 101, 120, 97, 109, 112, 108, 101, 46]⟩ : ByteArray) (⟨#[101, 120, 97, 109, 112, 108, 101, 46]⟩ : ByteArray)).bind fun t196 => (some (!t196))) else (some false))) else (some false))))) = some r := by rw [if_pos rfl] at H; exact H
                clear H
                have H := H1
                clear H1
                replace H := Option.bind_eq_some_iff.mp H
                obtain ⟨t193, A340, H⟩ := H
                replace H : (if t193 = true then (some false) else ((dname_Length.f k2 (⟨#[97, 46, 101, 120, 97, 109, 112, 108, 101, 46]⟩ : ByteArray)).bind fun t194 => (if t194 = 11 then ((dname_Common.f k2 (⟨#[97, 46, 98, 46, 101, 120, 97, 109, 112, 108, 101, 46]⟩ : ByteArray) (⟨#[98, 46, 101, 120, 97, 109, 112, 108, 101, 46]⟩ : ByteArray)).bind fun t195 => (if t195.toList = ([98, 46, 101, 120, 97, 109, 112, 108, 101, 46] : List UInt8) then ((dname_Under.f k2 (⟨#[98, 97, 100, 101, 120, 97, 109, 112, 108, 101, 46]⟩ : ByteArray) (⟨#[101, 120, 97, 109, 112, 108, 101, 46]⟩ : ByteArray)).bind fun t196 => (some (!t196))) else (some false))) else (some false)))) = some r := H
                have A34 := Aside0.mk A340
                clear A340
                by_cases c35 : t193 = true
                · subst c35
                  have H1 : (some false) = some r := by rw [if_pos rfl] at H; exact H
                  clear H
                  have H := H1
                  clear H1
                  obtain rfl := Option.some.inj H
                  obtain ⟨Ao36, co36, eo36⟩ := Kd.R_slice HO_9.out
                  subst eo36
                  go_wp2_with (first | ((with_reducible refine gate_callee (f := 15) rfl ?_); refine goesL_ (some 71) rfl rfl Tryd.func15 (by kernel_rfl) rfl #[.string (⟨#[42, 46, 101, 120, 97, 109, 112, 108, 101, 46]⟩ : ByteArray)] rfl (by (try simp only [List.map_toArray, List.map_cons, List.map_nil]); first | done | rfl | (simp only [List.length_drop, List.length_take]; rfl)) ?_; (with_reducible refine (dname_Valid.calls k2 (⟨#[42, 46, 101, 120, 97, 109, 112, 108, 101, 46]⟩ : ByteArray) true _ A32.out).mono ?_); rintro e w37 ⟨rfl, hb⟩; refine ⟨_, rfl, ?_⟩; have n0_ := Aside0.mk (Kd.R_below (by (with_reducible repeat (first | apply Kd.R_alloc | apply Kd.R_drewN | apply Kd.R_drew)); exact HO_9.out) hb); have n1_ := Aside0.mk (below_step (by repeat (first | (with_reducible first | exact HB.out | apply below_alloc | apply pw_below_drewN | apply below_drew1) | exact HB.out)) hb); clear HO_9; clear HB; have HO_9 := n0_; have HB := n1_; clear n0_ n1_; (try clear hb); (try clear hb2); (try clear hk); (try clear hi)) | (go_at_call 15; (with_reducible refine (dname_Valid.calls k2 (⟨#[97, 46, 46]⟩ : ByteArray) true _ A34.out).mono ?_); rintro e w38 ⟨rfl, hb⟩; have n0_ := Aside0.mk (Kd.R_below (by (with_reducible repeat (first | apply Kd.R_alloc | apply Kd.R_drewN | apply Kd.R_drew)); exact HO_9.out) hb); have n1_ := Aside0.mk (below_step (by repeat (first | (with_reducible first | exact HB.out | apply below_alloc | apply pw_below_drewN | apply below_drew1) | exact HB.out)) hb); clear HO_9; clear HB; have HO_9 := n0_; have HB := n1_; clear n0_ n1_; (try clear hb); (try clear hb2); (try clear hk); (try clear hi)))
                  go_ret
                  exact ⟨by first | rfl | (simp [errW_none, errW_some] <;> rfl) | (simp [*, errW_none, errW_some] <;> rfl), by repeat (first | (with_reducible first | exact HB.out | apply below_alloc | apply pw_below_drewN | apply below_drew1) | exact HB.out)⟩
                · replace c35 := Bool.eq_false_iff.mpr c35
                  subst c35
                  have H1 : ((dname_Length.f k2 (⟨#[97, 46, 101, 120, 97, 109, 112, 108, 101, 46]⟩ : ByteArray)).bind fun t194 => (if t194 = 11 then ((dname_Common.f k2 (⟨#[97, 46, 98, 46, 101, 120, 97, 109, 112, 108, 101, 46]⟩ : ByteArray) (⟨#[98, 46, 101, 120, 97, 109, 112, 108, 101, 46]⟩ : ByteArray)).bind fun t195 => (if t195.toList = ([98, 46, 101, 120, 97, 109, 112, 108, 101, 46] : List UInt8) then ((dname_Under.f k2 (⟨#[98, 97, 100, 101, 120, 97, 109, 112, 108, 101, 46]⟩ : ByteArray) (⟨#[101, 120, 97, 109, 112, 108, 101, 46]⟩ : ByteArray)).bind fun t196 => (some (!t196))) else (some false))) else (some false))) = some r := by rw [if_neg (show ¬ (false = true) by decide)] at H; exact H
                  clear H
                  have H := H1
                  clear H1
                  replace H := Option.bind_eq_some_iff.mp H
                  obtain ⟨t194, A390, H⟩ := H
                  replace H : (if t194 = 11 then ((dname_Common.f k2 (⟨#[97, 46, 98, 46, 101, 120, 97, 109, 112, 108, 101, 46]⟩ : ByteArray) (⟨#[98, 46, 101, 120, 97, 109, 112, 108, 101, 46]⟩ : ByteArray)).bind fun t195 => (if t195.toList = ([98, 46, 101, 120, 97, 109, 112, 108, 101, 46] : List UInt8) then ((dname_Under.f k2 (⟨#[98, 97, 100, 101, 120, 97, 109, 112, 108, 101, 46]⟩ : ByteArray) (⟨#[101, 120, 97, 109, 112, 108, 101, 46]⟩ : ByteArray)).bind fun t196 => (some (!t196))) else (some false))) else (some false)) = some r := H
                  have A39 := Aside0.mk A390
                  clear A390
                  by_cases c40 : t194 = 11
                  · rw [if_pos c40] at H
                    have c40b0 : (t194 == 11) = true := beq_iff_eq.mpr c40
                    have c40b1 : (t194 != 11) = false := bne_eq_false_iff_eq.mpr c40
                    clear c40
                    replace H := Option.bind_eq_some_iff.mp H
                    obtain ⟨t195, A410, H⟩ := H
                    replace H : (if t195.toList = ([98, 46, 101, 120, 97, 109, 112, 108, 101, 46] : List UInt8) then ((dname_Under.f k2 (⟨#[98, 97, 100, 101, 120, 97, 109, 112, 108, 101, 46]⟩ : ByteArray) (⟨#[101, 120, 97, 109, 112, 108, 101, 46]⟩ : ByteArray)).bind fun t196 => (some (!t196))) else (some false)) = some r := H
                    have A41 := Aside0.mk A410
                    clear A410
                    by_cases c42 : t195.toList = ([98, 46, 101, 120, 97, 109, 112, 108, 101, 46] : List UInt8)
                    · rw [if_pos c42] at H
                      have c42b0 : (t195.toList == ([98, 46, 101, 120, 97, 109, 112, 108, 101, 46] : List UInt8)) = true := beq_iff_eq.mpr c42
                      have c42b1 : (t195.toList != ([98, 46, 101, 120, 97, 109, 112, 108, 101, 46] : List UInt8)) = false := bne_eq_false_iff_eq.mpr c42
                      clear c42
                      replace H := Option.bind_eq_some_iff.mp H
                      obtain ⟨t196, A430, H⟩ := H
                      replace H : (some (!t196)) = some r := H
                      have A43 := Aside0.mk A430
                      clear A430
                      obtain rfl := Option.some.inj H
                      obtain ⟨Ao44, co44, eo44⟩ := Kd.R_slice HO_9.out
                      subst eo44
                      go_wp2_with (first | ((with_reducible refine gate_callee (f := 15) rfl ?_); refine goesL_ (some 71) rfl rfl Tryd.func15 (by kernel_rfl) rfl #[.string (⟨#[42, 46, 101, 120, 97, 109, 112, 108, 101, 46]⟩ : ByteArray)] rfl (by (try simp only [List.map_toArray, List.map_cons, List.map_nil]); first | done | rfl | (simp only [List.length_drop, List.length_take]; rfl)) ?_; (with_reducible refine (dname_Valid.calls k2 (⟨#[42, 46, 101, 120, 97, 109, 112, 108, 101, 46]⟩ : ByteArray) true _ A32.out).mono ?_); rintro e w45 ⟨rfl, hb⟩; refine ⟨_, rfl, ?_⟩; have n0_ := Aside0.mk (Kd.R_below (by (with_reducible repeat (first | apply Kd.R_alloc | apply Kd.R_drewN | apply Kd.R_drew)); exact HO_9.out) hb); have n1_ := Aside0.mk (below_step (by repeat (first | (with_reducible first | exact HB.out | apply below_alloc | apply pw_below_drewN | apply below_drew1) | exact HB.out)) hb); clear HO_9; clear HB; have HO_9 := n0_; have HB := n1_; clear n0_ n1_; (try clear hb); (try clear hb2); (try clear hk); (try clear hi)) | (go_at_call 15; (with_reducible refine (dname_Valid.calls k2 (⟨#[97, 46, 46]⟩ : ByteArray) false _ A34.out).mono ?_); rintro e w46 ⟨rfl, hb⟩; have n0_ := Aside0.mk (Kd.R_below (by (with_reducible repeat (first | apply Kd.R_alloc | apply Kd.R_drewN | apply Kd.R_drew)); exact HO_9.out) hb); have n1_ := Aside0.mk (below_step (by repeat (first | (with_reducible first | exact HB.out | apply below_alloc | apply pw_below_drewN | apply below_drew1) | exact HB.out)) hb); clear HO_9; clear HB; have HO_9 := n0_; have HB := n1_; clear n0_ n1_; (try clear hb); (try clear hb2); (try clear hk); (try clear hi)) | (go_at_call 25; (with_reducible refine (dname_Length.calls k2 (⟨#[97, 46, 101, 120, 97, 109, 112, 108, 101, 46]⟩ : ByteArray) t194 _ A39.out).mono ?_); rintro e w47 ⟨rfl, hb⟩; have n0_ := Aside0.mk (Kd.R_below (by (with_reducible repeat (first | apply Kd.R_alloc | apply Kd.R_drewN | apply Kd.R_drew)); exact HO_9.out) hb); have n1_ := Aside0.mk (below_step (by repeat (first | (with_reducible first | exact HB.out | apply below_alloc | apply pw_below_drewN | apply below_drew1) | exact HB.out)) hb); clear HO_9; clear HB; have HO_9 := n0_; have HB := n1_; clear n0_ n1_; (try clear hb); (try clear hb2); (try clear hk); (try clear hi)) | (go_at_call 31; (with_reducible refine (dname_Common.calls k2 (⟨#[97, 46, 98, 46, 101, 120, 97, 109, 112, 108, 101, 46]⟩ : ByteArray) (⟨#[98, 46, 101, 120, 97, 109, 112, 108, 101, 46]⟩ : ByteArray) t195 _ A41.out).mono ?_); rintro e w48 ⟨rfl, hb⟩; have n0_ := Aside0.mk (Kd.R_below (by (with_reducible repeat (first | apply Kd.R_alloc | apply Kd.R_drewN | apply Kd.R_drew)); exact HO_9.out) hb); have n1_ := Aside0.mk (below_step (by repeat (first | (with_reducible first | exact HB.out | apply below_alloc | apply pw_below_drewN | apply below_drew1) | exact HB.out)) hb); clear HO_9; clear HB; have HO_9 := n0_; have HB := n1_; clear n0_ n1_; (try clear hb); (try clear hb2); (try clear hk); (try clear hi)) | (go_at_call 27; (with_reducible refine (dname_Under.calls k2 (⟨#[98, 97, 100, 101, 120, 97, 109, 112, 108, 101, 46]⟩ : ByteArray) (⟨#[101, 120, 97, 109, 112, 108, 101, 46]⟩ : ByteArray) t196 _ A43.out).mono ?_); rintro e w49 ⟨rfl, hb⟩; have n0_ := Aside0.mk (Kd.R_below (by (with_reducible repeat (first | apply Kd.R_alloc | apply Kd.R_drewN | apply Kd.R_drew)); exact HO_9.out) hb); have n1_ := Aside0.mk (below_step (by repeat (first | (with_reducible first | exact HB.out | apply below_alloc | apply pw_below_drewN | apply below_drew1) | exact HB.out)) hb); clear HO_9; clear HB; have HO_9 := n0_; have HB := n1_; clear n0_ n1_; (try clear hb); (try clear hb2); (try clear hk); (try clear hi)))
                      go_ret
                      exact ⟨by first | rfl | (simp [errW_none, errW_some] <;> rfl) | (simp [*, errW_none, errW_some] <;> rfl), by repeat (first | (with_reducible first | exact HB.out | apply below_alloc | apply pw_below_drewN | apply below_drew1) | exact HB.out)⟩
                    · rw [if_neg c42] at H
                      have c42b0 : (t195.toList == ([98, 46, 101, 120, 97, 109, 112, 108, 101, 46] : List UInt8)) = false := beq_eq_false_iff_ne.mpr c42
                      have c42b1 : (t195.toList != ([98, 46, 101, 120, 97, 109, 112, 108, 101, 46] : List UInt8)) = true := bne_iff_ne.mpr c42
                      obtain rfl := Option.some.inj H
                      obtain ⟨Ao50, co50, eo50⟩ := Kd.R_slice HO_9.out
                      subst eo50
                      go_wp2_with (first | ((with_reducible refine gate_callee (f := 15) rfl ?_); refine goesL_ (some 71) rfl rfl Tryd.func15 (by kernel_rfl) rfl #[.string (⟨#[42, 46, 101, 120, 97, 109, 112, 108, 101, 46]⟩ : ByteArray)] rfl (by (try simp only [List.map_toArray, List.map_cons, List.map_nil]); first | done | rfl | (simp only [List.length_drop, List.length_take]; rfl)) ?_; (with_reducible refine (dname_Valid.calls k2 (⟨#[42, 46, 101, 120, 97, 109, 112, 108, 101, 46]⟩ : ByteArray) true _ A32.out).mono ?_); rintro e w51 ⟨rfl, hb⟩; refine ⟨_, rfl, ?_⟩; have n0_ := Aside0.mk (Kd.R_below (by (with_reducible repeat (first | apply Kd.R_alloc | apply Kd.R_drewN | apply Kd.R_drew)); exact HO_9.out) hb); have n1_ := Aside0.mk (below_step (by repeat (first | (with_reducible first | exact HB.out | apply below_alloc | apply pw_below_drewN | apply below_drew1) | exact HB.out)) hb); clear HO_9; clear HB; have HO_9 := n0_; have HB := n1_; clear n0_ n1_; (try clear hb); (try clear hb2); (try clear hk); (try clear hi)) | (go_at_call 15; (with_reducible refine (dname_Valid.calls k2 (⟨#[97, 46, 46]⟩ : ByteArray) false _ A34.out).mono ?_); rintro e w52 ⟨rfl, hb⟩; have n0_ := Aside0.mk (Kd.R_below (by (with_reducible repeat (first | apply Kd.R_alloc | apply Kd.R_drewN | apply Kd.R_drew)); exact HO_9.out) hb); have n1_ := Aside0.mk (below_step (by repeat (first | (with_reducible first | exact HB.out | apply below_alloc | apply pw_below_drewN | apply below_drew1) | exact HB.out)) hb); clear HO_9; clear HB; have HO_9 := n0_; have HB := n1_; clear n0_ n1_; (try clear hb); (try clear hb2); (try clear hk); (try clear hi)) | (go_at_call 25; (with_reducible refine (dname_Length.calls k2 (⟨#[97, 46, 101, 120, 97, 109, 112, 108, 101, 46]⟩ : ByteArray) t194 _ A39.out).mono ?_); rintro e w53 ⟨rfl, hb⟩; have n0_ := Aside0.mk (Kd.R_below (by (with_reducible repeat (first | apply Kd.R_alloc | apply Kd.R_drewN | apply Kd.R_drew)); exact HO_9.out) hb); have n1_ := Aside0.mk (below_step (by repeat (first | (with_reducible first | exact HB.out | apply below_alloc | apply pw_below_drewN | apply below_drew1) | exact HB.out)) hb); clear HO_9; clear HB; have HO_9 := n0_; have HB := n1_; clear n0_ n1_; (try clear hb); (try clear hb2); (try clear hk); (try clear hi)) | (go_at_call 31; (with_reducible refine (dname_Common.calls k2 (⟨#[97, 46, 98, 46, 101, 120, 97, 109, 112, 108, 101, 46]⟩ : ByteArray) (⟨#[98, 46, 101, 120, 97, 109, 112, 108, 101, 46]⟩ : ByteArray) t195 _ A41.out).mono ?_); rintro e w54 ⟨rfl, hb⟩; have n0_ := Aside0.mk (Kd.R_below (by (with_reducible repeat (first | apply Kd.R_alloc | apply Kd.R_drewN | apply Kd.R_drew)); exact HO_9.out) hb); have n1_ := Aside0.mk (below_step (by repeat (first | (with_reducible first | exact HB.out | apply below_alloc | apply pw_below_drewN | apply below_drew1) | exact HB.out)) hb); clear HO_9; clear HB; have HO_9 := n0_; have HB := n1_; clear n0_ n1_; (try clear hb); (try clear hb2); (try clear hk); (try clear hi)))
                      go_ret
                      exact ⟨by first | rfl | (simp [errW_none, errW_some] <;> rfl) | (simp [*, errW_none, errW_some] <;> rfl), by repeat (first | (with_reducible first | exact HB.out | apply below_alloc | apply pw_below_drewN | apply below_drew1) | exact HB.out)⟩
                  · rw [if_neg c40] at H
                    have c40b0 : (t194 == 11) = false := beq_eq_false_iff_ne.mpr c40
                    have c40b1 : (t194 != 11) = true := bne_iff_ne.mpr c40
                    obtain rfl := Option.some.inj H
                    obtain ⟨Ao55, co55, eo55⟩ := Kd.R_slice HO_9.out
                    subst eo55
                    go_wp2_with (first | ((with_reducible refine gate_callee (f := 15) rfl ?_); refine goesL_ (some 71) rfl rfl Tryd.func15 (by kernel_rfl) rfl #[.string (⟨#[42, 46, 101, 120, 97, 109, 112, 108, 101, 46]⟩ : ByteArray)] rfl (by (try simp only [List.map_toArray, List.map_cons, List.map_nil]); first | done | rfl | (simp only [List.length_drop, List.length_take]; rfl)) ?_; (with_reducible refine (dname_Valid.calls k2 (⟨#[42, 46, 101, 120, 97, 109, 112, 108, 101, 46]⟩ : ByteArray) true _ A32.out).mono ?_); rintro e w56 ⟨rfl, hb⟩; refine ⟨_, rfl, ?_⟩; have n0_ := Aside0.mk (Kd.R_below (by (with_reducible repeat (first | apply Kd.R_alloc | apply Kd.R_drewN | apply Kd.R_drew)); exact HO_9.out) hb); have n1_ := Aside0.mk (below_step (by repeat (first | (with_reducible first | exact HB.out | apply below_alloc | apply pw_below_drewN | apply below_drew1) | exact HB.out)) hb); clear HO_9; clear HB; have HO_9 := n0_; have HB := n1_; clear n0_ n1_; (try clear hb); (try clear hb2); (try clear hk); (try clear hi)) | (go_at_call 15; (with_reducible refine (dname_Valid.calls k2 (⟨#[97, 46, 46]⟩ : ByteArray) false _ A34.out).mono ?_); rintro e w57 ⟨rfl, hb⟩; have n0_ := Aside0.mk (Kd.R_below (by (with_reducible repeat (first | apply Kd.R_alloc | apply Kd.R_drewN | apply Kd.R_drew)); exact HO_9.out) hb); have n1_ := Aside0.mk (below_step (by repeat (first | (with_reducible first | exact HB.out | apply below_alloc | apply pw_below_drewN | apply below_drew1) | exact HB.out)) hb); clear HO_9; clear HB; have HO_9 := n0_; have HB := n1_; clear n0_ n1_; (try clear hb); (try clear hb2); (try clear hk); (try clear hi)) | (go_at_call 25; (with_reducible refine (dname_Length.calls k2 (⟨#[97, 46, 101, 120, 97, 109, 112, 108, 101, 46]⟩ : ByteArray) t194 _ A39.out).mono ?_); rintro e w58 ⟨rfl, hb⟩; have n0_ := Aside0.mk (Kd.R_below (by (with_reducible repeat (first | apply Kd.R_alloc | apply Kd.R_drewN | apply Kd.R_drew)); exact HO_9.out) hb); have n1_ := Aside0.mk (below_step (by repeat (first | (with_reducible first | exact HB.out | apply below_alloc | apply pw_below_drewN | apply below_drew1) | exact HB.out)) hb); clear HO_9; clear HB; have HO_9 := n0_; have HB := n1_; clear n0_ n1_; (try clear hb); (try clear hb2); (try clear hk); (try clear hi)))
                    go_ret
                    exact ⟨by first | rfl | (simp [errW_none, errW_some] <;> rfl) | (simp [*, errW_none, errW_some] <;> rfl), by repeat (first | (with_reducible first | exact HB.out | apply below_alloc | apply pw_below_drewN | apply below_drew1) | exact HB.out)⟩
              · replace c33 := Bool.eq_false_iff.mpr c33
                subst c33
                have H1 : (some false) = some r := by rw [if_neg (show ¬ (false = true) by decide)] at H; exact H
                clear H
                have H := H1
                clear H1
                obtain rfl := Option.some.inj H
                obtain ⟨Ao59, co59, eo59⟩ := Kd.R_slice HO_9.out
                subst eo59
                go_wp2_with (first | ((with_reducible refine gate_callee (f := 15) rfl ?_); refine goesL_ (some 71) rfl rfl Tryd.func15 (by kernel_rfl) rfl #[.string (⟨#[42, 46, 101, 120, 97, 109, 112, 108, 101, 46]⟩ : ByteArray)] rfl (by (try simp only [List.map_toArray, List.map_cons, List.map_nil]); first | done | rfl | (simp only [List.length_drop, List.length_take]; rfl)) ?_; (with_reducible refine (dname_Valid.calls k2 (⟨#[42, 46, 101, 120, 97, 109, 112, 108, 101, 46]⟩ : ByteArray) false _ A32.out).mono ?_); rintro e w60 ⟨rfl, hb⟩; refine ⟨_, rfl, ?_⟩; have n0_ := Aside0.mk (Kd.R_below (by (with_reducible repeat (first | apply Kd.R_alloc | apply Kd.R_drewN | apply Kd.R_drew)); exact HO_9.out) hb); have n1_ := Aside0.mk (below_step (by repeat (first | (with_reducible first | exact HB.out | apply below_alloc | apply pw_below_drewN | apply below_drew1) | exact HB.out)) hb); clear HO_9; clear HB; have HO_9 := n0_; have HB := n1_; clear n0_ n1_; (try clear hb); (try clear hb2); (try clear hk); (try clear hi)))
                go_ret
                exact ⟨by first | rfl | (simp [errW_none, errW_some] <;> rfl) | (simp [*, errW_none, errW_some] <;> rfl), by repeat (first | (with_reducible first | exact HB.out | apply below_alloc | apply pw_below_drewN | apply below_drew1) | exact HB.out)⟩

end Go.Proofs.YtfcgconojomfpaaDoor.Pa
