-- Written by a program of this session out of the translation's own print; Lean checks it.
import Derived.Test.YtfcgconojomfpaaDoorPax0
import Derived.Test.YtfcgconojomfpaaDoorPax1
import Derived.Test.YtfcgconojomfpaaDoorPax10
import Derived.Test.YtfcgconojomfpaaDoorPax11
import Derived.Test.YtfcgconojomfpaaDoorPax15
namespace Go.Proofs.YtfcgconojomfpaaDoor.Pa
open Go.RowKit Go.Proofs.YtfcgconojomfpaaDoorW.PrintWords Go.Proofs.YtfcgconojomfpaaDoorW.PrintLast Go.Proofs.YtfcgconojomfpaaDoorW.PrintMore
attribute [local go_sem] max2_int min2_int max_two min_two max_three min_three max_four min_four   -- for this text's walks alone
set_option linter.unusedVariables false
set_option linter.unusedSimpArgs false

/-! ### ddilaw01_DnameOrders: function 7 -/
def ddilaw01_DnameOrders.j0 : Nat → ByteArray → ByteArray → ByteArray → Int → Int → Bool → Option (Bool)
  | 0, _, _, _, _, _, _ => none
  | k + 1, x3, x4, x5, x6, x7, x64 => if x64 = true then (some false) else ((dname_Under.f k x4 x3).bind fun t342 => (if t342 = true then (if x6 > 0 then (some false) else ((dname_Under.f k x5 x3).bind fun t343 => (if t343 = true then (if x6 ≤ 0 then (if x7 ≤ 0 then ((dname_Under.f k x4 x3).bind fun t344 => (if t344 = true then ((ddilaw01_awake.f k).bind fun t345 => (some t345)) else (some false))) else ((ddilaw01_awake.f k).bind fun t346 => (some t346))) else ((ddilaw01_awake.f k).bind fun t347 => (some t347))) else ((ddilaw01_awake.f k).bind fun t348 => (some t348))))) else ((dname_Under.f k x5 x3).bind fun t349 => (if t349 = true then (if x6 ≤ 0 then (if x7 ≤ 0 then ((dname_Under.f k x4 x3).bind fun t350 => (if t350 = true then ((ddilaw01_awake.f k).bind fun t351 => (some t351)) else (some false))) else ((ddilaw01_awake.f k).bind fun t352 => (some t352))) else ((ddilaw01_awake.f k).bind fun t353 => (some t353))) else ((ddilaw01_awake.f k).bind fun t354 => (some t354))))))
def ddilaw01_DnameOrders.f (k : Nat) (a0_0 : ByteArray) (a0_1 : ByteArray) (a0_2 : ByteArray) : Option (Bool) := (ddilaw01_cut.f a0_0).bind fun t335 => ((ddilaw01_cut.f a0_1).bind fun t336 => ((ddilaw01_cut.f a0_2).bind fun t337 => ((dname_Compare.f k t335 t336).bind fun t338 => ((dname_Compare.f k t336 t337).bind fun t339 => ((dname_Compare.f k t335 t337).bind fun t340 => ((dname_Compare.f k t336 t335).bind fun t341 => (if t338 = (wrap64 (-t341)) then (if t335.toList = t336.toList then (if t338 = 0 then (if t338 ≤ 0 then (if t339 ≤ 0 then (if t340 > 0 then (ddilaw01_DnameOrders.j0 k t335 t336 t337 t338 t339 true) else (if t338 ≥ 0 then (if t339 ≥ 0 then (ddilaw01_DnameOrders.j0 k t335 t336 t337 t338 t339 (decide (t340 < 0))) else (ddilaw01_DnameOrders.j0 k t335 t336 t337 t338 t339 false)) else (ddilaw01_DnameOrders.j0 k t335 t336 t337 t338 t339 false))) else (if t338 ≥ 0 then (if t339 ≥ 0 then (ddilaw01_DnameOrders.j0 k t335 t336 t337 t338 t339 (decide (t340 < 0))) else (ddilaw01_DnameOrders.j0 k t335 t336 t337 t338 t339 false)) else (ddilaw01_DnameOrders.j0 k t335 t336 t337 t338 t339 false))) else (if t338 ≥ 0 then (if t339 ≥ 0 then (ddilaw01_DnameOrders.j0 k t335 t336 t337 t338 t339 (decide (t340 < 0))) else (ddilaw01_DnameOrders.j0 k t335 t336 t337 t338 t339 false)) else (ddilaw01_DnameOrders.j0 k t335 t336 t337 t338 t339 false))) else (ddilaw01_DnameOrders.j0 k t335 t336 t337 t338 t339 true)) else (if t338 = 0 then (ddilaw01_DnameOrders.j0 k t335 t336 t337 t338 t339 true) else (if t338 ≤ 0 then (if t339 ≤ 0 then (if t340 > 0 then (ddilaw01_DnameOrders.j0 k t335 t336 t337 t338 t339 true) else (if t338 ≥ 0 then (if t339 ≥ 0 then (ddilaw01_DnameOrders.j0 k t335 t336 t337 t338 t339 (decide (t340 < 0))) else (ddilaw01_DnameOrders.j0 k t335 t336 t337 t338 t339 false)) else (ddilaw01_DnameOrders.j0 k t335 t336 t337 t338 t339 false))) else (if t338 ≥ 0 then (if t339 ≥ 0 then (ddilaw01_DnameOrders.j0 k t335 t336 t337 t338 t339 (decide (t340 < 0))) else (ddilaw01_DnameOrders.j0 k t335 t336 t337 t338 t339 false)) else (ddilaw01_DnameOrders.j0 k t335 t336 t337 t338 t339 false))) else (if t338 ≥ 0 then (if t339 ≥ 0 then (ddilaw01_DnameOrders.j0 k t335 t336 t337 t338 t339 (decide (t340 < 0))) else (ddilaw01_DnameOrders.j0 k t335 t336 t337 t338 t339 false)) else (ddilaw01_DnameOrders.j0 k t335 t336 t337 t338 t339 false))))) else (ddilaw01_DnameOrders.j0 k t335 t336 t337 t338 t339 true))))))))
theorem ddilaw01_DnameOrders.mono_l : ∀ k, (∀ y0 y1 y2 y3 y4 y5, LeO (ddilaw01_DnameOrders.j0 k y0 y1 y2 y3 y4 y5) (ddilaw01_DnameOrders.j0 (k + 1) y0 y1 y2 y3 y4 y5))
  | 0 => fun _ _ _ _ _ _ r h => by simp [ddilaw01_DnameOrders.j0] at h
  | k + 1 => by
    have ih0 := ddilaw01_DnameOrders.mono_l k
    · intro y0 y1 y2 y3 y4 y5
      unfold ddilaw01_DnameOrders.j0
      repeat' first
      | (with_reducible exact ih0 _ _ _ _ _ _)
      | (with_reducible exact ddilaw01_awake.mono _)
      | (with_reducible exact dname_Compare.mono _ _ _)
      | (with_reducible exact dname_Under.mono _ _ _)
      | (with_reducible exact LeO.refl _)
      | (with_reducible exact LeO.none _)
      | (with_reducible refine LeO.ite ?_ ?_)
      | (with_reducible refine LeO.bind ?_ (fun _ => ?_))
      | exact ih0 _ _ _ _ _ _
      | exact ddilaw01_awake.mono _
      | exact dname_Compare.mono _ _ _
      | exact dname_Under.mono _ _ _
      | exact LeO.none _
      | refine LeO.ite ?_ ?_
      | refine LeO.bind ?_ (fun _ => ?_)
theorem ddilaw01_DnameOrders.mono : ∀ a0 a1 a2 k, LeO (ddilaw01_DnameOrders.f k a0 a1 a2) (ddilaw01_DnameOrders.f (k + 1) a0 a1 a2) := by
  intro a0 a1 a2 k
  have ih0 := ddilaw01_DnameOrders.mono_l k
  unfold ddilaw01_DnameOrders.f
  repeat' first
      | (with_reducible exact ih0 _ _ _ _ _ _)
      | (with_reducible exact ddilaw01_awake.mono _)
      | (with_reducible exact dname_Compare.mono _ _ _)
      | (with_reducible exact dname_Under.mono _ _ _)
      | (with_reducible exact LeO.refl _)
      | (with_reducible exact LeO.none _)
      | (with_reducible refine LeO.ite ?_ ?_)
      | (with_reducible refine LeO.bind ?_ (fun _ => ?_))
      | exact ih0 _ _ _ _ _ _
      | exact ddilaw01_awake.mono _
      | exact dname_Compare.mono _ _ _
      | exact dname_Under.mono _ _ _
      | exact LeO.none _
      | refine LeO.ite ?_ ?_
      | refine LeO.bind ?_ (fun _ => ?_)
def ddilaw01_DnameOrders.T1 : Bool × List (List Nat × List Nat) := (true, [([], []), ([0], [0]), ([1], [1]), ([], []), ([3], [3]), ([4, 2], [4]), ([], []), ([6], [6]), ([7, 5], [7]), ([2, 8, 0, 1, 2], [2]), ([5, 9, 0, 1, 2, 3, 4, 5, 9], [5]), ([8, 10, 0, 1, 2, 3, 4, 5, 6, 7, 8, 9, 10], [8])])
def ddilaw01_DnameOrders.B1 : List Nat := [0, 1, 3, 0, 8, 31, 0, 64, 255, 511, 1023, 2047]
theorem ddilaw01_DnameOrders.tab1 : rtab .any (opsOf Tryd.f7 1) = ddilaw01_DnameOrders.T1 := by kernel_rfl
theorem ddilaw01_DnameOrders.bits1 : waitsOk ddilaw01_DnameOrders.T1.2 ddilaw01_DnameOrders.B1 = true := by kernel_rfl
set_option maxHeartbeats 8000000 in
set_option maxRecDepth 100000 in
theorem ddilaw01_DnameOrders.calls (k : Nat) (a0_0 : ByteArray) (a0_1 : ByteArray) (a0_2 : ByteArray) (r : Bool) (w : World) (h : ddilaw01_DnameOrders.f k a0_0 a0_1 a0_2 = some r) :
    Calls Tryd.prog 7 #[.agg #[.string a0_0, .string a0_1, .string a0_2]] w fun e w' => e = .returned (.bool r) ∧ Below w.heap.size w w' := by
  have hu39 := Tryd.underlying39
  have HB := Aside0.mk (Below.refl w.heap.size w)
  have H : ((ddilaw01_cut.f a0_0).bind fun t335 => ((ddilaw01_cut.f a0_1).bind fun t336 => ((ddilaw01_cut.f a0_2).bind fun t337 => ((dname_Compare.f k t335 t336).bind fun t338 => ((dname_Compare.f k t336 t337).bind fun t339 => ((dname_Compare.f k t335 t337).bind fun t340 => ((dname_Compare.f k t336 t335).bind fun t341 => (if t338 = (wrap64 (-t341)) then (if t335.toList = t336.toList then (if t338 = 0 then (if t338 ≤ 0 then (if t339 ≤ 0 then (if t340 > 0 then (ddilaw01_DnameOrders.j0 k t335 t336 t337 t338 t339 true) else (if t338 ≥ 0 then (if t339 ≥ 0 then (ddilaw01_DnameOrders.j0 k t335 t336 t337 t338 t339 (decide (t340 < 0))) else (ddilaw01_DnameOrders.j0 k t335 t336 t337 t338 t339 false)) else (ddilaw01_DnameOrders.j0 k t335 t336 t337 t338 t339 false))) else (if t338 ≥ 0 then (if t339 ≥ 0 then (ddilaw01_DnameOrders.j0 k t335 t336 t337 t338 t339 (decide (t340 < 0))) else (ddilaw01_DnameOrders.j0 k t335 t336 t337 t338 t339 false)) else (ddilaw01_DnameOrders.j0 k t335 t336 t337 t338 t339 false))) else (if t338 ≥ 0 then (if t339 ≥ 0 then (ddilaw01_DnameOrders.j0 k t335 t336 t337 t338 t339 (decide (t340 < 0))) else (ddilaw01_DnameOrders.j0 k t335 t336 t337 t338 t339 false)) else (ddilaw01_DnameOrders.j0 k t335 t336 t337 t338 t339 false))) else (ddilaw01_DnameOrders.j0 k t335 t336 t337 t338 t339 true)) else (if t338 = 0 then (ddilaw01_DnameOrders.j0 k t335 t336 t337 t338 t339 true) else (if t338 ≤ 0 then (if t339 ≤ 0 then (if t340 > 0 then (ddilaw01_DnameOrders.j0 k t335 t336 t337 t338 t339 true) else (if t338 ≥ 0 then (if t339 ≥ 0 then (ddilaw01_DnameOrders.j0 k t335 t336 t337 t338 t339 (decide (t340 < 0))) else (ddilaw01_DnameOrders.j0 k t335 t336 t337 t338 t339 false)) else (ddilaw01_DnameOrders.j0 k t335 t336 t337 t338 t339 false))) else (if t338 ≥ 0 then (if t339 ≥ 0 then (ddilaw01_DnameOrders.j0 k t335 t336 t337 t338 t339 (decide (t340 < 0))) else (ddilaw01_DnameOrders.j0 k t335 t336 t337 t338 t339 false)) else (ddilaw01_DnameOrders.j0 k t335 t336 t337 t338 t339 false))) else (if t338 ≥ 0 then (if t339 ≥ 0 then (ddilaw01_DnameOrders.j0 k t335 t336 t337 t338 t339 (decide (t340 < 0))) else (ddilaw01_DnameOrders.j0 k t335 t336 t337 t338 t339 false)) else (ddilaw01_DnameOrders.j0 k t335 t336 t337 t338 t339 false))))) else (ddilaw01_DnameOrders.j0 k t335 t336 t337 t338 t339 true))))))))) = some r := h
  clear h
  replace H := Option.bind_eq_some_iff.mp H
  obtain ⟨t335, A20, H⟩ := H
  replace H : ((ddilaw01_cut.f a0_1).bind fun t336 => ((ddilaw01_cut.f a0_2).bind fun t337 => ((dname_Compare.f k t335 t336).bind fun t338 => ((dname_Compare.f k t336 t337).bind fun t339 => ((dname_Compare.f k t335 t337).bind fun t340 => ((dname_Compare.f k t336 t335).bind fun t341 => (if t338 = (wrap64 (-t341)) then (if t335.toList = t336.toList then (if t338 = 0 then (if t338 ≤ 0 then (if t339 ≤ 0 then (if t340 > 0 then (ddilaw01_DnameOrders.j0 k t335 t336 t337 t338 t339 true) else (if t338 ≥ 0 then (if t339 ≥ 0 then (ddilaw01_DnameOrders.j0 k t335 t336 t337 t338 t339 (decide (t340 < 0))) else (ddilaw01_DnameOrders.j0 k t335 t336 t337 t338 t339 false)) else (ddilaw01_DnameOrders.j0 k t335 t336 t337 t338 t339 false))) else (if t338 ≥ 0 then (if t339 ≥ 0 then (ddilaw01_DnameOrders.j0 k t335 t336 t337 t338 t339 (decide (t340 < 0))) else (ddilaw01_DnameOrders.j0 k t335 t336 t337 t338 t339 false)) else (ddilaw01_DnameOrders.j0 k t335 t336 t337 t338 t339 false))) else (if t338 ≥ 0 then (if t339 ≥ 0 then (ddilaw01_DnameOrders.j0 k t335 t336 t337 t338 t339 (decide (t340 < 0))) else (ddilaw01_DnameOrders.j0 k t335 t336 t337 t338 t339 false)) else (ddilaw01_DnameOrders.j0 k t335 t336 t337 t338 t339 false))) else (ddilaw01_DnameOrders.j0 k t335 t336 t337 t338 t339 true)) else (if t338 = 0 then (ddilaw01_DnameOrders.j0 k t335 t336 t337 t338 t339 true) else (if t338 ≤ 0 then (if t339 ≤ 0 then (if t340 > 0 then (ddilaw01_DnameOrders.j0 k t335 t336 t337 t338 t339 true) else (if t338 ≥ 0 then (if t339 ≥ 0 then (ddilaw01_DnameOrders.j0 k t335 t336 t337 t338 t339 (decide (t340 < 0))) else (ddilaw01_DnameOrders.j0 k t335 t336 t337 t338 t339 false)) else (ddilaw01_DnameOrders.j0 k t335 t336 t337 t338 t339 false))) else (if t338 ≥ 0 then (if t339 ≥ 0 then (ddilaw01_DnameOrders.j0 k t335 t336 t337 t338 t339 (decide (t340 < 0))) else (ddilaw01_DnameOrders.j0 k t335 t336 t337 t338 t339 false)) else (ddilaw01_DnameOrders.j0 k t335 t336 t337 t338 t339 false))) else (if t338 ≥ 0 then (if t339 ≥ 0 then (ddilaw01_DnameOrders.j0 k t335 t336 t337 t338 t339 (decide (t340 < 0))) else (ddilaw01_DnameOrders.j0 k t335 t336 t337 t338 t339 false)) else (ddilaw01_DnameOrders.j0 k t335 t336 t337 t338 t339 false))))) else (ddilaw01_DnameOrders.j0 k t335 t336 t337 t338 t339 true)))))))) = some r := H
  have A2 := Aside0.mk A20
  clear A20
  replace H := Option.bind_eq_some_iff.mp H
  obtain ⟨t336, A30, H⟩ := H
  replace H : ((ddilaw01_cut.f a0_2).bind fun t337 => ((dname_Compare.f k t335 t336).bind fun t338 => ((dname_Compare.f k t336 t337).bind fun t339 => ((dname_Compare.f k t335 t337).bind fun t340 => ((dname_Compare.f k t336 t335).bind fun t341 => (if t338 = (wrap64 (-t341)) then (if t335.toList = t336.toList then (if t338 = 0 then (if t338 ≤ 0 then (if t339 ≤ 0 then (if t340 > 0 then (ddilaw01_DnameOrders.j0 k t335 t336 t337 t338 t339 true) else (if t338 ≥ 0 then (if t339 ≥ 0 then (ddilaw01_DnameOrders.j0 k t335 t336 t337 t338 t339 (decide (t340 < 0))) else (ddilaw01_DnameOrders.j0 k t335 t336 t337 t338 t339 false)) else (ddilaw01_DnameOrders.j0 k t335 t336 t337 t338 t339 false))) else (if t338 ≥ 0 then (if t339 ≥ 0 then (ddilaw01_DnameOrders.j0 k t335 t336 t337 t338 t339 (decide (t340 < 0))) else (ddilaw01_DnameOrders.j0 k t335 t336 t337 t338 t339 false)) else (ddilaw01_DnameOrders.j0 k t335 t336 t337 t338 t339 false))) else (if t338 ≥ 0 then (if t339 ≥ 0 then (ddilaw01_DnameOrders.j0 k t335 t336 t337 t338 t339 (decide (t340 < 0))) else (ddilaw01_DnameOrders.j0 k t335 t336 t337 t338 t339 false)) else (ddilaw01_DnameOrders.j0 k t335 t336 t337 t338 t339 false))) else (ddilaw01_DnameOrders.j0 k t335 t336 t337 t338 t339 true)) else (if t338 = 0 then (ddilaw01_DnameOrders.j0 k t335 t336 t337 t338 t339 true) else (if t338 ≤ 0 then (if t339 ≤ 0 then (if t340 > 0 then (ddilaw01_DnameOrders.j0 k t335 t336 t337 t338 t339 true) else (if t338 ≥ 0 then (if t339 ≥ 0 then (ddilaw01_DnameOrders.j0 k t335 t336 t337 t338 t339 (decide (t340 < 0))) else (ddilaw01_DnameOrders.j0 k t335 t336 t337 t338 t339 false)) else (ddilaw01_DnameOrders.j0 k t335 t336 t337 t338 t339 false))) else (if t338 ≥ 0 then (if t339 ≥ 0 then (ddilaw01_DnameOrders.j0 k t335 t336 t337 t338 t339 (decide (t340 < 0))) else (ddilaw01_DnameOrders.j0 k t335 t336 t337 t338 t339 false)) else (ddilaw01_DnameOrders.j0 k t335 t336 t337 t338 t339 false))) else (if t338 ≥ 0 then (if t339 ≥ 0 then (ddilaw01_DnameOrders.j0 k t335 t336 t337 t338 t339 (decide (t340 < 0))) else (ddilaw01_DnameOrders.j0 k t335 t336 t337 t338 t339 false)) else (ddilaw01_DnameOrders.j0 k t335 t336 t337 t338 t339 false))))) else (ddilaw01_DnameOrders.j0 k t335 t336 t337 t338 t339 true))))))) = some r := H
  have A3 := Aside0.mk A30
  clear A30
  replace H := Option.bind_eq_some_iff.mp H
  obtain ⟨t337, A40, H⟩ := H
  replace H : ((dname_Compare.f k t335 t336).bind fun t338 => ((dname_Compare.f k t336 t337).bind fun t339 => ((dname_Compare.f k t335 t337).bind fun t340 => ((dname_Compare.f k t336 t335).bind fun t341 => (if t338 = (wrap64 (-t341)) then (if t335.toList = t336.toList then (if t338 = 0 then (if t338 ≤ 0 then (if t339 ≤ 0 then (if t340 > 0 then (ddilaw01_DnameOrders.j0 k t335 t336 t337 t338 t339 true) else (if t338 ≥ 0 then (if t339 ≥ 0 then (ddilaw01_DnameOrders.j0 k t335 t336 t337 t338 t339 (decide (t340 < 0))) else (ddilaw01_DnameOrders.j0 k t335 t336 t337 t338 t339 false)) else (ddilaw01_DnameOrders.j0 k t335 t336 t337 t338 t339 false))) else (if t338 ≥ 0 then (if t339 ≥ 0 then (ddilaw01_DnameOrders.j0 k t335 t336 t337 t338 t339 (decide (t340 < 0))) else (ddilaw01_DnameOrders.j0 k t335 t336 t337 t338 t339 false)) else (ddilaw01_DnameOrders.j0 k t335 t336 t337 t338 t339 false))) else (if t338 ≥ 0 then (if t339 ≥ 0 then (ddilaw01_DnameOrders.j0 k t335 t336 t337 t338 t339 (decide (t340 < 0))) else (ddilaw01_DnameOrders.j0 k t335 t336 t337 t338 t339 false)) else (ddilaw01_DnameOrders.j0 k t335 t336 t337 t338 t339 false))) else (ddilaw01_DnameOrders.j0 k t335 t336 t337 t338 t339 true)) else (if t338 = 0 then (ddilaw01_DnameOrders.j0 k t335 t336 t337 t338 t339 true) else (if t338 ≤ 0 then (if t339 ≤ 0 then (if t340 > 0 then (ddilaw01_DnameOrders.j0 k t335 t336 t337 t338 t339 true) else (if t338 ≥ 0 then (if t339 ≥ 0 then (ddilaw01_DnameOrders.j0 k t335 t336 t337 t338 t339 (decide (t340 < 0))) else (ddilaw01_DnameOrders.j0 k t335 t336 t337 t338 t339 false)) else (ddilaw01_DnameOrders.j0 k t335 t336 t337 t338 t339 false))) else (if t338 ≥ 0 then (if t339 ≥ 0 then (ddilaw01_DnameOrders.j0 k t335 t336 t337 t338 t339 (decide (t340 < 0))) else (ddilaw01_DnameOrders.j0 k t335 t336 t337 t338 t339 false)) else (ddilaw01_DnameOrders.j0 k t335 t336 t337 t338 t339 false))) else (if t338 ≥ 0 then (if t339 ≥ 0 then (ddilaw01_DnameOrders.j0 k t335 t336 t337 t338 t339 (decide (t340 < 0))) else (ddilaw01_DnameOrders.j0 k t335 t336 t337 t338 t339 false)) else (ddilaw01_DnameOrders.j0 k t335 t336 t337 t338 t339 false))))) else (ddilaw01_DnameOrders.j0 k t335 t336 t337 t338 t339 true)))))) = some r := H
  have A4 := Aside0.mk A40
  clear A40
  replace H := Option.bind_eq_some_iff.mp H
  obtain ⟨t338, A50, H⟩ := H
  replace H : ((dname_Compare.f k t336 t337).bind fun t339 => ((dname_Compare.f k t335 t337).bind fun t340 => ((dname_Compare.f k t336 t335).bind fun t341 => (if t338 = (wrap64 (-t341)) then (if t335.toList = t336.toList then (if t338 = 0 then (if t338 ≤ 0 then (if t339 ≤ 0 then (if t340 > 0 then (ddilaw01_DnameOrders.j0 k t335 t336 t337 t338 t339 true) else (if t338 ≥ 0 then (if t339 ≥ 0 then (ddilaw01_DnameOrders.j0 k t335 t336 t337 t338 t339 (decide (t340 < 0))) else (ddilaw01_DnameOrders.j0 k t335 t336 t337 t338 t339 false)) else (ddilaw01_DnameOrders.j0 k t335 t336 t337 t338 t339 false))) else (if t338 ≥ 0 then (if t339 ≥ 0 then (ddilaw01_DnameOrders.j0 k t335 t336 t337 t338 t339 (decide (t340 < 0))) else (ddilaw01_DnameOrders.j0 k t335 t336 t337 t338 t339 false)) else (ddilaw01_DnameOrders.j0 k t335 t336 t337 t338 t339 false))) else (if t338 ≥ 0 then (if t339 ≥ 0 then (ddilaw01_DnameOrders.j0 k t335 t336 t337 t338 t339 (decide (t340 < 0))) else (ddilaw01_DnameOrders.j0 k t335 t336 t337 t338 t339 false)) else (ddilaw01_DnameOrders.j0 k t335 t336 t337 t338 t339 false))) else (ddilaw01_DnameOrders.j0 k t335 t336 t337 t338 t339 true)) else (if t338 = 0 then (ddilaw01_DnameOrders.j0 k t335 t336 t337 t338 t339 true) else (if t338 ≤ 0 then (if t339 ≤ 0 then (if t340 > 0 then (ddilaw01_DnameOrders.j0 k t335 t336 t337 t338 t339 true) else (if t338 ≥ 0 then (if t339 ≥ 0 then (ddilaw01_DnameOrders.j0 k t335 t336 t337 t338 t339 (decide (t340 < 0))) else (ddilaw01_DnameOrders.j0 k t335 t336 t337 t338 t339 false)) else (ddilaw01_DnameOrders.j0 k t335 t336 t337 t338 t339 false))) else (if t338 ≥ 0 then (if t339 ≥ 0 then (ddilaw01_DnameOrders.j0 k t335 t336 t337 t338 t339 (decide (t340 < 0))) else (ddilaw01_DnameOrders.j0 k t335 t336 t337 t338 t339 false)) else (ddilaw01_DnameOrders.j0 k t335 t336 t337 t338 t339 false))) else (if t338 ≥ 0 then (if t339 ≥ 0 then (ddilaw01_DnameOrders.j0 k t335 t336 t337 t338 t339 (decide (t340 < 0))) else (ddilaw01_DnameOrders.j0 k t335 t336 t337 t338 t339 false)) else (ddilaw01_DnameOrders.j0 k t335 t336 t337 t338 t339 false))))) else (ddilaw01_DnameOrders.j0 k t335 t336 t337 t338 t339 true))))) = some r := H
  have A5 := Aside0.mk A50
  clear A50
  replace H := Option.bind_eq_some_iff.mp H
  obtain ⟨t339, A60, H⟩ := H
  replace H : ((dname_Compare.f k t335 t337).bind fun t340 => ((dname_Compare.f k t336 t335).bind fun t341 => (if t338 = (wrap64 (-t341)) then (if t335.toList = t336.toList then (if t338 = 0 then (if t338 ≤ 0 then (if t339 ≤ 0 then (if t340 > 0 then (ddilaw01_DnameOrders.j0 k t335 t336 t337 t338 t339 true) else (if t338 ≥ 0 then (if t339 ≥ 0 then (ddilaw01_DnameOrders.j0 k t335 t336 t337 t338 t339 (decide (t340 < 0))) else (ddilaw01_DnameOrders.j0 k t335 t336 t337 t338 t339 false)) else (ddilaw01_DnameOrders.j0 k t335 t336 t337 t338 t339 false))) else (if t338 ≥ 0 then (if t339 ≥ 0 then (ddilaw01_DnameOrders.j0 k t335 t336 t337 t338 t339 (decide (t340 < 0))) else (ddilaw01_DnameOrders.j0 k t335 t336 t337 t338 t339 false)) else (ddilaw01_DnameOrders.j0 k t335 t336 t337 t338 t339 false))) else (if t338 ≥ 0 then (if t339 ≥ 0 then (ddilaw01_DnameOrders.j0 k t335 t336 t337 t338 t339 (decide (t340 < 0))) else (ddilaw01_DnameOrders.j0 k t335 t336 t337 t338 t339 false)) else (ddilaw01_DnameOrders.j0 k t335 t336 t337 t338 t339 false))) else (ddilaw01_DnameOrders.j0 k t335 t336 t337 t338 t339 true)) else (if t338 = 0 then (ddilaw01_DnameOrders.j0 k t335 t336 t337 t338 t339 true) else (if t338 ≤ 0 then (if t339 ≤ 0 then (if t340 > 0 then (ddilaw01_DnameOrders.j0 k t335 t336 t337 t338 t339 true) else (if t338 ≥ 0 then (if t339 ≥ 0 then (ddilaw01_DnameOrders.j0 k t335 t336 t337 t338 t339 (decide (t340 < 0))) else (ddilaw01_DnameOrders.j0 k t335 t336 t337 t338 t339 false)) else (ddilaw01_DnameOrders.j0 k t335 t336 t337 t338 t339 false))) else (if t338 ≥ 0 then (if t339 ≥ 0 then (ddilaw01_DnameOrders.j0 k t335 t336 t337 t338 t339 (decide (t340 < 0))) else (ddilaw01_DnameOrders.j0 k t335 t336 t337 t338 t339 false)) else (ddilaw01_DnameOrders.j0 k t335 t336 t337 t338 t339 false))) else (if t338 ≥ 0 then (if t339 ≥ 0 then (ddilaw01_DnameOrders.j0 k t335 t336 t337 t338 t339 (decide (t340 < 0))) else (ddilaw01_DnameOrders.j0 k t335 t336 t337 t338 t339 false)) else (ddilaw01_DnameOrders.j0 k t335 t336 t337 t338 t339 false))))) else (ddilaw01_DnameOrders.j0 k t335 t336 t337 t338 t339 true)))) = some r := H
  have A6 := Aside0.mk A60
  clear A60
  replace H := Option.bind_eq_some_iff.mp H
  obtain ⟨t340, A70, H⟩ := H
  replace H : ((dname_Compare.f k t336 t335).bind fun t341 => (if t338 = (wrap64 (-t341)) then (if t335.toList = t336.toList then (if t338 = 0 then (if t338 ≤ 0 then (if t339 ≤ 0 then (if t340 > 0 then (ddilaw01_DnameOrders.j0 k t335 t336 t337 t338 t339 true) else (if t338 ≥ 0 then (if t339 ≥ 0 then (ddilaw01_DnameOrders.j0 k t335 t336 t337 t338 t339 (decide (t340 < 0))) else (ddilaw01_DnameOrders.j0 k t335 t336 t337 t338 t339 false)) else (ddilaw01_DnameOrders.j0 k t335 t336 t337 t338 t339 false))) else (if t338 ≥ 0 then (if t339 ≥ 0 then (ddilaw01_DnameOrders.j0 k t335 t336 t337 t338 t339 (decide (t340 < 0))) else (ddilaw01_DnameOrders.j0 k t335 t336 t337 t338 t339 false)) else (ddilaw01_DnameOrders.j0 k t335 t336 t337 t338 t339 false))) else (if t338 ≥ 0 then (if t339 ≥ 0 then (ddilaw01_DnameOrders.j0 k t335 t336 t337 t338 t339 (decide (t340 < 0))) else (ddilaw01_DnameOrders.j0 k t335 t336 t337 t338 t339 false)) else (ddilaw01_DnameOrders.j0 k t335 t336 t337 t338 t339 false))) else (ddilaw01_DnameOrders.j0 k t335 t336 t337 t338 t339 true)) else (if t338 = 0 then (ddilaw01_DnameOrders.j0 k t335 t336 t337 t338 t339 true) else (if t338 ≤ 0 then (if t339 ≤ 0 then (if t340 > 0 then (ddilaw01_DnameOrders.j0 k t335 t336 t337 t338 t339 true) else (if t338 ≥ 0 then (if t339 ≥ 0 then (ddilaw01_DnameOrders.j0 k t335 t336 t337 t338 t339 (decide (t340 < 0))) else (ddilaw01_DnameOrders.j0 k t335 t336 t337 t338 t339 false)) else (ddilaw01_DnameOrders.j0 k t335 t336 t337 t338 t339 false))) else (if t338 ≥ 0 then (if t339 ≥ 0 then (ddilaw01_DnameOrders.j0 k t335 t336 t337 t338 t339 (decide (t340 < 0))) else (ddilaw01_DnameOrders.j0 k t335 t336 t337 t338 t339 false)) else (ddilaw01_DnameOrders.j0 k t335 t336 t337 t338 t339 false))) else (if t338 ≥ 0 then (if t339 ≥ 0 then (ddilaw01_DnameOrders.j0 k t335 t336 t337 t338 t339 (decide (t340 < 0))) else (ddilaw01_DnameOrders.j0 k t335 t336 t337 t338 t339 false)) else (ddilaw01_DnameOrders.j0 k t335 t336 t337 t338 t339 false))))) else (ddilaw01_DnameOrders.j0 k t335 t336 t337 t338 t339 true))) = some r := H
  have A7 := Aside0.mk A70
  clear A70
  have HC8 := Aside0.mk H
  clear H
  go_enter Tryd.func7, Tryd.ntmps7
  try go_wp2_with (first | ((with_reducible refine gate_dst (N := 1) rfl ?_); refine box_event ?hg (N := 1) ?hd (cs := #[.string a0_0, .string a0_1, .string a0_2]) (t := 39) ?hr ?_; (case hd => rfl); (case hg => rfl); (case hr => first | (go_simp; done) | (go_simp; rfl)); intro gb334 hg w9 hbox hb; have n0_ := Aside0.mk (below_step (by repeat (first | (with_reducible first | exact HB.out | apply below_alloc | apply pw_below_drewN | apply below_drew1) | exact HB.out)) hb); have n1_ := Aside0.mk (hbox); have n2_ := Aside0.mk ((by rw [hg]; exact (below_size (by repeat (first | (with_reducible first | exact HB.out | apply below_alloc | apply pw_below_drewN | apply below_drew1) | exact HB.out))) : w.heap.size ≤ gb334)); have n3_ := Aside0.mk ((by rw [hg]; exact (below_size (by repeat (first | (with_reducible first | exact HB.out | apply below_alloc | apply pw_below_drewN | apply below_drew1) | exact HB.out))) : w.heap.size ≤ gb334)); clear HB; have HB := n0_; have BK334 := n1_; have GW334 := n2_; have GE334 := n3_; clear n0_ n1_ n2_ n3_; clear hb hbox hg))
  have n0_ := Aside0.mk (blk_drew BK334.out)
  have n1_ := Aside0.mk (below_drew1 HB.out)
  clear BK334
  clear HB
  have BK334 := n0_
  have HB := n1_
  clear n0_ n1_
  refine start_ (n := 12) (S := fun w' => w'.cell? ⟨gb334, 0, none⟩ = some (.string a0_0) ∧ w'.cell? ⟨gb334, 1, none⟩ = some (.string a0_1) ∧ w'.cell? ⟨gb334, 2, none⟩ = some (.string a0_2)) (ds := []) #[false, false, false, false, false, false, false, false, false, false, false, false] (by kernel_rfl) rfl rfl ⟨(blk_cell BK334.out 0).trans rfl, (blk_cell BK334.out 1).trans rfl, (blk_cell BK334.out 2).trans rfl⟩ (fun hHeld => ?_); refine with_tabW ddilaw01_DnameOrders.tab1 ddilaw01_DnameOrders.bits1 (fun HT_ HW_ => ?_)
  generalize w9.drew = w10 at BK334 HB hHeld ⊢
  refine pure_ (i := 0) (N := some 9) (v := ?_) (a' := ?_) #[true, false, false, false, false, false, false, false, false, false, false, false] rfl rfl (any_of HT_.out (by kernel_rfl)) (fun _ _ _ h => h) (Or.inl ⟨by rfl, ?_⟩) ?_ ?_
  rotate_left
  · intro w'
    go_simp
    with_reducible rfl
  rotate_left
  · simp only [Act.put, List.setIfInBounds_toArray, List.set_cons_zero, List.set_cons_succ, i64_w, i32_w]
    rfl
  refine pure_ (i := 3) (N := some 12) (v := ?_) (a' := ?_) #[true, false, false, true, false, false, false, false, false, false, false, false] rfl rfl (any_of HT_.out (by kernel_rfl)) (fun _ _ _ h => h) (Or.inl ⟨by rfl, ?_⟩) ?_ ?_
  rotate_left
  · intro w'
    go_simp
    with_reducible rfl
  rotate_left
  · simp only [Act.put, List.setIfInBounds_toArray, List.set_cons_zero, List.set_cons_succ, i64_w, i32_w]
    rfl
  refine pure_ (i := 6) (N := some 15) (v := ?_) (a' := ?_) #[true, false, false, true, false, false, true, false, false, false, false, false] rfl rfl (any_of HT_.out (by kernel_rfl)) (fun _ _ _ h => h) (Or.inl ⟨by rfl, ?_⟩) ?_ ?_
  rotate_left
  · intro w'
    go_simp
    with_reducible rfl
  rotate_left
  · simp only [Act.put, List.setIfInBounds_toArray, List.set_cons_zero, List.set_cons_succ, i64_w, i32_w]
    rfl
  refine take_ (i := 1) (N := some 10) (v := ?_) (a' := ?_) #[true, true, false, true, false, false, true, false, false, false, false, false] rfl rfl (take_ofW HT_.out HW_.out (by kernel_rfl)) (fun _ _ _ h => h) (Or.inl ⟨by rfl, ?_⟩) hHeld ?_ ?_
  rotate_left
  · rintro w' ⟨s0, s1, s2⟩
    go_simp
    with_reducible rfl
  rotate_left
  · simp only [Act.put, List.setIfInBounds_toArray, List.set_cons_zero, List.set_cons_succ, i64_w, i32_w]
    rfl
  refine take_ (i := 4) (N := some 13) (v := ?_) (a' := ?_) #[true, true, false, true, true, false, true, false, false, false, false, false] rfl rfl (take_ofW HT_.out HW_.out (by kernel_rfl)) (fun _ _ _ h => h) (Or.inl ⟨by rfl, ?_⟩) hHeld ?_ ?_
  rotate_left
  · rintro w' ⟨s0, s1, s2⟩
    go_simp
    with_reducible rfl
  rotate_left
  · simp only [Act.put, List.setIfInBounds_toArray, List.set_cons_zero, List.set_cons_succ, i64_w, i32_w]
    rfl
  refine take_ (i := 7) (N := some 16) (v := ?_) (a' := ?_) #[true, true, false, true, true, false, true, true, false, false, false, false] rfl rfl (take_ofW HT_.out HW_.out (by kernel_rfl)) (fun _ _ _ h => h) (Or.inl ⟨by rfl, ?_⟩) hHeld ?_ ?_
  rotate_left
  · rintro w' ⟨s0, s1, s2⟩
    go_simp
    with_reducible rfl
  rotate_left
  · simp only [Act.put, List.setIfInBounds_toArray, List.set_cons_zero, List.set_cons_succ, i64_w, i32_w]
    rfl
  refine one_ (i := 2) (N := some 11) #[true, true, true, true, true, false, true, true, false, false, false, false] rfl rfl (one_of HT_.out (by kernel_rfl)) (by decide) (fun K hK => ?_)
  refine goes_ Tryd.func12 (by kernel_rfl) rfl #[.string a0_0] (by rfl) rfl rfl (by (try simp only [List.map_toArray, List.map_cons, List.map_nil]); first | done | rfl | (simp only [List.length_drop, List.length_take]; rfl)) ?_
  with_reducible refine (ddilaw01_cut.calls a0_0 t335 _ A2.out).mono ?_
  rintro e w11 ⟨rfl, hb⟩
  refine ⟨_, rfl, ?_⟩
  have n0_ := Aside0.mk (blk_below (g := gb334) (o := .cells #[.string a0_0, .string a0_1, .string a0_2] 39 (0, 0)) (by (with_reducible repeat (first | refine blk_drewN ?_ _ | refine blk_drew ?_ | refine blk_alloc ?_ _)); exact BK334.out) hb)
  have n1_ := Aside0.mk (below_step (by repeat (first | (with_reducible first | exact HB.out | apply below_alloc | apply pw_below_drewN | apply below_drew1 | refine below_set ?_ GE334.out) | exact HB.out)) hb)
  clear BK334
  clear HB
  have BK334 := n0_
  have HB := n1_
  clear n0_ n1_
  (try clear hb)
  (try clear hb2)
  (try clear hk)
  (try clear hi)
  refine hK.out _ _ ⟨(blk_cell BK334.out 0).trans rfl, (blk_cell BK334.out 1).trans rfl, (blk_cell BK334.out 2).trans rfl⟩ (fun hHeld => ?_)
  clear hK K
  refine norm_ (a' := ?_) ?_ ?_
  rotate_left
  · show Act.put _ (some 11) _ = _
    simp only [Act.put, List.setIfInBounds_toArray, List.set_cons_zero, List.set_cons_succ, i64_w, i32_w]
    rfl
  refine one_ (i := 5) (N := some 14) #[true, true, true, true, true, true, true, true, false, false, false, false] rfl rfl (one_of HT_.out (by kernel_rfl)) (by decide) (fun K hK => ?_)
  refine goes_ Tryd.func12 (by kernel_rfl) rfl #[.string a0_1] (by rfl) rfl rfl (by (try simp only [List.map_toArray, List.map_cons, List.map_nil]); first | done | rfl | (simp only [List.length_drop, List.length_take]; rfl)) ?_
  with_reducible refine (ddilaw01_cut.calls a0_1 t336 _ A3.out).mono ?_
  rintro e w12 ⟨rfl, hb⟩
  refine ⟨_, rfl, ?_⟩
  have n0_ := Aside0.mk (blk_below (g := gb334) (o := .cells #[.string a0_0, .string a0_1, .string a0_2] 39 (0, 0)) (by (with_reducible repeat (first | refine blk_drewN ?_ _ | refine blk_drew ?_ | refine blk_alloc ?_ _)); exact BK334.out) hb)
  have n1_ := Aside0.mk (below_step (by repeat (first | (with_reducible first | exact HB.out | apply below_alloc | apply pw_below_drewN | apply below_drew1 | refine below_set ?_ GE334.out) | exact HB.out)) hb)
  clear BK334
  clear HB
  have BK334 := n0_
  have HB := n1_
  clear n0_ n1_
  (try clear hb)
  (try clear hb2)
  (try clear hk)
  (try clear hi)
  refine hK.out _ _ ⟨(blk_cell BK334.out 0).trans rfl, (blk_cell BK334.out 1).trans rfl, (blk_cell BK334.out 2).trans rfl⟩ (fun hHeld => ?_)
  clear hK K
  refine norm_ (a' := ?_) ?_ ?_
  rotate_left
  · show Act.put _ (some 14) _ = _
    simp only [Act.put, List.setIfInBounds_toArray, List.set_cons_zero, List.set_cons_succ, i64_w, i32_w]
    rfl
  refine one_ (i := 8) (N := some 17) #[true, true, true, true, true, true, true, true, true, false, false, false] rfl rfl (one_of HT_.out (by kernel_rfl)) (by decide) (fun K hK => ?_)
  refine goes_ Tryd.func12 (by kernel_rfl) rfl #[.string a0_2] (by rfl) rfl rfl (by (try simp only [List.map_toArray, List.map_cons, List.map_nil]); first | done | rfl | (simp only [List.length_drop, List.length_take]; rfl)) ?_
  with_reducible refine (ddilaw01_cut.calls a0_2 t337 _ A4.out).mono ?_
  rintro e w13 ⟨rfl, hb⟩
  refine ⟨_, rfl, ?_⟩
  have n0_ := Aside0.mk (blk_below (g := gb334) (o := .cells #[.string a0_0, .string a0_1, .string a0_2] 39 (0, 0)) (by (with_reducible repeat (first | refine blk_drewN ?_ _ | refine blk_drew ?_ | refine blk_alloc ?_ _)); exact BK334.out) hb)
  have n1_ := Aside0.mk (below_step (by repeat (first | (with_reducible first | exact HB.out | apply below_alloc | apply pw_below_drewN | apply below_drew1 | refine below_set ?_ GE334.out) | exact HB.out)) hb)
  clear BK334
  clear HB
  have BK334 := n0_
  have HB := n1_
  clear n0_ n1_
  (try clear hb)
  (try clear hb2)
  (try clear hk)
  (try clear hi)
  refine hK.out _ _ ⟨(blk_cell BK334.out 0).trans rfl, (blk_cell BK334.out 1).trans rfl, (blk_cell BK334.out 2).trans rfl⟩ (fun hHeld => ?_)
  clear hK K
  refine norm_ (a' := ?_) ?_ ?_
  rotate_left
  · show Act.put _ (some 17) _ = _
    simp only [Act.put, List.setIfInBounds_toArray, List.set_cons_zero, List.set_cons_succ, i64_w, i32_w]
    rfl
  refine pure_ (i := 9) (N := some 3) (v := ?_) (a' := ?_) #[true, true, true, true, true, true, true, true, true, true, false, false] rfl rfl (any_of HT_.out (by kernel_rfl)) (fun _ _ _ h => h) (Or.inl ⟨by rfl, ?_⟩) ?_ ?_
  rotate_left
  · intro w'
    go_simp
    with_reducible rfl
  rotate_left
  · simp only [Act.put, List.setIfInBounds_toArray, List.set_cons_zero, List.set_cons_succ, i64_w, i32_w]
    rfl
  refine pure_ (i := 10) (N := some 4) (v := ?_) (a' := ?_) #[true, true, true, true, true, true, true, true, true, true, true, false] rfl rfl (any_of HT_.out (by kernel_rfl)) (fun _ _ _ h => h) (Or.inl ⟨by rfl, ?_⟩) ?_ ?_
  rotate_left
  · intro w'
    go_simp
    with_reducible rfl
  rotate_left
  · simp only [Act.put, List.setIfInBounds_toArray, List.set_cons_zero, List.set_cons_succ, i64_w, i32_w]
    rfl
  refine pure_ (i := 11) (N := some 5) (v := ?_) (a' := ?_) #[true, true, true, true, true, true, true, true, true, true, true, true] rfl rfl (any_of HT_.out (by kernel_rfl)) (fun _ _ _ h => h) (Or.inl ⟨by rfl, ?_⟩) ?_ ?_
  rotate_left
  · intro w'
    go_simp
    with_reducible rfl
  rotate_left
  · simp only [Act.put, List.setIfInBounds_toArray, List.set_cons_zero, List.set_cons_succ, i64_w, i32_w]
    rfl
  refine done_ (done_of HT_.out (by kernel_rfl)) ?_
  go_upto_region 3 with (first | ((with_reducible refine gate_callee (f := 29) rfl ?_); refine goesL_ (some 20) rfl rfl Tryd.func29 (by kernel_rfl) rfl #[.string t335, .string t336] rfl (by (try simp only [List.map_toArray, List.map_cons, List.map_nil]); first | done | rfl | (simp only [List.length_drop, List.length_take]; rfl)) ?_; (with_reducible refine (dname_Compare.calls k t335 t336 t338 _ A5.out).mono ?_); rintro e w14 ⟨rfl, hb⟩; refine ⟨_, rfl, ?_⟩; have n0_ := Aside0.mk (blk_below (g := gb334) (o := .cells #[.string a0_0, .string a0_1, .string a0_2] 39 (0, 0)) (by (with_reducible repeat (first | refine blk_drewN ?_ _ | refine blk_drew ?_ | refine blk_alloc ?_ _)); exact BK334.out) hb); have n1_ := Aside0.mk (below_step (by repeat (first | (with_reducible first | exact HB.out | apply below_alloc | apply pw_below_drewN | apply below_drew1 | refine below_set ?_ GE334.out) | exact HB.out)) hb); clear BK334; clear HB; have BK334 := n0_; have HB := n1_; clear n0_ n1_; (try clear hb); (try clear hb2); (try clear hk); (try clear hi)) | ((with_reducible refine gate_callee (f := 29) rfl ?_); refine goesL_ (some 23) rfl rfl Tryd.func29 (by kernel_rfl) rfl #[.string t336, .string t337] rfl (by (try simp only [List.map_toArray, List.map_cons, List.map_nil]); first | done | rfl | (simp only [List.length_drop, List.length_take]; rfl)) ?_; (with_reducible refine (dname_Compare.calls k t336 t337 t339 _ A6.out).mono ?_); rintro e w15 ⟨rfl, hb⟩; refine ⟨_, rfl, ?_⟩; have n0_ := Aside0.mk (blk_below (g := gb334) (o := .cells #[.string a0_0, .string a0_1, .string a0_2] 39 (0, 0)) (by (with_reducible repeat (first | refine blk_drewN ?_ _ | refine blk_drew ?_ | refine blk_alloc ?_ _)); exact BK334.out) hb); have n1_ := Aside0.mk (below_step (by repeat (first | (with_reducible first | exact HB.out | apply below_alloc | apply pw_below_drewN | apply below_drew1 | refine below_set ?_ GE334.out) | exact HB.out)) hb); clear BK334; clear HB; have BK334 := n0_; have HB := n1_; clear n0_ n1_; (try clear hb); (try clear hb2); (try clear hk); (try clear hi)) | ((with_reducible refine gate_callee (f := 29) rfl ?_); refine goesL_ (some 26) rfl rfl Tryd.func29 (by kernel_rfl) rfl #[.string t335, .string t337] rfl (by (try simp only [List.map_toArray, List.map_cons, List.map_nil]); first | done | rfl | (simp only [List.length_drop, List.length_take]; rfl)) ?_; (with_reducible refine (dname_Compare.calls k t335 t337 t340 _ A7.out).mono ?_); rintro e w16 ⟨rfl, hb⟩; refine ⟨_, rfl, ?_⟩; have n0_ := Aside0.mk (blk_below (g := gb334) (o := .cells #[.string a0_0, .string a0_1, .string a0_2] 39 (0, 0)) (by (with_reducible repeat (first | refine blk_drewN ?_ _ | refine blk_drew ?_ | refine blk_alloc ?_ _)); exact BK334.out) hb); have n1_ := Aside0.mk (below_step (by repeat (first | (with_reducible first | exact HB.out | apply below_alloc | apply pw_below_drewN | apply below_drew1 | refine below_set ?_ GE334.out) | exact HB.out)) hb); clear BK334; clear HB; have BK334 := n0_; have HB := n1_; clear n0_ n1_; (try clear hb); (try clear hb2); (try clear hk); (try clear hi)))
  (try simp only [Act.put, List.setIfInBounds_toArray, List.set_cons_zero, List.set_cons_succ])
  go_cut [64] (fun v64 wc => ∃ (kq : Nat) (x64_7 : Bool), v64 = .bool x64_7 ∧ Aside0 (ddilaw01_DnameOrders.j0 kq t335 t336 t337 t338 t339 x64_7 = some r) ∧ Aside0 (kq ≤ k) ∧ Aside0 (wc.heap[gb334]? = some (.cells #[.string a0_0, .string a0_1, .string a0_2] 39 (0, 0))) ∧ Aside0 (Below w.heap.size w wc))
  case first =>
    have H := HC8.out
    clear HC8
    replace H := Option.bind_eq_some_iff.mp H
    obtain ⟨t341, A170, H⟩ := H
    replace H : (if t338 = (wrap64 (-t341)) then (if t335.toList = t336.toList then (if t338 = 0 then (if t338 ≤ 0 then (if t339 ≤ 0 then (if t340 > 0 then (ddilaw01_DnameOrders.j0 k t335 t336 t337 t338 t339 true) else (if t338 ≥ 0 then (if t339 ≥ 0 then (ddilaw01_DnameOrders.j0 k t335 t336 t337 t338 t339 (decide (t340 < 0))) else (ddilaw01_DnameOrders.j0 k t335 t336 t337 t338 t339 false)) else (ddilaw01_DnameOrders.j0 k t335 t336 t337 t338 t339 false))) else (if t338 ≥ 0 then (if t339 ≥ 0 then (ddilaw01_DnameOrders.j0 k t335 t336 t337 t338 t339 (decide (t340 < 0))) else (ddilaw01_DnameOrders.j0 k t335 t336 t337 t338 t339 false)) else (ddilaw01_DnameOrders.j0 k t335 t336 t337 t338 t339 false))) else (if t338 ≥ 0 then (if t339 ≥ 0 then (ddilaw01_DnameOrders.j0 k t335 t336 t337 t338 t339 (decide (t340 < 0))) else (ddilaw01_DnameOrders.j0 k t335 t336 t337 t338 t339 false)) else (ddilaw01_DnameOrders.j0 k t335 t336 t337 t338 t339 false))) else (ddilaw01_DnameOrders.j0 k t335 t336 t337 t338 t339 true)) else (if t338 = 0 then (ddilaw01_DnameOrders.j0 k t335 t336 t337 t338 t339 true) else (if t338 ≤ 0 then (if t339 ≤ 0 then (if t340 > 0 then (ddilaw01_DnameOrders.j0 k t335 t336 t337 t338 t339 true) else (if t338 ≥ 0 then (if t339 ≥ 0 then (ddilaw01_DnameOrders.j0 k t335 t336 t337 t338 t339 (decide (t340 < 0))) else (ddilaw01_DnameOrders.j0 k t335 t336 t337 t338 t339 false)) else (ddilaw01_DnameOrders.j0 k t335 t336 t337 t338 t339 false))) else (if t338 ≥ 0 then (if t339 ≥ 0 then (ddilaw01_DnameOrders.j0 k t335 t336 t337 t338 t339 (decide (t340 < 0))) else (ddilaw01_DnameOrders.j0 k t335 t336 t337 t338 t339 false)) else (ddilaw01_DnameOrders.j0 k t335 t336 t337 t338 t339 false))) else (if t338 ≥ 0 then (if t339 ≥ 0 then (ddilaw01_DnameOrders.j0 k t335 t336 t337 t338 t339 (decide (t340 < 0))) else (ddilaw01_DnameOrders.j0 k t335 t336 t337 t338 t339 false)) else (ddilaw01_DnameOrders.j0 k t335 t336 t337 t338 t339 false))))) else (ddilaw01_DnameOrders.j0 k t335 t336 t337 t338 t339 true)) = some r := H
    have A17 := Aside0.mk A170
    clear A170
    by_cases c18 : t338 = (wrap64 (-t341))
    · rw [if_pos c18] at H
      have c18b0 : (t338 == (wrap64 (-t341))) = true := beq_iff_eq.mpr c18
      have c18b1 : (t338 != (wrap64 (-t341))) = false := bne_eq_false_iff_eq.mpr c18
      clear c18
      (first | rw [c18b0] | (simp only [i64_w, i32_w]; rw [c18b0]) | skip)
      by_cases c19 : t335.toList = t336.toList
      · rw [if_pos c19] at H
        have c19b0 : (t335.toList == t336.toList) = true := beq_iff_eq.mpr c19
        have c19b1 : (t335.toList != t336.toList) = false := bne_eq_false_iff_eq.mpr c19
        clear c19
        by_cases c20 : t338 = 0
        · rw [if_pos c20] at H
          have c20b0 : (t338 == 0) = true := beq_iff_eq.mpr c20
          have c20b1 : (t338 != 0) = false := bne_eq_false_iff_eq.mpr c20
          clear c20
          by_cases c21 : t338 ≤ 0
          · rw [if_pos c21] at H
            have c21b0 : decide (t338 ≤ 0) = true := decide_eq_true c21
            clear c21
            by_cases c22 : t339 ≤ 0
            · rw [if_pos c22] at H
              have c22b0 : decide (t339 ≤ 0) = true := decide_eq_true c22
              clear c22
              by_cases c23 : t340 > 0
              · rw [if_pos c23] at H
                have c23b0 : decide (0 < t340) = true := decide_eq_true c23
                clear c23
                have H' := Aside0.mk H
                clear H
                go_wp2_with (first | ((with_reducible refine gate_callee (f := 29) rfl ?_); refine goesL_ (some 30) rfl rfl Tryd.func29 (by kernel_rfl) rfl #[.string t336, .string t335] rfl (by (try simp only [List.map_toArray, List.map_cons, List.map_nil]); first | done | rfl | (simp only [List.length_drop, List.length_take]; rfl)) ?_; (with_reducible refine (dname_Compare.calls k t336 t335 t341 _ A17.out).mono ?_); rintro e w24 ⟨rfl, hb⟩; refine ⟨_, rfl, ?_⟩; have n0_ := Aside0.mk (blk_below (g := gb334) (o := .cells #[.string a0_0, .string a0_1, .string a0_2] 39 (0, 0)) (by (with_reducible repeat (first | refine blk_drewN ?_ _ | refine blk_drew ?_ | refine blk_alloc ?_ _)); exact BK334.out) hb); have n1_ := Aside0.mk (below_step (by repeat (first | (with_reducible first | exact HB.out | apply below_alloc | apply pw_below_drewN | apply below_drew1 | refine below_set ?_ GE334.out) | exact HB.out)) hb); clear BK334; clear HB; have BK334 := n0_; have HB := n1_; clear n0_ n1_; (try clear hb); (try clear hb2); (try clear hk); (try clear hi)))
                go_meet
                case rel => exact ⟨_, (true), (by first | rfl | (simp; done) | (simp [*]; done)), H', ⟨by first | omega | exact Nat.le_refl _⟩, ⟨by (with_reducible repeat (first | refine blk_drewN ?_ _ | refine blk_drew ?_ | refine blk_alloc ?_ _)); exact BK334.out⟩, ⟨by repeat (first | (with_reducible first | exact HB.out | apply below_alloc | apply pw_below_drewN | apply below_drew1 | refine below_set ?_ GE334.out) | exact HB.out)⟩⟩
              · rw [if_neg c23] at H
                have c23b0 : decide (0 < t340) = false := decide_eq_false c23
                clear c23
                by_cases c25 : t338 ≥ 0
                · rw [if_pos c25] at H
                  have c25b0 : decide (0 ≤ t338) = true := decide_eq_true c25
                  clear c25
                  by_cases c26 : t339 ≥ 0
                  · rw [if_pos c26] at H
                    have c26b0 : decide (0 ≤ t339) = true := decide_eq_true c26
                    clear c26
                    have H' := Aside0.mk H
                    clear H
                    go_wp2_with (first | ((with_reducible refine gate_callee (f := 29) rfl ?_); refine goesL_ (some 30) rfl rfl Tryd.func29 (by kernel_rfl) rfl #[.string t336, .string t335] rfl (by (try simp only [List.map_toArray, List.map_cons, List.map_nil]); first | done | rfl | (simp only [List.length_drop, List.length_take]; rfl)) ?_; (with_reducible refine (dname_Compare.calls k t336 t335 t341 _ A17.out).mono ?_); rintro e w27 ⟨rfl, hb⟩; refine ⟨_, rfl, ?_⟩; have n0_ := Aside0.mk (blk_below (g := gb334) (o := .cells #[.string a0_0, .string a0_1, .string a0_2] 39 (0, 0)) (by (with_reducible repeat (first | refine blk_drewN ?_ _ | refine blk_drew ?_ | refine blk_alloc ?_ _)); exact BK334.out) hb); have n1_ := Aside0.mk (below_step (by repeat (first | (with_reducible first | exact HB.out | apply below_alloc | apply pw_below_drewN | apply below_drew1 | refine below_set ?_ GE334.out) | exact HB.out)) hb); clear BK334; clear HB; have BK334 := n0_; have HB := n1_; clear n0_ n1_; (try clear hb); (try clear hb2); (try clear hk); (try clear hi)))
                    go_meet
                    case rel => exact ⟨_, (decide (t340 < 0)), (by first | rfl | (simp; done) | (simp [*]; done)), H', ⟨by first | omega | exact Nat.le_refl _⟩, ⟨by (with_reducible repeat (first | refine blk_drewN ?_ _ | refine blk_drew ?_ | refine blk_alloc ?_ _)); exact BK334.out⟩, ⟨by repeat (first | (with_reducible first | exact HB.out | apply below_alloc | apply pw_below_drewN | apply below_drew1 | refine below_set ?_ GE334.out) | exact HB.out)⟩⟩
                  · rw [if_neg c26] at H
                    have c26b0 : decide (0 ≤ t339) = false := decide_eq_false c26
                    clear c26
                    have H' := Aside0.mk H
                    clear H
                    go_wp2_with (first | ((with_reducible refine gate_callee (f := 29) rfl ?_); refine goesL_ (some 30) rfl rfl Tryd.func29 (by kernel_rfl) rfl #[.string t336, .string t335] rfl (by (try simp only [List.map_toArray, List.map_cons, List.map_nil]); first | done | rfl | (simp only [List.length_drop, List.length_take]; rfl)) ?_; (with_reducible refine (dname_Compare.calls k t336 t335 t341 _ A17.out).mono ?_); rintro e w28 ⟨rfl, hb⟩; refine ⟨_, rfl, ?_⟩; have n0_ := Aside0.mk (blk_below (g := gb334) (o := .cells #[.string a0_0, .string a0_1, .string a0_2] 39 (0, 0)) (by (with_reducible repeat (first | refine blk_drewN ?_ _ | refine blk_drew ?_ | refine blk_alloc ?_ _)); exact BK334.out) hb); have n1_ := Aside0.mk (below_step (by repeat (first | (with_reducible first | exact HB.out | apply below_alloc | apply pw_below_drewN | apply below_drew1 | refine below_set ?_ GE334.out) | exact HB.out)) hb); clear BK334; clear HB; have BK334 := n0_; have HB := n1_; clear n0_ n1_; (try clear hb); (try clear hb2); (try clear hk); (try clear hi)))
                    go_meet
                    case rel => exact ⟨_, (false), (by first | rfl | (simp; done) | (simp [*]; done)), H', ⟨by first | omega | exact Nat.le_refl _⟩, ⟨by (with_reducible repeat (first | refine blk_drewN ?_ _ | refine blk_drew ?_ | refine blk_alloc ?_ _)); exact BK334.out⟩, ⟨by repeat (first | (with_reducible first | exact HB.out | apply below_alloc | apply pw_below_drewN | apply below_drew1 | refine below_set ?_ GE334.out) | exact HB.out)⟩⟩
                · rw [if_neg c25] at H
                  have c25b0 : decide (0 ≤ t338) = false := decide_eq_false c25
                  clear c25
                  have H' := Aside0.mk H
                  clear H
                  go_wp2_with (first | ((with_reducible refine gate_callee (f := 29) rfl ?_); refine goesL_ (some 30) rfl rfl Tryd.func29 (by kernel_rfl) rfl #[.string t336, .string t335] rfl (by (try simp only [List.map_toArray, List.map_cons, List.map_nil]); first | done | rfl | (simp only [List.length_drop, List.length_take]; rfl)) ?_; (with_reducible refine (dname_Compare.calls k t336 t335 t341 _ A17.out).mono ?_); rintro e w29 ⟨rfl, hb⟩; refine ⟨_, rfl, ?_⟩; have n0_ := Aside0.mk (blk_below (g := gb334) (o := .cells #[.string a0_0, .string a0_1, .string a0_2] 39 (0, 0)) (by (with_reducible repeat (first | refine blk_drewN ?_ _ | refine blk_drew ?_ | refine blk_alloc ?_ _)); exact BK334.out) hb); have n1_ := Aside0.mk (below_step (by repeat (first | (with_reducible first | exact HB.out | apply below_alloc | apply pw_below_drewN | apply below_drew1 | refine below_set ?_ GE334.out) | exact HB.out)) hb); clear BK334; clear HB; have BK334 := n0_; have HB := n1_; clear n0_ n1_; (try clear hb); (try clear hb2); (try clear hk); (try clear hi)))
                  go_meet
                  case rel => exact ⟨_, (false), (by first | rfl | (simp; done) | (simp [*]; done)), H', ⟨by first | omega | exact Nat.le_refl _⟩, ⟨by (with_reducible repeat (first | refine blk_drewN ?_ _ | refine blk_drew ?_ | refine blk_alloc ?_ _)); exact BK334.out⟩, ⟨by repeat (first | (with_reducible first | exact HB.out | apply below_alloc | apply pw_below_drewN | apply below_drew1 | refine below_set ?_ GE334.out) | exact HB.out)⟩⟩
            · rw [if_neg c22] at H
              have c22b0 : decide (t339 ≤ 0) = false := decide_eq_false c22
              clear c22
              by_cases c30 : t338 ≥ 0
              · rw [if_pos c30] at H
                have c30b0 : decide (0 ≤ t338) = true := decide_eq_true c30
                clear c30
                by_cases c31 : t339 ≥ 0
                · rw [if_pos c31] at H
                  have c31b0 : decide (0 ≤ t339) = true := decide_eq_true c31
                  clear c31
                  have H' := Aside0.mk H
                  clear H
                  go_wp2_with (first | ((with_reducible refine gate_callee (f := 29) rfl ?_); refine goesL_ (some 30) rfl rfl Tryd.func29 (by kernel_rfl) rfl #[.string t336, .string t335] rfl (by (try simp only [List.map_toArray, List.map_cons, List.map_nil]); first | done | rfl | (simp only [List.length_drop, List.length_take]; rfl)) ?_; (with_reducible refine (dname_Compare.calls k t336 t335 t341 _ A17.out).mono ?_); rintro e w32 ⟨rfl, hb⟩; refine ⟨_, rfl, ?_⟩; have n0_ := Aside0.mk (blk_below (g := gb334) (o := .cells #[.string a0_0, .string a0_1, .string a0_2] 39 (0, 0)) (by (with_reducible repeat (first | refine blk_drewN ?_ _ | refine blk_drew ?_ | refine blk_alloc ?_ _)); exact BK334.out) hb); have n1_ := Aside0.mk (below_step (by repeat (first | (with_reducible first | exact HB.out | apply below_alloc | apply pw_below_drewN | apply below_drew1 | refine below_set ?_ GE334.out) | exact HB.out)) hb); clear BK334; clear HB; have BK334 := n0_; have HB := n1_; clear n0_ n1_; (try clear hb); (try clear hb2); (try clear hk); (try clear hi)))
                  go_meet
                  case rel => exact ⟨_, (decide (t340 < 0)), (by first | rfl | (simp; done) | (simp [*]; done)), H', ⟨by first | omega | exact Nat.le_refl _⟩, ⟨by (with_reducible repeat (first | refine blk_drewN ?_ _ | refine blk_drew ?_ | refine blk_alloc ?_ _)); exact BK334.out⟩, ⟨by repeat (first | (with_reducible first | exact HB.out | apply below_alloc | apply pw_below_drewN | apply below_drew1 | refine below_set ?_ GE334.out) | exact HB.out)⟩⟩
                · rw [if_neg c31] at H
                  have c31b0 : decide (0 ≤ t339) = false := decide_eq_false c31
                  clear c31
                  have H' := Aside0.mk H
                  clear H
                  go_wp2_with (first | ((with_reducible refine gate_callee (f := 29) rfl ?_); refine goesL_ (some 30) rfl rfl Tryd.func29 (by kernel_rfl) rfl #[.string t336, .string t335] rfl (by (try simp only [List.map_toArray, List.map_cons, List.map_nil]); first | done | rfl | (simp only [List.length_drop, List.length_take]; rfl)) ?_; (with_reducible refine (dname_Compare.calls k t336 t335 t341 _ A17.out).mono ?_); rintro e w33 ⟨rfl, hb⟩; refine ⟨_, rfl, ?_⟩; have n0_ := Aside0.mk (blk_below (g := gb334) (o := .cells #[.string a0_0, .string a0_1, .string a0_2] 39 (0, 0)) (by (with_reducible repeat (first | refine blk_drewN ?_ _ | refine blk_drew ?_ | refine blk_alloc ?_ _)); exact BK334.out) hb); have n1_ := Aside0.mk (below_step (by repeat (first | (with_reducible first | exact HB.out | apply below_alloc | apply pw_below_drewN | apply below_drew1 | refine below_set ?_ GE334.out) | exact HB.out)) hb); clear BK334; clear HB; have BK334 := n0_; have HB := n1_; clear n0_ n1_; (try clear hb); (try clear hb2); (try clear hk); (try clear hi)))
                  go_meet
                  case rel => exact ⟨_, (false), (by first | rfl | (simp; done) | (simp [*]; done)), H', ⟨by first | omega | exact Nat.le_refl _⟩, ⟨by (with_reducible repeat (first | refine blk_drewN ?_ _ | refine blk_drew ?_ | refine blk_alloc ?_ _)); exact BK334.out⟩, ⟨by repeat (first | (with_reducible first | exact HB.out | apply below_alloc | apply pw_below_drewN | apply below_drew1 | refine below_set ?_ GE334.out) | exact HB.out)⟩⟩
              · rw [if_neg c30] at H
                have c30b0 : decide (0 ≤ t338) = false := decide_eq_false c30
                clear c30
                have H' := Aside0.mk H
                clear H
                go_wp2_with (first | ((with_reducible refine gate_callee (f := 29) rfl ?_); refine goesL_ (some 30) rfl rfl Tryd.func29 (by kernel_rfl) rfl #[.string t336, .string t335] rfl (by (try simp only [List.map_toArray, List.map_cons, List.map_nil]); first | done | rfl | (simp only [List.length_drop, List.length_take]; rfl)) ?_; (with_reducible refine (dname_Compare.calls k t336 t335 t341 _ A17.out).mono ?_); rintro e w34 ⟨rfl, hb⟩; refine ⟨_, rfl, ?_⟩; have n0_ := Aside0.mk (blk_below (g := gb334) (o := .cells #[.string a0_0, .string a0_1, .string a0_2] 39 (0, 0)) (by (with_reducible repeat (first | refine blk_drewN ?_ _ | refine blk_drew ?_ | refine blk_alloc ?_ _)); exact BK334.out) hb); have n1_ := Aside0.mk (below_step (by repeat (first | (with_reducible first | exact HB.out | apply below_alloc | apply pw_below_drewN | apply below_drew1 | refine below_set ?_ GE334.out) | exact HB.out)) hb); clear BK334; clear HB; have BK334 := n0_; have HB := n1_; clear n0_ n1_; (try clear hb); (try clear hb2); (try clear hk); (try clear hi)))
                go_meet
                case rel => exact ⟨_, (false), (by first | rfl | (simp; done) | (simp [*]; done)), H', ⟨by first | omega | exact Nat.le_refl _⟩, ⟨by (with_reducible repeat (first | refine blk_drewN ?_ _ | refine blk_drew ?_ | refine blk_alloc ?_ _)); exact BK334.out⟩, ⟨by repeat (first | (with_reducible first | exact HB.out | apply below_alloc | apply pw_below_drewN | apply below_drew1 | refine below_set ?_ GE334.out) | exact HB.out)⟩⟩
          · rw [if_neg c21] at H
            have c21b0 : decide (t338 ≤ 0) = false := decide_eq_false c21
            clear c21
            by_cases c35 : t338 ≥ 0
            · rw [if_pos c35] at H
              have c35b0 : decide (0 ≤ t338) = true := decide_eq_true c35
              clear c35
              by_cases c36 : t339 ≥ 0
              · rw [if_pos c36] at H
                have c36b0 : decide (0 ≤ t339) = true := decide_eq_true c36
                clear c36
                have H' := Aside0.mk H
                clear H
                go_wp2_with (first | ((with_reducible refine gate_callee (f := 29) rfl ?_); refine goesL_ (some 30) rfl rfl Tryd.func29 (by kernel_rfl) rfl #[.string t336, .string t335] rfl (by (try simp only [List.map_toArray, List.map_cons, List.map_nil]); first | done | rfl | (simp only [List.length_drop, List.length_take]; rfl)) ?_; (with_reducible refine (dname_Compare.calls k t336 t335 t341 _ A17.out).mono ?_); rintro e w37 ⟨rfl, hb⟩; refine ⟨_, rfl, ?_⟩; have n0_ := Aside0.mk (blk_below (g := gb334) (o := .cells #[.string a0_0, .string a0_1, .string a0_2] 39 (0, 0)) (by (with_reducible repeat (first | refine blk_drewN ?_ _ | refine blk_drew ?_ | refine blk_alloc ?_ _)); exact BK334.out) hb); have n1_ := Aside0.mk (below_step (by repeat (first | (with_reducible first | exact HB.out | apply below_alloc | apply pw_below_drewN | apply below_drew1 | refine below_set ?_ GE334.out) | exact HB.out)) hb); clear BK334; clear HB; have BK334 := n0_; have HB := n1_; clear n0_ n1_; (try clear hb); (try clear hb2); (try clear hk); (try clear hi)))
                go_meet
                case rel => exact ⟨_, (decide (t340 < 0)), (by first | rfl | (simp; done) | (simp [*]; done)), H', ⟨by first | omega | exact Nat.le_refl _⟩, ⟨by (with_reducible repeat (first | refine blk_drewN ?_ _ | refine blk_drew ?_ | refine blk_alloc ?_ _)); exact BK334.out⟩, ⟨by repeat (first | (with_reducible first | exact HB.out | apply below_alloc | apply pw_below_drewN | apply below_drew1 | refine below_set ?_ GE334.out) | exact HB.out)⟩⟩
              · rw [if_neg c36] at H
                have c36b0 : decide (0 ≤ t339) = false := decide_eq_false c36
                clear c36
                have H' := Aside0.mk H
                clear H
                go_wp2_with (first | ((with_reducible refine gate_callee (f := 29) rfl ?_); refine goesL_ (some 30) rfl rfl Tryd.func29 (by kernel_rfl) rfl #[.string t336, .string t335] rfl (by (try simp only [List.map_toArray, List.map_cons, List.map_nil]); first | done | rfl | (simp only [List.length_drop, List.length_take]; rfl)) ?_; (with_reducible refine (dname_Compare.calls k t336 t335 t341 _ A17.out).mono ?_); rintro e w38 ⟨rfl, hb⟩; refine ⟨_, rfl, ?_⟩; have n0_ := Aside0.mk (blk_below (g := gb334) (o := .cells #[.string a0_0, .string a0_1, .string a0_2] 39 (0, 0)) (by (with_reducible repeat (first | refine blk_drewN ?_ _ | refine blk_drew ?_ | refine blk_alloc ?_ _)); exact BK334.out) hb); have n1_ := Aside0.mk (below_step (by repeat (first | (with_reducible first | exact HB.out | apply below_alloc | apply pw_below_drewN | apply below_drew1 | refine below_set ?_ GE334.out) | exact HB.out)) hb); clear BK334; clear HB; have BK334 := n0_; have HB := n1_; clear n0_ n1_; (try clear hb); (try clear hb2); (try clear hk); (try clear hi)))
                go_meet
                case rel => exact ⟨_, (false), (by first | rfl | (simp; done) | (simp [*]; done)), H', ⟨by first | omega | exact Nat.le_refl _⟩, ⟨by (with_reducible repeat (first | refine blk_drewN ?_ _ | refine blk_drew ?_ | refine blk_alloc ?_ _)); exact BK334.out⟩, ⟨by repeat (first | (with_reducible first | exact HB.out | apply below_alloc | apply pw_below_drewN | apply below_drew1 | refine below_set ?_ GE334.out) | exact HB.out)⟩⟩
            · rw [if_neg c35] at H
              have c35b0 : decide (0 ≤ t338) = false := decide_eq_false c35
              clear c35
              have H' := Aside0.mk H
              clear H
              go_wp2_with (first | ((with_reducible refine gate_callee (f := 29) rfl ?_); refine goesL_ (some 30) rfl rfl Tryd.func29 (by kernel_rfl) rfl #[.string t336, .string t335] rfl (by (try simp only [List.map_toArray, List.map_cons, List.map_nil]); first | done | rfl | (simp only [List.length_drop, List.length_take]; rfl)) ?_; (with_reducible refine (dname_Compare.calls k t336 t335 t341 _ A17.out).mono ?_); rintro e w39 ⟨rfl, hb⟩; refine ⟨_, rfl, ?_⟩; have n0_ := Aside0.mk (blk_below (g := gb334) (o := .cells #[.string a0_0, .string a0_1, .string a0_2] 39 (0, 0)) (by (with_reducible repeat (first | refine blk_drewN ?_ _ | refine blk_drew ?_ | refine blk_alloc ?_ _)); exact BK334.out) hb); have n1_ := Aside0.mk (below_step (by repeat (first | (with_reducible first | exact HB.out | apply below_alloc | apply pw_below_drewN | apply below_drew1 | refine below_set ?_ GE334.out) | exact HB.out)) hb); clear BK334; clear HB; have BK334 := n0_; have HB := n1_; clear n0_ n1_; (try clear hb); (try clear hb2); (try clear hk); (try clear hi)))
              go_meet
              case rel => exact ⟨_, (false), (by first | rfl | (simp; done) | (simp [*]; done)), H', ⟨by first | omega | exact Nat.le_refl _⟩, ⟨by (with_reducible repeat (first | refine blk_drewN ?_ _ | refine blk_drew ?_ | refine blk_alloc ?_ _)); exact BK334.out⟩, ⟨by repeat (first | (with_reducible first | exact HB.out | apply below_alloc | apply pw_below_drewN | apply below_drew1 | refine below_set ?_ GE334.out) | exact HB.out)⟩⟩
        · rw [if_neg c20] at H
          have c20b0 : (t338 == 0) = false := beq_eq_false_iff_ne.mpr c20
          have c20b1 : (t338 != 0) = true := bne_iff_ne.mpr c20
          have H' := Aside0.mk H
          clear H
          go_wp2_with (first | ((with_reducible refine gate_callee (f := 29) rfl ?_); refine goesL_ (some 30) rfl rfl Tryd.func29 (by kernel_rfl) rfl #[.string t336, .string t335] rfl (by (try simp only [List.map_toArray, List.map_cons, List.map_nil]); first | done | rfl | (simp only [List.length_drop, List.length_take]; rfl)) ?_; (with_reducible refine (dname_Compare.calls k t336 t335 t341 _ A17.out).mono ?_); rintro e w40 ⟨rfl, hb⟩; refine ⟨_, rfl, ?_⟩; have n0_ := Aside0.mk (blk_below (g := gb334) (o := .cells #[.string a0_0, .string a0_1, .string a0_2] 39 (0, 0)) (by (with_reducible repeat (first | refine blk_drewN ?_ _ | refine blk_drew ?_ | refine blk_alloc ?_ _)); exact BK334.out) hb); have n1_ := Aside0.mk (below_step (by repeat (first | (with_reducible first | exact HB.out | apply below_alloc | apply pw_below_drewN | apply below_drew1 | refine below_set ?_ GE334.out) | exact HB.out)) hb); clear BK334; clear HB; have BK334 := n0_; have HB := n1_; clear n0_ n1_; (try clear hb); (try clear hb2); (try clear hk); (try clear hi)))
          go_meet
          case rel => exact ⟨_, (true), (by first | rfl | (simp; done) | (simp [*]; done)), H', ⟨by first | omega | exact Nat.le_refl _⟩, ⟨by (with_reducible repeat (first | refine blk_drewN ?_ _ | refine blk_drew ?_ | refine blk_alloc ?_ _)); exact BK334.out⟩, ⟨by repeat (first | (with_reducible first | exact HB.out | apply below_alloc | apply pw_below_drewN | apply below_drew1 | refine below_set ?_ GE334.out) | exact HB.out)⟩⟩
      · rw [if_neg c19] at H
        have c19b0 : (t335.toList == t336.toList) = false := beq_eq_false_iff_ne.mpr c19
        have c19b1 : (t335.toList != t336.toList) = true := bne_iff_ne.mpr c19
        by_cases c41 : t338 = 0
        · rw [if_pos c41] at H
          have c41b0 : (t338 == 0) = true := beq_iff_eq.mpr c41
          have c41b1 : (t338 != 0) = false := bne_eq_false_iff_eq.mpr c41
          clear c41
          have H' := Aside0.mk H
          clear H
          go_wp2_with (first | ((with_reducible refine gate_callee (f := 29) rfl ?_); refine goesL_ (some 30) rfl rfl Tryd.func29 (by kernel_rfl) rfl #[.string t336, .string t335] rfl (by (try simp only [List.map_toArray, List.map_cons, List.map_nil]); first | done | rfl | (simp only [List.length_drop, List.length_take]; rfl)) ?_; (with_reducible refine (dname_Compare.calls k t336 t335 t341 _ A17.out).mono ?_); rintro e w42 ⟨rfl, hb⟩; refine ⟨_, rfl, ?_⟩; have n0_ := Aside0.mk (blk_below (g := gb334) (o := .cells #[.string a0_0, .string a0_1, .string a0_2] 39 (0, 0)) (by (with_reducible repeat (first | refine blk_drewN ?_ _ | refine blk_drew ?_ | refine blk_alloc ?_ _)); exact BK334.out) hb); have n1_ := Aside0.mk (below_step (by repeat (first | (with_reducible first | exact HB.out | apply below_alloc | apply pw_below_drewN | apply below_drew1 | refine below_set ?_ GE334.out) | exact HB.out)) hb); clear BK334; clear HB; have BK334 := n0_; have HB := n1_; clear n0_ n1_; (try clear hb); (try clear hb2); (try clear hk); (try clear hi)))
          go_meet
          case rel => exact ⟨_, (true), (by first | rfl | (simp; done) | (simp [*]; done)), H', ⟨by first | omega | exact Nat.le_refl _⟩, ⟨by (with_reducible repeat (first | refine blk_drewN ?_ _ | refine blk_drew ?_ | refine blk_alloc ?_ _)); exact BK334.out⟩, ⟨by repeat (first | (with_reducible first | exact HB.out | apply below_alloc | apply pw_below_drewN | apply below_drew1 | refine below_set ?_ GE334.out) | exact HB.out)⟩⟩
        · rw [if_neg c41] at H
          have c41b0 : (t338 == 0) = false := beq_eq_false_iff_ne.mpr c41
          have c41b1 : (t338 != 0) = true := bne_iff_ne.mpr c41
          by_cases c43 : t338 ≤ 0
          · rw [if_pos c43] at H
            have c43b0 : decide (t338 ≤ 0) = true := decide_eq_true c43
            clear c43
            by_cases c44 : t339 ≤ 0
            · rw [if_pos c44] at H
              have c44b0 : decide (t339 ≤ 0) = true := decide_eq_true c44
              clear c44
              by_cases c45 : t340 > 0
              · rw [if_pos c45] at H
                have c45b0 : decide (0 < t340) = true := decide_eq_true c45
                clear c45
                have H' := Aside0.mk H
                clear H
                go_wp2_with (first | ((with_reducible refine gate_callee (f := 29) rfl ?_); refine goesL_ (some 30) rfl rfl Tryd.func29 (by kernel_rfl) rfl #[.string t336, .string t335] rfl (by (try simp only [List.map_toArray, List.map_cons, List.map_nil]); first | done | rfl | (simp only [List.length_drop, List.length_take]; rfl)) ?_; (with_reducible refine (dname_Compare.calls k t336 t335 t341 _ A17.out).mono ?_); rintro e w46 ⟨rfl, hb⟩; refine ⟨_, rfl, ?_⟩; have n0_ := Aside0.mk (blk_below (g := gb334) (o := .cells #[.string a0_0, .string a0_1, .string a0_2] 39 (0, 0)) (by (with_reducible repeat (first | refine blk_drewN ?_ _ | refine blk_drew ?_ | refine blk_alloc ?_ _)); exact BK334.out) hb); have n1_ := Aside0.mk (below_step (by repeat (first | (with_reducible first | exact HB.out | apply below_alloc | apply pw_below_drewN | apply below_drew1 | refine below_set ?_ GE334.out) | exact HB.out)) hb); clear BK334; clear HB; have BK334 := n0_; have HB := n1_; clear n0_ n1_; (try clear hb); (try clear hb2); (try clear hk); (try clear hi)))
                go_meet
                case rel => exact ⟨_, (true), (by first | rfl | (simp; done) | (simp [*]; done)), H', ⟨by first | omega | exact Nat.le_refl _⟩, ⟨by (with_reducible repeat (first | refine blk_drewN ?_ _ | refine blk_drew ?_ | refine blk_alloc ?_ _)); exact BK334.out⟩, ⟨by repeat (first | (with_reducible first | exact HB.out | apply below_alloc | apply pw_below_drewN | apply below_drew1 | refine below_set ?_ GE334.out) | exact HB.out)⟩⟩
              · rw [if_neg c45] at H
                have c45b0 : decide (0 < t340) = false := decide_eq_false c45
                clear c45
                by_cases c47 : t338 ≥ 0
                · rw [if_pos c47] at H
                  have c47b0 : decide (0 ≤ t338) = true := decide_eq_true c47
                  clear c47
                  by_cases c48 : t339 ≥ 0
                  · rw [if_pos c48] at H
                    have c48b0 : decide (0 ≤ t339) = true := decide_eq_true c48
                    clear c48
                    have H' := Aside0.mk H
                    clear H
                    go_wp2_with (first | ((with_reducible refine gate_callee (f := 29) rfl ?_); refine goesL_ (some 30) rfl rfl Tryd.func29 (by kernel_rfl) rfl #[.string t336, .string t335] rfl (by (try simp only [List.map_toArray, List.map_cons, List.map_nil]); first | done | rfl | (simp only [List.length_drop, List.length_take]; rfl)) ?_; (with_reducible refine (dname_Compare.calls k t336 t335 t341 _ A17.out).mono ?_); rintro e w49 ⟨rfl, hb⟩; refine ⟨_, rfl, ?_⟩; have n0_ := Aside0.mk (blk_below (g := gb334) (o := .cells #[.string a0_0, .string a0_1, .string a0_2] 39 (0, 0)) (by (with_reducible repeat (first | refine blk_drewN ?_ _ | refine blk_drew ?_ | refine blk_alloc ?_ _)); exact BK334.out) hb); have n1_ := Aside0.mk (below_step (by repeat (first | (with_reducible first | exact HB.out | apply below_alloc | apply pw_below_drewN | apply below_drew1 | refine below_set ?_ GE334.out) | exact HB.out)) hb); clear BK334; clear HB; have BK334 := n0_; have HB := n1_; clear n0_ n1_; (try clear hb); (try clear hb2); (try clear hk); (try clear hi)))
                    go_meet
                    case rel => exact ⟨_, (decide (t340 < 0)), (by first | rfl | (simp; done) | (simp [*]; done)), H', ⟨by first | omega | exact Nat.le_refl _⟩, ⟨by (with_reducible repeat (first | refine blk_drewN ?_ _ | refine blk_drew ?_ | refine blk_alloc ?_ _)); exact BK334.out⟩, ⟨by repeat (first | (with_reducible first | exact HB.out | apply below_alloc | apply pw_below_drewN | apply below_drew1 | refine below_set ?_ GE334.out) | exact HB.out)⟩⟩
                  · rw [if_neg c48] at H
                    have c48b0 : decide (0 ≤ t339) = false := decide_eq_false c48
                    clear c48
                    have H' := Aside0.mk H
                    clear H
                    go_wp2_with (first | ((with_reducible refine gate_callee (f := 29) rfl ?_); refine goesL_ (some 30) rfl rfl Tryd.func29 (by kernel_rfl) rfl #[.string t336, .string t335] rfl (by (try simp only [List.map_toArray, List.map_cons, List.map_nil]); first | done | rfl | (simp only [List.length_drop, List.length_take]; rfl)) ?_; (with_reducible refine (dname_Compare.calls k t336 t335 t341 _ A17.out).mono ?_); rintro e w50 ⟨rfl, hb⟩; refine ⟨_, rfl, ?_⟩; have n0_ := Aside0.mk (blk_below (g := gb334) (o := .cells #[.string a0_0, .string a0_1, .string a0_2] 39 (0, 0)) (by (with_reducible repeat (first | refine blk_drewN ?_ _ | refine blk_drew ?_ | refine blk_alloc ?_ _)); exact BK334.out) hb); have n1_ := Aside0.mk (below_step (by repeat (first | (with_reducible first | exact HB.out | apply below_alloc | apply pw_below_drewN | apply below_drew1 | refine below_set ?_ GE334.out) | exact HB.out)) hb); clear BK334; clear HB; have BK334 := n0_; have HB := n1_; clear n0_ n1_; (try clear hb); (try clear hb2); (try clear hk); (try clear hi)))
                    go_meet
                    case rel => exact ⟨_, (false), (by first | rfl | (simp; done) | (simp [*]; done)), H', ⟨by first | omega | exact Nat.le_refl _⟩, ⟨by (with_reducible repeat (first | refine blk_drewN ?_ _ | refine blk_drew ?_ | refine blk_alloc ?_ _)); exact BK334.out⟩, ⟨by repeat (first | (with_reducible first | exact HB.out | apply below_alloc | apply pw_below_drewN | apply below_drew1 | refine below_set ?_ GE334.out) | exact HB.out)⟩⟩
                · rw [if_neg c47] at H
                  have c47b0 : decide (0 ≤ t338) = false := decide_eq_false c47
                  clear c47
                  have H' := Aside0.mk H
                  clear H
                  go_wp2_with (first | ((with_reducible refine gate_callee (f := 29) rfl ?_); refine goesL_ (some 30) rfl rfl Tryd.func29 (by kernel_rfl) rfl #[.string t336, .string t335] rfl (by (try simp only [List.map_toArray, List.map_cons, List.map_nil]); first | done | rfl | (simp only [List.length_drop, List.length_take]; rfl)) ?_; (with_reducible refine (dname_Compare.calls k t336 t335 t341 _ A17.out).mono ?_); rintro e w51 ⟨rfl, hb⟩; refine ⟨_, rfl, ?_⟩; have n0_ := Aside0.mk (blk_below (g := gb334) (o := .cells #[.string a0_0, .string a0_1, .string a0_2] 39 (0, 0)) (by (with_reducible repeat (first | refine blk_drewN ?_ _ | refine blk_drew ?_ | refine blk_alloc ?_ _)); exact BK334.out) hb); have n1_ := Aside0.mk (below_step (by repeat (first | (with_reducible first | exact HB.out | apply below_alloc | apply pw_below_drewN | apply below_drew1 | refine below_set ?_ GE334.out) | exact HB.out)) hb); clear BK334; clear HB; have BK334 := n0_; have HB := n1_; clear n0_ n1_; (try clear hb); (try clear hb2); (try clear hk); (try clear hi)))
                  go_meet
                  case rel => exact ⟨_, (false), (by first | rfl | (simp; done) | (simp [*]; done)), H', ⟨by first | omega | exact Nat.le_refl _⟩, ⟨by (with_reducible repeat (first | refine blk_drewN ?_ _ | refine blk_drew ?_ | refine blk_alloc ?_ _)); exact BK334.out⟩, ⟨by repeat (first | (with_reducible first | exact HB.out | apply below_alloc | apply pw_below_drewN | apply below_drew1 | refine below_set ?_ GE334.out) | exact HB.out)⟩⟩
            · rw [if_neg c44] at H
              have c44b0 : decide (t339 ≤ 0) = false := decide_eq_false c44
              clear c44
              by_cases c52 : t338 ≥ 0
              · rw [if_pos c52] at H
                have c52b0 : decide (0 ≤ t338) = true := decide_eq_true c52
                clear c52
                by_cases c53 : t339 ≥ 0
                · rw [if_pos c53] at H
                  have c53b0 : decide (0 ≤ t339) = true := decide_eq_true c53
                  clear c53
                  have H' := Aside0.mk H
                  clear H
                  go_wp2_with (first | ((with_reducible refine gate_callee (f := 29) rfl ?_); refine goesL_ (some 30) rfl rfl Tryd.func29 (by kernel_rfl) rfl #[.string t336, .string t335] rfl (by (try simp only [List.map_toArray, List.map_cons, List.map_nil]); first | done | rfl | (simp only [List.length_drop, List.length_take]; rfl)) ?_; (with_reducible refine (dname_Compare.calls k t336 t335 t341 _ A17.out).mono ?_); rintro e w54 ⟨rfl, hb⟩; refine ⟨_, rfl, ?_⟩; have n0_ := Aside0.mk (blk_below (g := gb334) (o := .cells #[.string a0_0, .string a0_1, .string a0_2] 39 (0, 0)) (by (with_reducible repeat (first | refine blk_drewN ?_ _ | refine blk_drew ?_ | refine blk_alloc ?_ _)); exact BK334.out) hb); have n1_ := Aside0.mk (below_step (by repeat (first | (with_reducible first | exact HB.out | apply below_alloc | apply pw_below_drewN | apply below_drew1 | refine below_set ?_ GE334.out) | exact HB.out)) hb); clear BK334; clear HB; have BK334 := n0_; have HB := n1_; clear n0_ n1_; (try clear hb); (try clear hb2); (try clear hk); (try clear hi)))
                  go_meet
                  case rel => exact ⟨_, (decide (t340 < 0)), (by first | rfl | (simp; done) | (simp [*]; done)), H', ⟨by first | omega | exact Nat.le_refl _⟩, ⟨by (with_reducible repeat (first | refine blk_drewN ?_ _ | refine blk_drew ?_ | refine blk_alloc ?_ _)); exact BK334.out⟩, ⟨by repeat (first | (with_reducible first | exact HB.out | apply below_alloc | apply pw_below_drewN | apply below_drew1 | refine below_set ?_ GE334.out) | exact HB.out)⟩⟩
                · rw [if_neg c53] at H
                  have c53b0 : decide (0 ≤ t339) = false := decide_eq_false c53
                  clear c53
                  have H' := Aside0.mk H
                  clear H
                  go_wp2_with (first | ((with_reducible refine gate_callee (f := 29) rfl ?_); refine goesL_ (some 30) rfl rfl Tryd.func29 (by kernel_rfl) rfl #[.string t336, .string t335] rfl (by (try simp only [List.map_toArray, List.map_cons, List.map_nil]); first | done | rfl | (simp only [List.length_drop, List.length_take]; rfl)) ?_; (with_reducible refine (dname_Compare.calls k t336 t335 t341 _ A17.out).mono ?_); rintro e w55 ⟨rfl, hb⟩; refine ⟨_, rfl, ?_⟩; have n0_ := Aside0.mk (blk_below (g := gb334) (o := .cells #[.string a0_0, .string a0_1, .string a0_2] 39 (0, 0)) (by (with_reducible repeat (first | refine blk_drewN ?_ _ | refine blk_drew ?_ | refine blk_alloc ?_ _)); exact BK334.out) hb); have n1_ := Aside0.mk (below_step (by repeat (first | (with_reducible first | exact HB.out | apply below_alloc | apply pw_below_drewN | apply below_drew1 | refine below_set ?_ GE334.out) | exact HB.out)) hb); clear BK334; clear HB; have BK334 := n0_; have HB := n1_; clear n0_ n1_; (try clear hb); (try clear hb2); (try clear hk); (try clear hi)))
                  go_meet
                  case rel => exact ⟨_, (false), (by first | rfl | (simp; done) | (simp [*]; done)), H', ⟨by first | omega | exact Nat.le_refl _⟩, ⟨by (with_reducible repeat (first | refine blk_drewN ?_ _ | refine blk_drew ?_ | refine blk_alloc ?_ _)); exact BK334.out⟩, ⟨by repeat (first | (with_reducible first | exact HB.out | apply below_alloc | apply pw_below_drewN | apply below_drew1 | refine below_set ?_ GE334.out) | exact HB.out)⟩⟩
              · rw [if_neg c52] at H
                have c52b0 : decide (0 ≤ t338) = false := decide_eq_false c52
                clear c52
                have H' := Aside0.mk H
                clear H
                go_wp2_with (first | ((with_reducible refine gate_callee (f := 29) rfl ?_); refine goesL_ (some 30) rfl rfl Tryd.func29 (by kernel_rfl) rfl #[.string t336, .string t335] rfl (by (try simp only [List.map_toArray, List.map_cons, List.map_nil]); first | done | rfl | (simp only [List.length_drop, List.length_take]; rfl)) ?_; (with_reducible refine (dname_Compare.calls k t336 t335 t341 _ A17.out).mono ?_); rintro e w56 ⟨rfl, hb⟩; refine ⟨_, rfl, ?_⟩; have n0_ := Aside0.mk (blk_below (g := gb334) (o := .cells #[.string a0_0, .string a0_1, .string a0_2] 39 (0, 0)) (by (with_reducible repeat (first | refine blk_drewN ?_ _ | refine blk_drew ?_ | refine blk_alloc ?_ _)); exact BK334.out) hb); have n1_ := Aside0.mk (below_step (by repeat (first | (with_reducible first | exact HB.out | apply below_alloc | apply pw_below_drewN | apply below_drew1 | refine below_set ?_ GE334.out) | exact HB.out)) hb); clear BK334; clear HB; have BK334 := n0_; have HB := n1_; clear n0_ n1_; (try clear hb); (try clear hb2); (try clear hk); (try clear hi)))
                go_meet
                case rel => exact ⟨_, (false), (by first | rfl | (simp; done) | (simp [*]; done)), H', ⟨by first | omega | exact Nat.le_refl _⟩, ⟨by (with_reducible repeat (first | refine blk_drewN ?_ _ | refine blk_drew ?_ | refine blk_alloc ?_ _)); exact BK334.out⟩, ⟨by repeat (first | (with_reducible first | exact HB.out | apply below_alloc | apply pw_below_drewN | apply below_drew1 | refine below_set ?_ GE334.out) | exact HB.out)⟩⟩
          · rw [if_neg c43] at H
            have c43b0 : decide (t338 ≤ 0) = false := decide_eq_false c43
            clear c43
            by_cases c57 : t338 ≥ 0
            · rw [if_pos c57] at H
              have c57b0 : decide (0 ≤ t338) = true := decide_eq_true c57
              clear c57
              by_cases c58 : t339 ≥ 0
              · rw [if_pos c58] at H
                have c58b0 : decide (0 ≤ t339) = true := decide_eq_true c58
                clear c58
                have H' := Aside0.mk H
                clear H
                go_wp2_with (first | ((with_reducible refine gate_callee (f := 29) rfl ?_); refine goesL_ (some 30) rfl rfl Tryd.func29 (by kernel_rfl) rfl #[.string t336, .string t335] rfl (by (try simp only [List.map_toArray, List.map_cons, List.map_nil]); first | done | rfl | (simp only [List.length_drop, List.length_take]; rfl)) ?_; (with_reducible refine (dname_Compare.calls k t336 t335 t341 _ A17.out).mono ?_); rintro e w59 ⟨rfl, hb⟩; refine ⟨_, rfl, ?_⟩; have n0_ := Aside0.mk (blk_below (g := gb334) (o := .cells #[.string a0_0, .string a0_1, .string a0_2] 39 (0, 0)) (by (with_reducible repeat (first | refine blk_drewN ?_ _ | refine blk_drew ?_ | refine blk_alloc ?_ _)); exact BK334.out) hb); have n1_ := Aside0.mk (below_step (by repeat (first | (with_reducible first | exact HB.out | apply below_alloc | apply pw_below_drewN | apply below_drew1 | refine below_set ?_ GE334.out) | exact HB.out)) hb); clear BK334; clear HB; have BK334 := n0_; have HB := n1_; clear n0_ n1_; (try clear hb); (try clear hb2); (try clear hk); (try clear hi)))
                go_meet
                case rel => exact ⟨_, (decide (t340 < 0)), (by first | rfl | (simp; done) | (simp [*]; done)), H', ⟨by first | omega | exact Nat.le_refl _⟩, ⟨by (with_reducible repeat (first | refine blk_drewN ?_ _ | refine blk_drew ?_ | refine blk_alloc ?_ _)); exact BK334.out⟩, ⟨by repeat (first | (with_reducible first | exact HB.out | apply below_alloc | apply pw_below_drewN | apply below_drew1 | refine below_set ?_ GE334.out) | exact HB.out)⟩⟩
              · rw [if_neg c58] at H
                have c58b0 : decide (0 ≤ t339) = false := decide_eq_false c58
                clear c58
                have H' := Aside0.mk H
                clear H
                go_wp2_with (first | ((with_reducible refine gate_callee (f := 29) rfl ?_); refine goesL_ (some 30) rfl rfl Tryd.func29 (by kernel_rfl) rfl #[.string t336, .string t335] rfl (by (try simp only [List.map_toArray, List.map_cons, List.map_nil]); first | done | rfl | (simp only [List.length_drop, List.length_take]; rfl)) ?_; (with_reducible refine (dname_Compare.calls k t336 t335 t341 _ A17.out).mono ?_); rintro e w60 ⟨rfl, hb⟩; refine ⟨_, rfl, ?_⟩; have n0_ := Aside0.mk (blk_below (g := gb334) (o := .cells #[.string a0_0, .string a0_1, .string a0_2] 39 (0, 0)) (by (with_reducible repeat (first | refine blk_drewN ?_ _ | refine blk_drew ?_ | refine blk_alloc ?_ _)); exact BK334.out) hb); have n1_ := Aside0.mk (below_step (by repeat (first | (with_reducible first | exact HB.out | apply below_alloc | apply pw_below_drewN | apply below_drew1 | refine below_set ?_ GE334.out) | exact HB.out)) hb); clear BK334; clear HB; have BK334 := n0_; have HB := n1_; clear n0_ n1_; (try clear hb); (try clear hb2); (try clear hk); (try clear hi)))
                go_meet
                case rel => exact ⟨_, (false), (by first | rfl | (simp; done) | (simp [*]; done)), H', ⟨by first | omega | exact Nat.le_refl _⟩, ⟨by (with_reducible repeat (first | refine blk_drewN ?_ _ | refine blk_drew ?_ | refine blk_alloc ?_ _)); exact BK334.out⟩, ⟨by repeat (first | (with_reducible first | exact HB.out | apply below_alloc | apply pw_below_drewN | apply below_drew1 | refine below_set ?_ GE334.out) | exact HB.out)⟩⟩
            · rw [if_neg c57] at H
              have c57b0 : decide (0 ≤ t338) = false := decide_eq_false c57
              clear c57
              have H' := Aside0.mk H
              clear H
              go_wp2_with (first | ((with_reducible refine gate_callee (f := 29) rfl ?_); refine goesL_ (some 30) rfl rfl Tryd.func29 (by kernel_rfl) rfl #[.string t336, .string t335] rfl (by (try simp only [List.map_toArray, List.map_cons, List.map_nil]); first | done | rfl | (simp only [List.length_drop, List.length_take]; rfl)) ?_; (with_reducible refine (dname_Compare.calls k t336 t335 t341 _ A17.out).mono ?_); rintro e w61 ⟨rfl, hb⟩; refine ⟨_, rfl, ?_⟩; have n0_ := Aside0.mk (blk_below (g := gb334) (o := .cells #[.string a0_0, .string a0_1, .string a0_2] 39 (0, 0)) (by (with_reducible repeat (first | refine blk_drewN ?_ _ | refine blk_drew ?_ | refine blk_alloc ?_ _)); exact BK334.out) hb); have n1_ := Aside0.mk (below_step (by repeat (first | (with_reducible first | exact HB.out | apply below_alloc | apply pw_below_drewN | apply below_drew1 | refine below_set ?_ GE334.out) | exact HB.out)) hb); clear BK334; clear HB; have BK334 := n0_; have HB := n1_; clear n0_ n1_; (try clear hb); (try clear hb2); (try clear hk); (try clear hi)))
              go_meet
              case rel => exact ⟨_, (false), (by first | rfl | (simp; done) | (simp [*]; done)), H', ⟨by first | omega | exact Nat.le_refl _⟩, ⟨by (with_reducible repeat (first | refine blk_drewN ?_ _ | refine blk_drew ?_ | refine blk_alloc ?_ _)); exact BK334.out⟩, ⟨by repeat (first | (with_reducible first | exact HB.out | apply below_alloc | apply pw_below_drewN | apply below_drew1 | refine below_set ?_ GE334.out) | exact HB.out)⟩⟩
    · rw [if_neg c18] at H
      have c18b0 : (t338 == (wrap64 (-t341))) = false := beq_eq_false_iff_ne.mpr c18
      have c18b1 : (t338 != (wrap64 (-t341))) = true := bne_iff_ne.mpr c18
      (first | rw [c18b0] | (simp only [i64_w, i32_w]; rw [c18b0]) | skip)
      have H' := Aside0.mk H
      clear H
      go_wp2_with (first | ((with_reducible refine gate_callee (f := 29) rfl ?_); refine goesL_ (some 30) rfl rfl Tryd.func29 (by kernel_rfl) rfl #[.string t336, .string t335] rfl (by (try simp only [List.map_toArray, List.map_cons, List.map_nil]); first | done | rfl | (simp only [List.length_drop, List.length_take]; rfl)) ?_; (with_reducible refine (dname_Compare.calls k t336 t335 t341 _ A17.out).mono ?_); rintro e w62 ⟨rfl, hb⟩; refine ⟨_, rfl, ?_⟩; have n0_ := Aside0.mk (blk_below (g := gb334) (o := .cells #[.string a0_0, .string a0_1, .string a0_2] 39 (0, 0)) (by (with_reducible repeat (first | refine blk_drewN ?_ _ | refine blk_drew ?_ | refine blk_alloc ?_ _)); exact BK334.out) hb); have n1_ := Aside0.mk (below_step (by repeat (first | (with_reducible first | exact HB.out | apply below_alloc | apply pw_below_drewN | apply below_drew1 | refine below_set ?_ GE334.out) | exact HB.out)) hb); clear BK334; clear HB; have BK334 := n0_; have HB := n1_; clear n0_ n1_; (try clear hb); (try clear hb2); (try clear hk); (try clear hi)))
      go_meet
      case rel => exact ⟨_, (true), (by first | rfl | (simp; done) | (simp [*]; done)), H', ⟨by first | omega | exact Nat.le_refl _⟩, ⟨by (with_reducible repeat (first | refine blk_drewN ?_ _ | refine blk_drew ?_ | refine blk_alloc ?_ _)); exact BK334.out⟩, ⟨by repeat (first | (with_reducible first | exact HB.out | apply below_alloc | apply pw_below_drewN | apply below_drew1 | refine below_set ?_ GE334.out) | exact HB.out)⟩⟩
  case rest =>
    clear HC8
    try clear c1
    try clear c2
    try clear p2
    try clear c3
    try clear c4
    try clear c5
    try clear p6
    try clear c7
    try clear c12
    try clear c18
    try clear c18b0
    try clear c18b1
    try clear c19
    try clear c19b0
    try clear c19b1
    try clear c20
    try clear c20b0
    try clear c20b1
    try clear c21
    try clear c21b0
    try clear c22
    try clear c22b0
    try clear c23
    try clear c23b0
    try clear c25
    try clear c25b0
    try clear c26
    try clear c26b0
    try clear c29
    try clear c30
    try clear c30b0
    try clear c31
    try clear c31b0
    try clear c35
    try clear c35b0
    try clear c36
    try clear c36b0
    try clear c41
    try clear c41b0
    try clear c41b1
    try clear c43
    try clear c43b0
    try clear c44
    try clear c44b0
    try clear c45
    try clear c45b0
    try clear c47
    try clear c47b0
    try clear c48
    try clear c48b0
    try clear c52
    try clear c52b0
    try clear c53
    try clear c53b0
    try clear c57
    try clear c57b0
    try clear c58
    try clear c58b0
    obtain ⟨kq, x64_7, rfl, HA, HJ7, BK334, HB⟩ := hcut
    cases kq with
    | zero => exact absurd HA.out (by simp [ddilaw01_DnameOrders.j0])
    | succ kj7 =>
      have H := HA.out
      clear HA
      simp only [ddilaw01_DnameOrders.j0] at H
      by_cases c63 : x64_7 = true
      · subst c63
        have H1 : (some false) = some r := by rw [if_pos rfl] at H; exact H
        clear H
        have H := H1
        clear H1
        obtain rfl := Option.some.inj H
        go_wp2
        go_ret
        exact ⟨by first | rfl | (simp [errW_none, errW_some] <;> rfl) | (simp [*, errW_none, errW_some] <;> rfl), by repeat (first | (with_reducible first | exact HB.out | apply below_alloc | apply pw_below_drewN | apply below_drew1 | refine below_set ?_ GE334.out) | exact HB.out)⟩
      · replace c63 := Bool.eq_false_iff.mpr c63
        subst c63
        have H1 : ((dname_Under.f kj7 t336 t335).bind fun t342 => (if t342 = true then (if t338 > 0 then (some false) else ((dname_Under.f kj7 t337 t335).bind fun t343 => (if t343 = true then (if t338 ≤ 0 then (if t339 ≤ 0 then ((dname_Under.f kj7 t336 t335).bind fun t344 => (if t344 = true then ((ddilaw01_awake.f kj7).bind fun t345 => (some t345)) else (some false))) else ((ddilaw01_awake.f kj7).bind fun t346 => (some t346))) else ((ddilaw01_awake.f kj7).bind fun t347 => (some t347))) else ((ddilaw01_awake.f kj7).bind fun t348 => (some t348))))) else ((dname_Under.f kj7 t337 t335).bind fun t349 => (if t349 = true then (if t338 ≤ 0 then (if t339 ≤ 0 then ((dname_Under.f kj7 t336 t335).bind fun t350 => (if t350 = true then ((ddilaw01_awake.f kj7).bind fun t351 => (some t351)) else (some false))) else ((ddilaw01_awake.f kj7).bind fun t352 => (some t352))) else ((ddilaw01_awake.f kj7).bind fun t353 => (some t353))) else ((ddilaw01_awake.f kj7).bind fun t354 => (some t354)))))) = some r := by rw [if_neg (show ¬ (false = true) by decide)] at H; exact H
        clear H
        have H := H1
        clear H1
        replace H := Option.bind_eq_some_iff.mp H
        obtain ⟨t342, A640, H⟩ := H
        replace H : (if t342 = true then (if t338 > 0 then (some false) else ((dname_Under.f kj7 t337 t335).bind fun t343 => (if t343 = true then (if t338 ≤ 0 then (if t339 ≤ 0 then ((dname_Under.f kj7 t336 t335).bind fun t344 => (if t344 = true then ((ddilaw01_awake.f kj7).bind fun t345 => (some t345)) else (some false))) else ((ddilaw01_awake.f kj7).bind fun t346 => (some t346))) else ((ddilaw01_awake.f kj7).bind fun t347 => (some t347))) else ((ddilaw01_awake.f kj7).bind fun t348 => (some t348))))) else ((dname_Under.f kj7 t337 t335).bind fun t349 => (if t349 = true then (if t338 ≤ 0 then (if t339 ≤ 0 then ((dname_Under.f kj7 t336 t335).bind fun t350 => (if t350 = true then ((ddilaw01_awake.f kj7).bind fun t351 => (some t351)) else (some false))) else ((ddilaw01_awake.f kj7).bind fun t352 => (some t352))) else ((ddilaw01_awake.f kj7).bind fun t353 => (some t353))) else ((ddilaw01_awake.f kj7).bind fun t354 => (some t354))))) = some r := H
        have A64 := Aside0.mk A640
        clear A640
        by_cases c65 : t342 = true
        · subst c65
          have H1 : (if t338 > 0 then (some false) else ((dname_Under.f kj7 t337 t335).bind fun t343 => (if t343 = true then (if t338 ≤ 0 then (if t339 ≤ 0 then ((dname_Under.f kj7 t336 t335).bind fun t344 => (if t344 = true then ((ddilaw01_awake.f kj7).bind fun t345 => (some t345)) else (some false))) else ((ddilaw01_awake.f kj7).bind fun t346 => (some t346))) else ((ddilaw01_awake.f kj7).bind fun t347 => (some t347))) else ((ddilaw01_awake.f kj7).bind fun t348 => (some t348))))) = some r := by rw [if_pos rfl] at H; exact H
          clear H
          have H := H1
          clear H1
          by_cases c66 : t338 > 0
          · rw [if_pos c66] at H
            have c66b0 : decide (0 < t338) = true := decide_eq_true c66
            clear c66
            obtain rfl := Option.some.inj H
            go_wp2_with (first | ((with_reducible refine gate_callee (f := 27) rfl ?_); refine goesL_ (some 67) rfl rfl Tryd.func27 (by kernel_rfl) rfl #[.string t336, .string t335] rfl (by (try simp only [List.map_toArray, List.map_cons, List.map_nil]); first | done | rfl | (simp only [List.length_drop, List.length_take]; rfl)) ?_; (with_reducible refine (dname_Under.calls kj7 t336 t335 true _ A64.out).mono ?_); rintro e w67 ⟨rfl, hb⟩; refine ⟨_, rfl, ?_⟩; have n0_ := Aside0.mk (blk_below (g := gb334) (o := .cells #[.string a0_0, .string a0_1, .string a0_2] 39 (0, 0)) (by (with_reducible repeat (first | refine blk_drewN ?_ _ | refine blk_drew ?_ | refine blk_alloc ?_ _)); exact BK334.out) hb); have n1_ := Aside0.mk (below_step (by repeat (first | (with_reducible first | exact HB.out | apply below_alloc | apply pw_below_drewN | apply below_drew1 | refine below_set ?_ GE334.out) | exact HB.out)) hb); clear BK334; clear HB; have BK334 := n0_; have HB := n1_; clear n0_ n1_; (try clear hb); (try clear hb2); (try clear hk); (try clear hi)))
            go_ret
            exact ⟨by first | rfl | (simp [errW_none, errW_some] <;> rfl) | (simp [*, errW_none, errW_some] <;> rfl), by repeat (first | (with_reducible first | exact HB.out | apply below_alloc | apply pw_below_drewN | apply below_drew1 | refine below_set ?_ GE334.out) | exact HB.out)⟩
          · rw [if_neg c66] at H
            have c66b0 : decide (0 < t338) = false := decide_eq_false c66
            clear c66
            replace H := Option.bind_eq_some_iff.mp H
            obtain ⟨t343, A680, H⟩ := H
            replace H : (if t343 = true then (if t338 ≤ 0 then (if t339 ≤ 0 then ((dname_Under.f kj7 t336 t335).bind fun t344 => (if t344 = true then ((ddilaw01_awake.f kj7).bind fun t345 => (some t345)) else (some false))) else ((ddilaw01_awake.f kj7).bind fun t346 => (some t346))) else ((ddilaw01_awake.f kj7).bind fun t347 => (some t347))) else ((ddilaw01_awake.f kj7).bind fun t348 => (some t348))) = some r := H
            have A68 := Aside0.mk A680
            clear A680
            by_cases c69 : t343 = true
            · subst c69
              have H1 : (if t338 ≤ 0 then (if t339 ≤ 0 then ((dname_Under.f kj7 t336 t335).bind fun t344 => (if t344 = true then ((ddilaw01_awake.f kj7).bind fun t345 => (some t345)) else (some false))) else ((ddilaw01_awake.f kj7).bind fun t346 => (some t346))) else ((ddilaw01_awake.f kj7).bind fun t347 => (some t347))) = some r := by rw [if_pos rfl] at H; exact H
              clear H
              have H := H1
              clear H1
              by_cases c70 : t338 ≤ 0
              · rw [if_pos c70] at H
                have c70b0 : decide (t338 ≤ 0) = true := decide_eq_true c70
                clear c70
                by_cases c71 : t339 ≤ 0
                · rw [if_pos c71] at H
                  have c71b0 : decide (t339 ≤ 0) = true := decide_eq_true c71
                  clear c71
                  replace H := Option.bind_eq_some_iff.mp H
                  obtain ⟨t344, A720, H⟩ := H
                  replace H : (if t344 = true then ((ddilaw01_awake.f kj7).bind fun t345 => (some t345)) else (some false)) = some r := H
                  have A72 := Aside0.mk A720
                  clear A720
                  by_cases c73 : t344 = true
                  · subst c73
                    have H1 : ((ddilaw01_awake.f kj7).bind fun t345 => (some t345)) = some r := by rw [if_pos rfl] at H; exact H
                    clear H
                    have H := H1
                    clear H1
                    replace H := Option.bind_eq_some_iff.mp H
                    obtain ⟨t345, A740, H⟩ := H
                    replace H : (some t345) = some r := H
                    have A74 := Aside0.mk A740
                    clear A740
                    obtain rfl := Option.some.inj H
                    go_wp2_with (first | ((with_reducible refine gate_callee (f := 27) rfl ?_); refine goesL_ (some 67) rfl rfl Tryd.func27 (by kernel_rfl) rfl #[.string t336, .string t335] rfl (by (try simp only [List.map_toArray, List.map_cons, List.map_nil]); first | done | rfl | (simp only [List.length_drop, List.length_take]; rfl)) ?_; (with_reducible refine (dname_Under.calls kj7 t336 t335 true _ A64.out).mono ?_); rintro e w75 ⟨rfl, hb⟩; refine ⟨_, rfl, ?_⟩; have n0_ := Aside0.mk (blk_below (g := gb334) (o := .cells #[.string a0_0, .string a0_1, .string a0_2] 39 (0, 0)) (by (with_reducible repeat (first | refine blk_drewN ?_ _ | refine blk_drew ?_ | refine blk_alloc ?_ _)); exact BK334.out) hb); have n1_ := Aside0.mk (below_step (by repeat (first | (with_reducible first | exact HB.out | apply below_alloc | apply pw_below_drewN | apply below_drew1 | refine below_set ?_ GE334.out) | exact HB.out)) hb); clear BK334; clear HB; have BK334 := n0_; have HB := n1_; clear n0_ n1_; (try clear hb); (try clear hb2); (try clear hk); (try clear hi)) | (go_at_call 27; (with_reducible refine (dname_Under.calls kj7 t337 t335 true _ A68.out).mono ?_); rintro e w76 ⟨rfl, hb⟩; have n0_ := Aside0.mk (blk_below (g := gb334) (o := .cells #[.string a0_0, .string a0_1, .string a0_2] 39 (0, 0)) (by (with_reducible repeat (first | refine blk_drewN ?_ _ | refine blk_drew ?_ | refine blk_alloc ?_ _)); exact BK334.out) hb); have n1_ := Aside0.mk (below_step (by repeat (first | (with_reducible first | exact HB.out | apply below_alloc | apply pw_below_drewN | apply below_drew1 | refine below_set ?_ GE334.out) | exact HB.out)) hb); clear BK334; clear HB; have BK334 := n0_; have HB := n1_; clear n0_ n1_; (try clear hb); (try clear hb2); (try clear hk); (try clear hi)) | (go_at_call 27; (with_reducible refine (dname_Under.calls kj7 t336 t335 true _ A72.out).mono ?_); rintro e w77 ⟨rfl, hb⟩; have n0_ := Aside0.mk (blk_below (g := gb334) (o := .cells #[.string a0_0, .string a0_1, .string a0_2] 39 (0, 0)) (by (with_reducible repeat (first | refine blk_drewN ?_ _ | refine blk_drew ?_ | refine blk_alloc ?_ _)); exact BK334.out) hb); have n1_ := Aside0.mk (below_step (by repeat (first | (with_reducible first | exact HB.out | apply below_alloc | apply pw_below_drewN | apply below_drew1 | refine below_set ?_ GE334.out) | exact HB.out)) hb); clear BK334; clear HB; have BK334 := n0_; have HB := n1_; clear n0_ n1_; (try clear hb); (try clear hb2); (try clear hk); (try clear hi)) | ((with_reducible refine gate_callee (f := 17) rfl ?_); refine goesL_ (some 91) rfl rfl Tryd.func17 (by kernel_rfl) rfl #[] rfl (by (try simp only [List.map_toArray, List.map_cons, List.map_nil]); first | done | rfl | (simp only [List.length_drop, List.length_take]; rfl)) ?_; (with_reducible refine (ddilaw01_awake.calls kj7  t345 _ A74.out).mono ?_); rintro e w78 ⟨rfl, hb⟩; refine ⟨_, rfl, ?_⟩; have n0_ := Aside0.mk (blk_below (g := gb334) (o := .cells #[.string a0_0, .string a0_1, .string a0_2] 39 (0, 0)) (by (with_reducible repeat (first | refine blk_drewN ?_ _ | refine blk_drew ?_ | refine blk_alloc ?_ _)); exact BK334.out) hb); have n1_ := Aside0.mk (below_step (by repeat (first | (with_reducible first | exact HB.out | apply below_alloc | apply pw_below_drewN | apply below_drew1 | refine below_set ?_ GE334.out) | exact HB.out)) hb); clear BK334; clear HB; have BK334 := n0_; have HB := n1_; clear n0_ n1_; (try clear hb); (try clear hb2); (try clear hk); (try clear hi)))
                    go_ret
                    exact ⟨by first | rfl | (simp [errW_none, errW_some] <;> rfl) | (simp [*, errW_none, errW_some] <;> rfl), by repeat (first | (with_reducible first | exact HB.out | apply below_alloc | apply pw_below_drewN | apply below_drew1 | refine below_set ?_ GE334.out) | exact HB.out)⟩
                  · replace c73 := Bool.eq_false_iff.mpr c73
                    subst c73
                    have H1 : (some false) = some r := by rw [if_neg (show ¬ (false = true) by decide)] at H; exact H
                    clear H
                    have H := H1
                    clear H1
                    obtain rfl := Option.some.inj H
                    go_wp2_with (first | ((with_reducible refine gate_callee (f := 27) rfl ?_); refine goesL_ (some 67) rfl rfl Tryd.func27 (by kernel_rfl) rfl #[.string t336, .string t335] rfl (by (try simp only [List.map_toArray, List.map_cons, List.map_nil]); first | done | rfl | (simp only [List.length_drop, List.length_take]; rfl)) ?_; (with_reducible refine (dname_Under.calls kj7 t336 t335 true _ A64.out).mono ?_); rintro e w79 ⟨rfl, hb⟩; refine ⟨_, rfl, ?_⟩; have n0_ := Aside0.mk (blk_below (g := gb334) (o := .cells #[.string a0_0, .string a0_1, .string a0_2] 39 (0, 0)) (by (with_reducible repeat (first | refine blk_drewN ?_ _ | refine blk_drew ?_ | refine blk_alloc ?_ _)); exact BK334.out) hb); have n1_ := Aside0.mk (below_step (by repeat (first | (with_reducible first | exact HB.out | apply below_alloc | apply pw_below_drewN | apply below_drew1 | refine below_set ?_ GE334.out) | exact HB.out)) hb); clear BK334; clear HB; have BK334 := n0_; have HB := n1_; clear n0_ n1_; (try clear hb); (try clear hb2); (try clear hk); (try clear hi)) | (go_at_call 27; (with_reducible refine (dname_Under.calls kj7 t337 t335 true _ A68.out).mono ?_); rintro e w80 ⟨rfl, hb⟩; have n0_ := Aside0.mk (blk_below (g := gb334) (o := .cells #[.string a0_0, .string a0_1, .string a0_2] 39 (0, 0)) (by (with_reducible repeat (first | refine blk_drewN ?_ _ | refine blk_drew ?_ | refine blk_alloc ?_ _)); exact BK334.out) hb); have n1_ := Aside0.mk (below_step (by repeat (first | (with_reducible first | exact HB.out | apply below_alloc | apply pw_below_drewN | apply below_drew1 | refine below_set ?_ GE334.out) | exact HB.out)) hb); clear BK334; clear HB; have BK334 := n0_; have HB := n1_; clear n0_ n1_; (try clear hb); (try clear hb2); (try clear hk); (try clear hi)) | (go_at_call 27; (with_reducible refine (dname_Under.calls kj7 t336 t335 false _ A72.out).mono ?_); rintro e w81 ⟨rfl, hb⟩; have n0_ := Aside0.mk (blk_below (g := gb334) (o := .cells #[.string a0_0, .string a0_1, .string a0_2] 39 (0, 0)) (by (with_reducible repeat (first | refine blk_drewN ?_ _ | refine blk_drew ?_ | refine blk_alloc ?_ _)); exact BK334.out) hb); have n1_ := Aside0.mk (below_step (by repeat (first | (with_reducible first | exact HB.out | apply below_alloc | apply pw_below_drewN | apply below_drew1 | refine below_set ?_ GE334.out) | exact HB.out)) hb); clear BK334; clear HB; have BK334 := n0_; have HB := n1_; clear n0_ n1_; (try clear hb); (try clear hb2); (try clear hk); (try clear hi)))
                    go_ret
                    exact ⟨by first | rfl | (simp [errW_none, errW_some] <;> rfl) | (simp [*, errW_none, errW_some] <;> rfl), by repeat (first | (with_reducible first | exact HB.out | apply below_alloc | apply pw_below_drewN | apply below_drew1 | refine below_set ?_ GE334.out) | exact HB.out)⟩
                · rw [if_neg c71] at H
                  have c71b0 : decide (t339 ≤ 0) = false := decide_eq_false c71
                  clear c71
                  replace H := Option.bind_eq_some_iff.mp H
                  obtain ⟨t346, A820, H⟩ := H
                  replace H : (some t346) = some r := H
                  have A82 := Aside0.mk A820
                  clear A820
                  obtain rfl := Option.some.inj H
                  go_wp2_with (first | ((with_reducible refine gate_callee (f := 27) rfl ?_); refine goesL_ (some 67) rfl rfl Tryd.func27 (by kernel_rfl) rfl #[.string t336, .string t335] rfl (by (try simp only [List.map_toArray, List.map_cons, List.map_nil]); first | done | rfl | (simp only [List.length_drop, List.length_take]; rfl)) ?_; (with_reducible refine (dname_Under.calls kj7 t336 t335 true _ A64.out).mono ?_); rintro e w83 ⟨rfl, hb⟩; refine ⟨_, rfl, ?_⟩; have n0_ := Aside0.mk (blk_below (g := gb334) (o := .cells #[.string a0_0, .string a0_1, .string a0_2] 39 (0, 0)) (by (with_reducible repeat (first | refine blk_drewN ?_ _ | refine blk_drew ?_ | refine blk_alloc ?_ _)); exact BK334.out) hb); have n1_ := Aside0.mk (below_step (by repeat (first | (with_reducible first | exact HB.out | apply below_alloc | apply pw_below_drewN | apply below_drew1 | refine below_set ?_ GE334.out) | exact HB.out)) hb); clear BK334; clear HB; have BK334 := n0_; have HB := n1_; clear n0_ n1_; (try clear hb); (try clear hb2); (try clear hk); (try clear hi)) | (go_at_call 27; (with_reducible refine (dname_Under.calls kj7 t337 t335 true _ A68.out).mono ?_); rintro e w84 ⟨rfl, hb⟩; have n0_ := Aside0.mk (blk_below (g := gb334) (o := .cells #[.string a0_0, .string a0_1, .string a0_2] 39 (0, 0)) (by (with_reducible repeat (first | refine blk_drewN ?_ _ | refine blk_drew ?_ | refine blk_alloc ?_ _)); exact BK334.out) hb); have n1_ := Aside0.mk (below_step (by repeat (first | (with_reducible first | exact HB.out | apply below_alloc | apply pw_below_drewN | apply below_drew1 | refine below_set ?_ GE334.out) | exact HB.out)) hb); clear BK334; clear HB; have BK334 := n0_; have HB := n1_; clear n0_ n1_; (try clear hb); (try clear hb2); (try clear hk); (try clear hi)) | ((with_reducible refine gate_callee (f := 17) rfl ?_); refine goesL_ (some 91) rfl rfl Tryd.func17 (by kernel_rfl) rfl #[] rfl (by (try simp only [List.map_toArray, List.map_cons, List.map_nil]); first | done | rfl | (simp only [List.length_drop, List.length_take]; rfl)) ?_; (with_reducible refine (ddilaw01_awake.calls kj7  t346 _ A82.out).mono ?_); rintro e w85 ⟨rfl, hb⟩; refine ⟨_, rfl, ?_⟩; have n0_ := Aside0.mk (blk_below (g := gb334) (o := .cells #[.string a0_0, .string a0_1, .string a0_2] 39 (0, 0)) (by (with_reducible repeat (first | refine blk_drewN ?_ _ | refine blk_drew ?_ | refine blk_alloc ?_ _)); exact BK334.out) hb); have n1_ := Aside0.mk (below_step (by repeat (first | (with_reducible first | exact HB.out | apply below_alloc | apply pw_below_drewN | apply below_drew1 | refine below_set ?_ GE334.out) | exact HB.out)) hb); clear BK334; clear HB; have BK334 := n0_; have HB := n1_; clear n0_ n1_; (try clear hb); (try clear hb2); (try clear hk); (try clear hi)))
                  go_ret
                  exact ⟨by first | rfl | (simp [errW_none, errW_some] <;> rfl) | (simp [*, errW_none, errW_some] <;> rfl), by repeat (first | (with_reducible first | exact HB.out | apply below_alloc | apply pw_below_drewN | apply below_drew1 | refine below_set ?_ GE334.out) | exact HB.out)⟩
              · rw [if_neg c70] at H
                have c70b0 : decide (t338 ≤ 0) = false := decide_eq_false c70
                clear c70
                replace H := Option.bind_eq_some_iff.mp H
                obtain ⟨t347, A860, H⟩ := H
                replace H : (some t347) = some r := H
                have A86 := Aside0.mk A860
                clear A860
                obtain rfl := Option.some.inj H
                go_wp2_with (first | ((with_reducible refine gate_callee (f := 27) rfl ?_); refine goesL_ (some 67) rfl rfl Tryd.func27 (by kernel_rfl) rfl #[.string t336, .string t335] rfl (by (try simp only [List.map_toArray, List.map_cons, List.map_nil]); first | done | rfl | (simp only [List.length_drop, List.length_take]; rfl)) ?_; (with_reducible refine (dname_Under.calls kj7 t336 t335 true _ A64.out).mono ?_); rintro e w87 ⟨rfl, hb⟩; refine ⟨_, rfl, ?_⟩; have n0_ := Aside0.mk (blk_below (g := gb334) (o := .cells #[.string a0_0, .string a0_1, .string a0_2] 39 (0, 0)) (by (with_reducible repeat (first | refine blk_drewN ?_ _ | refine blk_drew ?_ | refine blk_alloc ?_ _)); exact BK334.out) hb); have n1_ := Aside0.mk (below_step (by repeat (first | (with_reducible first | exact HB.out | apply below_alloc | apply pw_below_drewN | apply below_drew1 | refine below_set ?_ GE334.out) | exact HB.out)) hb); clear BK334; clear HB; have BK334 := n0_; have HB := n1_; clear n0_ n1_; (try clear hb); (try clear hb2); (try clear hk); (try clear hi)) | (go_at_call 27; (with_reducible refine (dname_Under.calls kj7 t337 t335 true _ A68.out).mono ?_); rintro e w88 ⟨rfl, hb⟩; have n0_ := Aside0.mk (blk_below (g := gb334) (o := .cells #[.string a0_0, .string a0_1, .string a0_2] 39 (0, 0)) (by (with_reducible repeat (first | refine blk_drewN ?_ _ | refine blk_drew ?_ | refine blk_alloc ?_ _)); exact BK334.out) hb); have n1_ := Aside0.mk (below_step (by repeat (first | (with_reducible first | exact HB.out | apply below_alloc | apply pw_below_drewN | apply below_drew1 | refine below_set ?_ GE334.out) | exact HB.out)) hb); clear BK334; clear HB; have BK334 := n0_; have HB := n1_; clear n0_ n1_; (try clear hb); (try clear hb2); (try clear hk); (try clear hi)) | ((with_reducible refine gate_callee (f := 17) rfl ?_); refine goesL_ (some 91) rfl rfl Tryd.func17 (by kernel_rfl) rfl #[] rfl (by (try simp only [List.map_toArray, List.map_cons, List.map_nil]); first | done | rfl | (simp only [List.length_drop, List.length_take]; rfl)) ?_; (with_reducible refine (ddilaw01_awake.calls kj7  t347 _ A86.out).mono ?_); rintro e w89 ⟨rfl, hb⟩; refine ⟨_, rfl, ?_⟩; have n0_ := Aside0.mk (blk_below (g := gb334) (o := .cells #[.string a0_0, .string a0_1, .string a0_2] 39 (0, 0)) (by (with_reducible repeat (first | refine blk_drewN ?_ _ | refine blk_drew ?_ | refine blk_alloc ?_ _)); exact BK334.out) hb); have n1_ := Aside0.mk (below_step (by repeat (first | (with_reducible first | exact HB.out | apply below_alloc | apply pw_below_drewN | apply below_drew1 | refine below_set ?_ GE334.out) | exact HB.out)) hb); clear BK334; clear HB; have BK334 := n0_; have HB := n1_; clear n0_ n1_; (try clear hb); (try clear hb2); (try clear hk); (try clear hi)))
                go_ret
                exact ⟨by first | rfl | (simp [errW_none, errW_some] <;> rfl) | (simp [*, errW_none, errW_some] <;> rfl), by repeat (first | (with_reducible first | exact HB.out | apply below_alloc | apply pw_below_drewN | apply below_drew1 | refine below_set ?_ GE334.out) | exact HB.out)⟩
            · replace c69 := Bool.eq_false_iff.mpr c69
              subst c69
              have H1 : ((ddilaw01_awake.f kj7).bind fun t348 => (some t348)) = some r := by rw [if_neg (show ¬ (false = true) by decide)] at H; exact H
              clear H
              have H := H1
              clear H1
              replace H := Option.bind_eq_some_iff.mp H
              obtain ⟨t348, A900, H⟩ := H
              replace H : (some t348) = some r := H
              have A90 := Aside0.mk A900
              clear A900
              obtain rfl := Option.some.inj H
              go_wp2_with (first | ((with_reducible refine gate_callee (f := 27) rfl ?_); refine goesL_ (some 67) rfl rfl Tryd.func27 (by kernel_rfl) rfl #[.string t336, .string t335] rfl (by (try simp only [List.map_toArray, List.map_cons, List.map_nil]); first | done | rfl | (simp only [List.length_drop, List.length_take]; rfl)) ?_; (with_reducible refine (dname_Under.calls kj7 t336 t335 true _ A64.out).mono ?_); rintro e w91 ⟨rfl, hb⟩; refine ⟨_, rfl, ?_⟩; have n0_ := Aside0.mk (blk_below (g := gb334) (o := .cells #[.string a0_0, .string a0_1, .string a0_2] 39 (0, 0)) (by (with_reducible repeat (first | refine blk_drewN ?_ _ | refine blk_drew ?_ | refine blk_alloc ?_ _)); exact BK334.out) hb); have n1_ := Aside0.mk (below_step (by repeat (first | (with_reducible first | exact HB.out | apply below_alloc | apply pw_below_drewN | apply below_drew1 | refine below_set ?_ GE334.out) | exact HB.out)) hb); clear BK334; clear HB; have BK334 := n0_; have HB := n1_; clear n0_ n1_; (try clear hb); (try clear hb2); (try clear hk); (try clear hi)) | (go_at_call 27; (with_reducible refine (dname_Under.calls kj7 t337 t335 false _ A68.out).mono ?_); rintro e w92 ⟨rfl, hb⟩; have n0_ := Aside0.mk (blk_below (g := gb334) (o := .cells #[.string a0_0, .string a0_1, .string a0_2] 39 (0, 0)) (by (with_reducible repeat (first | refine blk_drewN ?_ _ | refine blk_drew ?_ | refine blk_alloc ?_ _)); exact BK334.out) hb); have n1_ := Aside0.mk (below_step (by repeat (first | (with_reducible first | exact HB.out | apply below_alloc | apply pw_below_drewN | apply below_drew1 | refine below_set ?_ GE334.out) | exact HB.out)) hb); clear BK334; clear HB; have BK334 := n0_; have HB := n1_; clear n0_ n1_; (try clear hb); (try clear hb2); (try clear hk); (try clear hi)) | ((with_reducible refine gate_callee (f := 17) rfl ?_); refine goesL_ (some 91) rfl rfl Tryd.func17 (by kernel_rfl) rfl #[] rfl (by (try simp only [List.map_toArray, List.map_cons, List.map_nil]); first | done | rfl | (simp only [List.length_drop, List.length_take]; rfl)) ?_; (with_reducible refine (ddilaw01_awake.calls kj7  t348 _ A90.out).mono ?_); rintro e w93 ⟨rfl, hb⟩; refine ⟨_, rfl, ?_⟩; have n0_ := Aside0.mk (blk_below (g := gb334) (o := .cells #[.string a0_0, .string a0_1, .string a0_2] 39 (0, 0)) (by (with_reducible repeat (first | refine blk_drewN ?_ _ | refine blk_drew ?_ | refine blk_alloc ?_ _)); exact BK334.out) hb); have n1_ := Aside0.mk (below_step (by repeat (first | (with_reducible first | exact HB.out | apply below_alloc | apply pw_below_drewN | apply below_drew1 | refine below_set ?_ GE334.out) | exact HB.out)) hb); clear BK334; clear HB; have BK334 := n0_; have HB := n1_; clear n0_ n1_; (try clear hb); (try clear hb2); (try clear hk); (try clear hi)))
              go_ret
              exact ⟨by first | rfl | (simp [errW_none, errW_some] <;> rfl) | (simp [*, errW_none, errW_some] <;> rfl), by repeat (first | (with_reducible first | exact HB.out | apply below_alloc | apply pw_below_drewN | apply below_drew1 | refine below_set ?_ GE334.out) | exact HB.out)⟩
        · replace c65 := Bool.eq_false_iff.mpr c65
          subst c65
          have H1 : ((dname_Under.f kj7 t337 t335).bind fun t349 => (if t349 = true then (if t338 ≤ 0 then (if t339 ≤ 0 then ((dname_Under.f kj7 t336 t335).bind fun t350 => (if t350 = true then ((ddilaw01_awake.f kj7).bind fun t351 => (some t351)) else (some false))) else ((ddilaw01_awake.f kj7).bind fun t352 => (some t352))) else ((ddilaw01_awake.f kj7).bind fun t353 => (some t353))) else ((ddilaw01_awake.f kj7).bind fun t354 => (some t354)))) = some r := by rw [if_neg (show ¬ (false = true) by decide)] at H; exact H
          clear H
          have H := H1
          clear H1
          replace H := Option.bind_eq_some_iff.mp H
          obtain ⟨t349, A940, H⟩ := H
          replace H : (if t349 = true then (if t338 ≤ 0 then (if t339 ≤ 0 then ((dname_Under.f kj7 t336 t335).bind fun t350 => (if t350 = true then ((ddilaw01_awake.f kj7).bind fun t351 => (some t351)) else (some false))) else ((ddilaw01_awake.f kj7).bind fun t352 => (some t352))) else ((ddilaw01_awake.f kj7).bind fun t353 => (some t353))) else ((ddilaw01_awake.f kj7).bind fun t354 => (some t354))) = some r := H
          have A94 := Aside0.mk A940
          clear A940
          by_cases c95 : t349 = true
          · subst c95
            have H1 : (if t338 ≤ 0 then (if t339 ≤ 0 then ((dname_Under.f kj7 t336 t335).bind fun t350 => (if t350 = true then ((ddilaw01_awake.f kj7).bind fun t351 => (some t351)) else (some false))) else ((ddilaw01_awake.f kj7).bind fun t352 => (some t352))) else ((ddilaw01_awake.f kj7).bind fun t353 => (some t353))) = some r := by rw [if_pos rfl] at H; exact H
            clear H
            have H := H1
            clear H1
            by_cases c96 : t338 ≤ 0
            · rw [if_pos c96] at H
              have c96b0 : decide (t338 ≤ 0) = true := decide_eq_true c96
              clear c96
              by_cases c97 : t339 ≤ 0
              · rw [if_pos c97] at H
                have c97b0 : decide (t339 ≤ 0) = true := decide_eq_true c97
                clear c97
                replace H := Option.bind_eq_some_iff.mp H
                obtain ⟨t350, A980, H⟩ := H
                replace H : (if t350 = true then ((ddilaw01_awake.f kj7).bind fun t351 => (some t351)) else (some false)) = some r := H
                have A98 := Aside0.mk A980
                clear A980
                by_cases c99 : t350 = true
                · subst c99
                  have H1 : ((ddilaw01_awake.f kj7).bind fun t351 => (some t351)) = some r := by rw [if_pos rfl] at H; exact H
                  clear H
                  have H := H1
                  clear H1
                  replace H := Option.bind_eq_some_iff.mp H
                  obtain ⟨t351, A1000, H⟩ := H
                  replace H : (some t351) = some r := H
                  have A100 := Aside0.mk A1000
                  clear A1000
                  obtain rfl := Option.some.inj H
                  go_wp2_with (first | ((with_reducible refine gate_callee (f := 27) rfl ?_); refine goesL_ (some 67) rfl rfl Tryd.func27 (by kernel_rfl) rfl #[.string t336, .string t335] rfl (by (try simp only [List.map_toArray, List.map_cons, List.map_nil]); first | done | rfl | (simp only [List.length_drop, List.length_take]; rfl)) ?_; (with_reducible refine (dname_Under.calls kj7 t336 t335 false _ A64.out).mono ?_); rintro e w101 ⟨rfl, hb⟩; refine ⟨_, rfl, ?_⟩; have n0_ := Aside0.mk (blk_below (g := gb334) (o := .cells #[.string a0_0, .string a0_1, .string a0_2] 39 (0, 0)) (by (with_reducible repeat (first | refine blk_drewN ?_ _ | refine blk_drew ?_ | refine blk_alloc ?_ _)); exact BK334.out) hb); have n1_ := Aside0.mk (below_step (by repeat (first | (with_reducible first | exact HB.out | apply below_alloc | apply pw_below_drewN | apply below_drew1 | refine below_set ?_ GE334.out) | exact HB.out)) hb); clear BK334; clear HB; have BK334 := n0_; have HB := n1_; clear n0_ n1_; (try clear hb); (try clear hb2); (try clear hk); (try clear hi)) | (go_at_call 27; (with_reducible refine (dname_Under.calls kj7 t337 t335 true _ A94.out).mono ?_); rintro e w102 ⟨rfl, hb⟩; have n0_ := Aside0.mk (blk_below (g := gb334) (o := .cells #[.string a0_0, .string a0_1, .string a0_2] 39 (0, 0)) (by (with_reducible repeat (first | refine blk_drewN ?_ _ | refine blk_drew ?_ | refine blk_alloc ?_ _)); exact BK334.out) hb); have n1_ := Aside0.mk (below_step (by repeat (first | (with_reducible first | exact HB.out | apply below_alloc | apply pw_below_drewN | apply below_drew1 | refine below_set ?_ GE334.out) | exact HB.out)) hb); clear BK334; clear HB; have BK334 := n0_; have HB := n1_; clear n0_ n1_; (try clear hb); (try clear hb2); (try clear hk); (try clear hi)) | (go_at_call 27; (with_reducible refine (dname_Under.calls kj7 t336 t335 true _ A98.out).mono ?_); rintro e w103 ⟨rfl, hb⟩; have n0_ := Aside0.mk (blk_below (g := gb334) (o := .cells #[.string a0_0, .string a0_1, .string a0_2] 39 (0, 0)) (by (with_reducible repeat (first | refine blk_drewN ?_ _ | refine blk_drew ?_ | refine blk_alloc ?_ _)); exact BK334.out) hb); have n1_ := Aside0.mk (below_step (by repeat (first | (with_reducible first | exact HB.out | apply below_alloc | apply pw_below_drewN | apply below_drew1 | refine below_set ?_ GE334.out) | exact HB.out)) hb); clear BK334; clear HB; have BK334 := n0_; have HB := n1_; clear n0_ n1_; (try clear hb); (try clear hb2); (try clear hk); (try clear hi)) | ((with_reducible refine gate_callee (f := 17) rfl ?_); refine goesL_ (some 91) rfl rfl Tryd.func17 (by kernel_rfl) rfl #[] rfl (by (try simp only [List.map_toArray, List.map_cons, List.map_nil]); first | done | rfl | (simp only [List.length_drop, List.length_take]; rfl)) ?_; (with_reducible refine (ddilaw01_awake.calls kj7  t351 _ A100.out).mono ?_); rintro e w104 ⟨rfl, hb⟩; refine ⟨_, rfl, ?_⟩; have n0_ := Aside0.mk (blk_below (g := gb334) (o := .cells #[.string a0_0, .string a0_1, .string a0_2] 39 (0, 0)) (by (with_reducible repeat (first | refine blk_drewN ?_ _ | refine blk_drew ?_ | refine blk_alloc ?_ _)); exact BK334.out) hb); have n1_ := Aside0.mk (below_step (by repeat (first | (with_reducible first | exact HB.out | apply below_alloc | apply pw_below_drewN | apply below_drew1 | refine below_set ?_ GE334.out) | exact HB.out)) hb); clear BK334; clear HB; have BK334 := n0_; have HB := n1_; clear n0_ n1_; (try clear hb); (try clear hb2); (try clear hk); (try clear hi)))
                  go_ret
                  exact ⟨by first | rfl | (simp [errW_none, errW_some] <;> rfl) | (simp [*, errW_none, errW_some] <;> rfl), by repeat (first | (with_reducible first | exact HB.out | apply below_alloc | apply pw_below_drewN | apply below_drew1 | refine below_set ?_ GE334.out) | exact HB.out)⟩
                · replace c99 := Bool.eq_false_iff.mpr c99
                  subst c99
                  have H1 : (some false) = some r := by rw [if_neg (show ¬ (false = true) by decide)] at H; exact H
                  clear H
                  have H := H1
                  clear H1
                  obtain rfl := Option.some.inj H
                  go_wp2_with (first | ((with_reducible refine gate_callee (f := 27) rfl ?_); refine goesL_ (some 67) rfl rfl Tryd.func27 (by kernel_rfl) rfl #[.string t336, .string t335] rfl (by (try simp only [List.map_toArray, List.map_cons, List.map_nil]); first | done | rfl | (simp only [List.length_drop, List.length_take]; rfl)) ?_; (with_reducible refine (dname_Under.calls kj7 t336 t335 false _ A64.out).mono ?_); rintro e w105 ⟨rfl, hb⟩; refine ⟨_, rfl, ?_⟩; have n0_ := Aside0.mk (blk_below (g := gb334) (o := .cells #[.string a0_0, .string a0_1, .string a0_2] 39 (0, 0)) (by (with_reducible repeat (first | refine blk_drewN ?_ _ | refine blk_drew ?_ | refine blk_alloc ?_ _)); exact BK334.out) hb); have n1_ := Aside0.mk (below_step (by repeat (first | (with_reducible first | exact HB.out | apply below_alloc | apply pw_below_drewN | apply below_drew1 | refine below_set ?_ GE334.out) | exact HB.out)) hb); clear BK334; clear HB; have BK334 := n0_; have HB := n1_; clear n0_ n1_; (try clear hb); (try clear hb2); (try clear hk); (try clear hi)) | (go_at_call 27; (with_reducible refine (dname_Under.calls kj7 t337 t335 true _ A94.out).mono ?_); rintro e w106 ⟨rfl, hb⟩; have n0_ := Aside0.mk (blk_below (g := gb334) (o := .cells #[.string a0_0, .string a0_1, .string a0_2] 39 (0, 0)) (by (with_reducible repeat (first | refine blk_drewN ?_ _ | refine blk_drew ?_ | refine blk_alloc ?_ _)); exact BK334.out) hb); have n1_ := Aside0.mk (below_step (by repeat (first | (with_reducible first | exact HB.out | apply below_alloc | apply pw_below_drewN | apply below_drew1 | refine below_set ?_ GE334.out) | exact HB.out)) hb); clear BK334; clear HB; have BK334 := n0_; have HB := n1_; clear n0_ n1_; (try clear hb); (try clear hb2); (try clear hk); (try clear hi)) | (go_at_call 27; (with_reducible refine (dname_Under.calls kj7 t336 t335 false _ A98.out).mono ?_); rintro e w107 ⟨rfl, hb⟩; have n0_ := Aside0.mk (blk_below (g := gb334) (o := .cells #[.string a0_0, .string a0_1, .string a0_2] 39 (0, 0)) (by (with_reducible repeat (first | refine blk_drewN ?_ _ | refine blk_drew ?_ | refine blk_alloc ?_ _)); exact BK334.out) hb); have n1_ := Aside0.mk (below_step (by repeat (first | (with_reducible first | exact HB.out | apply below_alloc | apply pw_below_drewN | apply below_drew1 | refine below_set ?_ GE334.out) | exact HB.out)) hb); clear BK334; clear HB; have BK334 := n0_; have HB := n1_; clear n0_ n1_; (try clear hb); (try clear hb2); (try clear hk); (try clear hi)))
                  go_ret
                  exact ⟨by first | rfl | (simp [errW_none, errW_some] <;> rfl) | (simp [*, errW_none, errW_some] <;> rfl), by repeat (first | (with_reducible first | exact HB.out | apply below_alloc | apply pw_below_drewN | apply below_drew1 | refine below_set ?_ GE334.out) | exact HB.out)⟩
              · rw [if_neg c97] at H
                have c97b0 : decide (t339 ≤ 0) = false := decide_eq_false c97
                clear c97
                replace H := Option.bind_eq_some_iff.mp H
                obtain ⟨t352, A1080, H⟩ := H
                replace H : (some t352) = some r := H
                have A108 := Aside0.mk A1080
                clear A1080
                obtain rfl := Option.some.inj H
                go_wp2_with (first | ((with_reducible refine gate_callee (f := 27) rfl ?_); refine goesL_ (some 67) rfl rfl Tryd.func27 (by kernel_rfl) rfl #[.string t336, .string t335] rfl (by (try simp only [List.map_toArray, List.map_cons, List.map_nil]); first | done | rfl | (simp only [List.length_drop, List.length_take]; rfl)) ?_; (with_reducible refine (dname_Under.calls kj7 t336 t335 false _ A64.out).mono ?_); rintro e w109 ⟨rfl, hb⟩; refine ⟨_, rfl, ?_⟩; have n0_ := Aside0.mk (blk_below (g := gb334) (o := .cells #[.string a0_0, .string a0_1, .string a0_2] 39 (0, 0)) (by (with_reducible repeat (first | refine blk_drewN ?_ _ | refine blk_drew ?_ | refine blk_alloc ?_ _)); exact BK334.out) hb); have n1_ := Aside0.mk (below_step (by repeat (first | (with_reducible first | exact HB.out | apply below_alloc | apply pw_below_drewN | apply below_drew1 | refine below_set ?_ GE334.out) | exact HB.out)) hb); clear BK334; clear HB; have BK334 := n0_; have HB := n1_; clear n0_ n1_; (try clear hb); (try clear hb2); (try clear hk); (try clear hi)) | (go_at_call 27; (with_reducible refine (dname_Under.calls kj7 t337 t335 true _ A94.out).mono ?_); rintro e w110 ⟨rfl, hb⟩; have n0_ := Aside0.mk (blk_below (g := gb334) (o := .cells #[.string a0_0, .string a0_1, .string a0_2] 39 (0, 0)) (by (with_reducible repeat (first | refine blk_drewN ?_ _ | refine blk_drew ?_ | refine blk_alloc ?_ _)); exact BK334.out) hb); have n1_ := Aside0.mk (below_step (by repeat (first | (with_reducible first | exact HB.out | apply below_alloc | apply pw_below_drewN | apply below_drew1 | refine below_set ?_ GE334.out) | exact HB.out)) hb); clear BK334; clear HB; have BK334 := n0_; have HB := n1_; clear n0_ n1_; (try clear hb); (try clear hb2); (try clear hk); (try clear hi)) | ((with_reducible refine gate_callee (f := 17) rfl ?_); refine goesL_ (some 91) rfl rfl Tryd.func17 (by kernel_rfl) rfl #[] rfl (by (try simp only [List.map_toArray, List.map_cons, List.map_nil]); first | done | rfl | (simp only [List.length_drop, List.length_take]; rfl)) ?_; (with_reducible refine (ddilaw01_awake.calls kj7  t352 _ A108.out).mono ?_); rintro e w111 ⟨rfl, hb⟩; refine ⟨_, rfl, ?_⟩; have n0_ := Aside0.mk (blk_below (g := gb334) (o := .cells #[.string a0_0, .string a0_1, .string a0_2] 39 (0, 0)) (by (with_reducible repeat (first | refine blk_drewN ?_ _ | refine blk_drew ?_ | refine blk_alloc ?_ _)); exact BK334.out) hb); have n1_ := Aside0.mk (below_step (by repeat (first | (with_reducible first | exact HB.out | apply below_alloc | apply pw_below_drewN | apply below_drew1 | refine below_set ?_ GE334.out) | exact HB.out)) hb); clear BK334; clear HB; have BK334 := n0_; have HB := n1_; clear n0_ n1_; (try clear hb); (try clear hb2); (try clear hk); (try clear hi)))
                go_ret
                exact ⟨by first | rfl | (simp [errW_none, errW_some] <;> rfl) | (simp [*, errW_none, errW_some] <;> rfl), by repeat (first | (with_reducible first | exact HB.out | apply below_alloc | apply pw_below_drewN | apply below_drew1 | refine below_set ?_ GE334.out) | exact HB.out)⟩
            · rw [if_neg c96] at H
              have c96b0 : decide (t338 ≤ 0) = false := decide_eq_false c96
              clear c96
              replace H := Option.bind_eq_some_iff.mp H
              obtain ⟨t353, A1120, H⟩ := H
              replace H : (some t353) = some r := H
              have A112 := Aside0.mk A1120
              clear A1120
              obtain rfl := Option.some.inj H
              go_wp2_with (first | ((with_reducible refine gate_callee (f := 27) rfl ?_); refine goesL_ (some 67) rfl rfl Tryd.func27 (by kernel_rfl) rfl #[.string t336, .string t335] rfl (by (try simp only [List.map_toArray, List.map_cons, List.map_nil]); first | done | rfl | (simp only [List.length_drop, List.length_take]; rfl)) ?_; (with_reducible refine (dname_Under.calls kj7 t336 t335 false _ A64.out).mono ?_); rintro e w113 ⟨rfl, hb⟩; refine ⟨_, rfl, ?_⟩; have n0_ := Aside0.mk (blk_below (g := gb334) (o := .cells #[.string a0_0, .string a0_1, .string a0_2] 39 (0, 0)) (by (with_reducible repeat (first | refine blk_drewN ?_ _ | refine blk_drew ?_ | refine blk_alloc ?_ _)); exact BK334.out) hb); have n1_ := Aside0.mk (below_step (by repeat (first | (with_reducible first | exact HB.out | apply below_alloc | apply pw_below_drewN | apply below_drew1 | refine below_set ?_ GE334.out) | exact HB.out)) hb); clear BK334; clear HB; have BK334 := n0_; have HB := n1_; clear n0_ n1_; (try clear hb); (try clear hb2); (try clear hk); (try clear hi)) | (go_at_call 27; (with_reducible refine (dname_Under.calls kj7 t337 t335 true _ A94.out).mono ?_); rintro e w114 ⟨rfl, hb⟩; have n0_ := Aside0.mk (blk_below (g := gb334) (o := .cells #[.string a0_0, .string a0_1, .string a0_2] 39 (0, 0)) (by (with_reducible repeat (first | refine blk_drewN ?_ _ | refine blk_drew ?_ | refine blk_alloc ?_ _)); exact BK334.out) hb); have n1_ := Aside0.mk (below_step (by repeat (first | (with_reducible first | exact HB.out | apply below_alloc | apply pw_below_drewN | apply below_drew1 | refine below_set ?_ GE334.out) | exact HB.out)) hb); clear BK334; clear HB; have BK334 := n0_; have HB := n1_; clear n0_ n1_; (try clear hb); (try clear hb2); (try clear hk); (try clear hi)) | ((with_reducible refine gate_callee (f := 17) rfl ?_); refine goesL_ (some 91) rfl rfl Tryd.func17 (by kernel_rfl) rfl #[] rfl (by (try simp only [List.map_toArray, List.map_cons, List.map_nil]); first | done | rfl | (simp only [List.length_drop, List.length_take]; rfl)) ?_; (with_reducible refine (ddilaw01_awake.calls kj7  t353 _ A112.out).mono ?_); rintro e w115 ⟨rfl, hb⟩; refine ⟨_, rfl, ?_⟩; have n0_ := Aside0.mk (blk_below (g := gb334) (o := .cells #[.string a0_0, .string a0_1, .string a0_2] 39 (0, 0)) (by (with_reducible repeat (first | refine blk_drewN ?_ _ | refine blk_drew ?_ | refine blk_alloc ?_ _)); exact BK334.out) hb); have n1_ := Aside0.mk (below_step (by repeat (first | (with_reducible first | exact HB.out | apply below_alloc | apply pw_below_drewN | apply below_drew1 | refine below_set ?_ GE334.out) | exact HB.out)) hb); clear BK334; clear HB; have BK334 := n0_; have HB := n1_; clear n0_ n1_; (try clear hb); (try clear hb2); (try clear hk); (try clear hi)))
              go_ret
              exact ⟨by first | rfl | (simp [errW_none, errW_some] <;> rfl) | (simp [*, errW_none, errW_some] <;> rfl), by repeat (first | (with_reducible first | exact HB.out | apply below_alloc | apply pw_below_drewN | apply below_drew1 | refine below_set ?_ GE334.out) | exact HB.out)⟩
          · replace c95 := Bool.eq_false_iff.mpr c95
            subst c95
            have H1 : ((ddilaw01_awake.f kj7).bind fun t354 => (some t354)) = some r := by rw [if_neg (show ¬ (false = true) by decide)] at H; exact H
            clear H
            have H := H1
            clear H1
            replace H := Option.bind_eq_some_iff.mp H
            obtain ⟨t354, A1160, H⟩ := H
            replace H : (some t354) = some r := H
            have A116 := Aside0.mk A1160
            clear A1160
            obtain rfl := Option.some.inj H
            go_wp2_with (first | ((with_reducible refine gate_callee (f := 27) rfl ?_); refine goesL_ (some 67) rfl rfl Tryd.func27 (by kernel_rfl) rfl #[.string t336, .string t335] rfl (by (try simp only [List.map_toArray, List.map_cons, List.map_nil]); first | done | rfl | (simp only [List.length_drop, List.length_take]; rfl)) ?_; (with_reducible refine (dname_Under.calls kj7 t336 t335 false _ A64.out).mono ?_); rintro e w117 ⟨rfl, hb⟩; refine ⟨_, rfl, ?_⟩; have n0_ := Aside0.mk (blk_below (g := gb334) (o := .cells #[.string a0_0, .string a0_1, .string a0_2] 39 (0, 0)) (by (with_reducible repeat (first | refine blk_drewN ?_ _ | refine blk_drew ?_ | refine blk_alloc ?_ _)); exact BK334.out) hb); have n1_ := Aside0.mk (below_step (by repeat (first | (with_reducible first | exact HB.out | apply below_alloc | apply pw_below_drewN | apply below_drew1 | refine below_set ?_ GE334.out) | exact HB.out)) hb); clear BK334; clear HB; have BK334 := n0_; have HB := n1_; clear n0_ n1_; (try clear hb); (try clear hb2); (try clear hk); (try clear hi)) | (go_at_call 27; (with_reducible refine (dname_Under.calls kj7 t337 t335 false _ A94.out).mono ?_); rintro e w118 ⟨rfl, hb⟩; have n0_ := Aside0.mk (blk_below (g := gb334) (o := .cells #[.string a0_0, .string a0_1, .string a0_2] 39 (0, 0)) (by (with_reducible repeat (first | refine blk_drewN ?_ _ | refine blk_drew ?_ | refine blk_alloc ?_ _)); exact BK334.out) hb); have n1_ := Aside0.mk (below_step (by repeat (first | (with_reducible first | exact HB.out | apply below_alloc | apply pw_below_drewN | apply below_drew1 | refine below_set ?_ GE334.out) | exact HB.out)) hb); clear BK334; clear HB; have BK334 := n0_; have HB := n1_; clear n0_ n1_; (try clear hb); (try clear hb2); (try clear hk); (try clear hi)) | ((with_reducible refine gate_callee (f := 17) rfl ?_); refine goesL_ (some 91) rfl rfl Tryd.func17 (by kernel_rfl) rfl #[] rfl (by (try simp only [List.map_toArray, List.map_cons, List.map_nil]); first | done | rfl | (simp only [List.length_drop, List.length_take]; rfl)) ?_; (with_reducible refine (ddilaw01_awake.calls kj7  t354 _ A116.out).mono ?_); rintro e w119 ⟨rfl, hb⟩; refine ⟨_, rfl, ?_⟩; have n0_ := Aside0.mk (blk_below (g := gb334) (o := .cells #[.string a0_0, .string a0_1, .string a0_2] 39 (0, 0)) (by (with_reducible repeat (first | refine blk_drewN ?_ _ | refine blk_drew ?_ | refine blk_alloc ?_ _)); exact BK334.out) hb); have n1_ := Aside0.mk (below_step (by repeat (first | (with_reducible first | exact HB.out | apply below_alloc | apply pw_below_drewN | apply below_drew1 | refine below_set ?_ GE334.out) | exact HB.out)) hb); clear BK334; clear HB; have BK334 := n0_; have HB := n1_; clear n0_ n1_; (try clear hb); (try clear hb2); (try clear hk); (try clear hi)))
            go_ret
            exact ⟨by first | rfl | (simp [errW_none, errW_some] <;> rfl) | (simp [*, errW_none, errW_some] <;> rfl), by repeat (first | (with_reducible first | exact HB.out | apply below_alloc | apply pw_below_drewN | apply below_drew1 | refine below_set ?_ GE334.out) | exact HB.out)⟩

end Go.Proofs.YtfcgconojomfpaaDoor.Pa
