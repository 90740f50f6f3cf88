-- Written by a program of this session out of the translation's own print; Lean checks it.
import Derived.Test.YtannhjclhdennaaDoorPax0
import Derived.Test.YtannhjclhdennaaDoorPax1
import Derived.Test.YtannhjclhdennaaDoorPax6
import Derived.Test.YtannhjclhdennaaDoorPax7
import Derived.Test.YtannhjclhdennaaDoorPax13
import Derived.Test.YtannhjclhdennaaDoorPax14
namespace Go.Proofs.YtannhjclhdennaaDoor.Pa
open Go.RowKit Go.Proofs.YtannhjclhdennaaDoorW.PrintWords Go.Proofs.YtannhjclhdennaaDoorW.PrintLast Go.Proofs.YtannhjclhdennaaDoorW.PrintMore
attribute [local go_sem] max2_int min2_int max_two min_two max_three min_three max_four min_four   -- for this text's walks alone
set_option linter.unusedVariables false
set_option linter.unusedSimpArgs false

attribute [local go_sem high] eqA23
/-! ### ddilaw31_MinimizeLittle: function 7 -/
mutual
def ddilaw31_MinimizeLittle.j0 : Nat → ByteArray → Int → Int → Bool → Bool → ByteArray → Int → ByteArray → Int → Option (Bool)
  | 0, _, _, _, _, _, _, _, _, _ => none
  | k + 1, x1, x2, x7, x9, x26, x288000, x288001, x293000, x293001 => if x26 = true then (if x9 = true then (if (x293000.toList == x288000.toList && (x293001 == x288001)) = true then (if x7 = 0 then ((ddilaw31_awake.f k).bind fun t293 => (some t293)) else (if x7 = 1 then ((ddilaw31_awake.f k).bind fun t294 => (some t294)) else (some false))) else (some false)) else (some false)) else (if x288000.toList = x1.toList then (ddilaw31_MinimizeLittle.j1 k x1 x2 x7 x9 true x288000 x288001 x293000 x293001) else ((dname_Under.f k x288000 x1).bind fun t295 => (ddilaw31_MinimizeLittle.j1 k x1 x2 x7 x9 (!t295) x288000 x288001 x293000 x293001)))
def ddilaw31_MinimizeLittle.j1 : Nat → ByteArray → Int → Int → Bool → Bool → ByteArray → Int → ByteArray → Int → Option (Bool)
  | 0, _, _, _, _, _, _, _, _, _ => none
  | k + 1, x1, x2, x7, x9, x54, x288000, x288001, x293000, x293001 => if x54 = true then (if x9 = true then (if (x293000.toList == x288000.toList && (x293001 == x288001)) = true then (if x7 = 0 then ((ddilaw31_awake.f k).bind fun t296 => (some t296)) else (some false)) else (some false)) else (some false)) else ((dname_Labels.f k x293000).bind fun t297 => ((dname_Labels.f k x1).bind fun t300 => (if x7 = 1 then (if (wrap64 ((t297.length : Int) - (t300.length : Int))) ≥ 1 then (if (wrap64 ((t297.length : Int) - (t300.length : Int))) ≤ (wrap64 (1 + x2)) then ((ddilaw31_awake.f k).bind fun t303 => (some t303)) else (some false)) else (some false)) else (some false))))
end
def ddilaw31_MinimizeLittle.f (k : Nat) (a0_0 : ByteArray) (a0_1 : Int) (a1 : ByteArray) (a2 : Int) : Option (Bool) := (minimize_Reveals.f k a0_0 a0_1 a1).bind fun t288 => ((minimize_Next.f k a0_0 a0_1 a1 a2).bind fun bt289 => (if a2 < 0 then (ddilaw31_MinimizeLittle.j0 k a1 a2 t288 bt289.2.2 true a0_0 a0_1 bt289.1 bt289.2.1) else (ddilaw31_MinimizeLittle.j0 k a1 a2 t288 bt289.2.2 (decide (a2 ≥ 10)) a0_0 a0_1 bt289.1 bt289.2.1)))
theorem ddilaw31_MinimizeLittle.mono_l : ∀ k, (∀ y0 y1 y2 y3 y4 y5 y6 y7 y8, LeO (ddilaw31_MinimizeLittle.j0 k y0 y1 y2 y3 y4 y5 y6 y7 y8) (ddilaw31_MinimizeLittle.j0 (k + 1) y0 y1 y2 y3 y4 y5 y6 y7 y8)) ∧ (∀ y0 y1 y2 y3 y4 y5 y6 y7 y8, LeO (ddilaw31_MinimizeLittle.j1 k y0 y1 y2 y3 y4 y5 y6 y7 y8) (ddilaw31_MinimizeLittle.j1 (k + 1) y0 y1 y2 y3 y4 y5 y6 y7 y8))
  | 0 => ⟨fun _ _ _ _ _ _ _ _ _ r h => by simp [ddilaw31_MinimizeLittle.j0] at h, fun _ _ _ _ _ _ _ _ _ r h => by simp [ddilaw31_MinimizeLittle.j1] at h⟩
  | k + 1 => by
    obtain ⟨ih0, ih1⟩ := ddilaw31_MinimizeLittle.mono_l k
    refine ⟨?_, ?_⟩
    · intro y0 y1 y2 y3 y4 y5 y6 y7 y8
      unfold ddilaw31_MinimizeLittle.j0
      repeat' first
      | (with_reducible exact ih0 _ _ _ _ _ _ _ _ _)
      | (with_reducible exact ih1 _ _ _ _ _ _ _ _ _)
      | (with_reducible exact ddilaw31_awake.mono _)
      | (with_reducible exact dname_Labels.mono _ _)
      | (with_reducible exact dname_Under.mono _ _ _)
      | (with_reducible exact minimize_Next.mono _ _ _ _ _)
      | (with_reducible exact minimize_Reveals.mono _ _ _ _)
      | (with_reducible exact LeO.refl _)
      | (with_reducible exact LeO.none _)
      | (with_reducible refine LeO.ite ?_ ?_)
      | (with_reducible refine LeO.bind ?_ (fun _ => ?_))
      | exact ih0 _ _ _ _ _ _ _ _ _
      | exact ih1 _ _ _ _ _ _ _ _ _
      | exact ddilaw31_awake.mono _
      | exact dname_Labels.mono _ _
      | exact dname_Under.mono _ _ _
      | exact minimize_Next.mono _ _ _ _ _
      | exact minimize_Reveals.mono _ _ _ _
      | exact LeO.none _
      | refine LeO.ite ?_ ?_
      | refine LeO.bind ?_ (fun _ => ?_)
    · intro y0 y1 y2 y3 y4 y5 y6 y7 y8
      unfold ddilaw31_MinimizeLittle.j1
      repeat' first
      | (with_reducible exact ih0 _ _ _ _ _ _ _ _ _)
      | (with_reducible exact ih1 _ _ _ _ _ _ _ _ _)
      | (with_reducible exact ddilaw31_awake.mono _)
      | (with_reducible exact dname_Labels.mono _ _)
      | (with_reducible exact dname_Under.mono _ _ _)
      | (with_reducible exact minimize_Next.mono _ _ _ _ _)
      | (with_reducible exact minimize_Reveals.mono _ _ _ _)
      | (with_reducible exact LeO.refl _)
      | (with_reducible exact LeO.none _)
      | (with_reducible refine LeO.ite ?_ ?_)
      | (with_reducible refine LeO.bind ?_ (fun _ => ?_))
      | exact ih0 _ _ _ _ _ _ _ _ _
      | exact ih1 _ _ _ _ _ _ _ _ _
      | exact ddilaw31_awake.mono _
      | exact dname_Labels.mono _ _
      | exact dname_Under.mono _ _ _
      | exact minimize_Next.mono _ _ _ _ _
      | exact minimize_Reveals.mono _ _ _ _
      | exact LeO.none _
      | refine LeO.ite ?_ ?_
      | refine LeO.bind ?_ (fun _ => ?_)
theorem ddilaw31_MinimizeLittle.mono : ∀ a0 a1 a2 a3 k, LeO (ddilaw31_MinimizeLittle.f k a0 a1 a2 a3) (ddilaw31_MinimizeLittle.f (k + 1) a0 a1 a2 a3) := by
  intro a0 a1 a2 a3 k
  obtain ⟨ih0, ih1⟩ := ddilaw31_MinimizeLittle.mono_l k
  unfold ddilaw31_MinimizeLittle.f
  repeat' first
      | (with_reducible exact ih0 _ _ _ _ _ _ _ _ _)
      | (with_reducible exact ih1 _ _ _ _ _ _ _ _ _)
      | (with_reducible exact ddilaw31_awake.mono _)
      | (with_reducible exact dname_Labels.mono _ _)
      | (with_reducible exact dname_Under.mono _ _ _)
      | (with_reducible exact minimize_Next.mono _ _ _ _ _)
      | (with_reducible exact minimize_Reveals.mono _ _ _ _)
      | (with_reducible exact LeO.refl _)
      | (with_reducible exact LeO.none _)
      | (with_reducible refine LeO.ite ?_ ?_)
      | (with_reducible refine LeO.bind ?_ (fun _ => ?_))
      | exact ih0 _ _ _ _ _ _ _ _ _
      | exact ih1 _ _ _ _ _ _ _ _ _
      | exact ddilaw31_awake.mono _
      | exact dname_Labels.mono _ _
      | exact dname_Under.mono _ _ _
      | exact minimize_Next.mono _ _ _ _ _
      | exact minimize_Reveals.mono _ _ _ _
      | exact LeO.none _
      | refine LeO.ite ?_ ?_
      | refine LeO.bind ?_ (fun _ => ?_)
set_option maxHeartbeats 8000000 in
set_option maxRecDepth 100000 in
theorem ddilaw31_MinimizeLittle.calls (k : Nat) (a0_0 : ByteArray) (a0_1 : Int) (a1 : ByteArray) (a2 : Int) (r : Bool) (w : World) (h : ddilaw31_MinimizeLittle.f k a0_0 a0_1 a1 a2 = some r) :
    Calls Tryd.prog 7 #[.agg #[.string a0_0, .int .i64 a0_1], .string a1, .int .i64 a2] w fun e w' => e = .returned (.bool r) ∧ Below w.heap.size w w' := by
  have hu23 := Tryd.underlying23
  have HB := Aside0.mk (Below.refl w.heap.size w)
  have H : ((minimize_Reveals.f k a0_0 a0_1 a1).bind fun t288 => ((minimize_Next.f k a0_0 a0_1 a1 a2).bind fun bt289 => (if a2 < 0 then (ddilaw31_MinimizeLittle.j0 k a1 a2 t288 bt289.2.2 true a0_0 a0_1 bt289.1 bt289.2.1) else (ddilaw31_MinimizeLittle.j0 k a1 a2 t288 bt289.2.2 (decide (a2 ≥ 10)) a0_0 a0_1 bt289.1 bt289.2.1)))) = some r := h
  clear h
  replace H := Option.bind_eq_some_iff.mp H
  obtain ⟨t288, A40, H⟩ := H
  replace H : ((minimize_Next.f k a0_0 a0_1 a1 a2).bind fun bt289 => (if a2 < 0 then (ddilaw31_MinimizeLittle.j0 k a1 a2 t288 bt289.2.2 true a0_0 a0_1 bt289.1 bt289.2.1) else (ddilaw31_MinimizeLittle.j0 k a1 a2 t288 bt289.2.2 (decide (a2 ≥ 10)) a0_0 a0_1 bt289.1 bt289.2.1))) = some r := H
  have A4 := Aside0.mk A40
  clear A40
  replace H := Option.bind_eq_some_iff.mp H
  obtain ⟨⟨t289, t290, t291⟩, A50, H⟩ := H
  replace H : (if a2 < 0 then (ddilaw31_MinimizeLittle.j0 k a1 a2 t288 t291 true a0_0 a0_1 t289 t290) else (ddilaw31_MinimizeLittle.j0 k a1 a2 t288 t291 (decide (a2 ≥ 10)) a0_0 a0_1 t289 t290)) = some r := H
  have A5 := Aside0.mk A50
  clear A50
  have HC6 := Aside0.mk H
  clear H
  go_enter Tryd.func7, Tryd.ntmps7
  go_upto_region 3 with (first | ((with_reducible refine gate_dst (N := 3) rfl ?_); refine box_event ?hg (N := 3) ?hd (cs := #[.string a0_0, .int .i64 a0_1]) (t := 23) ?hr ?_; (case hd => rfl); (case hg => rfl); (case hr => first | (go_simp; done) | (go_simp; rfl)); intro gb287 hg w7 hbox hb; have n0_ := Aside0.mk (below_step (by repeat (first | (with_reducible first | exact HB.out | apply below_alloc | apply pw_below_drewN | apply below_drew1) | exact HB.out)) hb); have n1_ := Aside0.mk (hbox); have n2_ := Aside0.mk ((by rw [hg]; exact (below_size (by repeat (first | (with_reducible first | exact HB.out | apply below_alloc | apply pw_below_drewN | apply below_drew1) | exact HB.out))) : w.heap.size ≤ gb287)); have n3_ := Aside0.mk ((by rw [hg]; exact (below_size (by repeat (first | (with_reducible first | exact HB.out | apply below_alloc | apply pw_below_drewN | apply below_drew1) | exact HB.out))) : w.heap.size ≤ gb287)); clear HB; have HB := n0_; have BK287 := n1_; have GW287 := n2_; have GE287 := n3_; clear n0_ n1_ n2_ n3_; clear hb hbox hg; have hcz8_0 : w7.cell? ⟨gb287, 0, none⟩ = some (.string a0_0) := (blk_cell BK287.out 0).trans rfl; have hcz8_1 : w7.cell? ⟨gb287, 1, none⟩ = some (.int .i64 a0_1) := (blk_cell BK287.out 1).trans rfl; have hfz8_0 := blk_frozen BK287.out 0; have hfz8_1 := blk_frozen BK287.out 1) | ((with_reducible refine gate_callee (f := 13) rfl ?_); refine goesL_ (some 13) rfl rfl Tryd.func13 (by kernel_rfl) rfl #[.agg #[.string a0_0, .int .i64 a0_1], .string a1] rfl (by (try simp only [List.map_toArray, List.map_cons, List.map_nil]); first | done | rfl | (simp only [List.length_drop, List.length_take]; rfl)) ?_; (with_reducible refine (minimize_Reveals.calls k a0_0 a0_1 a1 t288 _ A4.out).mono ?_); rintro e w9 ⟨rfl, hb⟩; refine ⟨_, rfl, ?_⟩; have n0_ := Aside0.mk (blk_below (g := gb287) (o := .cells #[.string a0_0, .int .i64 a0_1] 23 (0, 0)) (by (with_reducible repeat (first | refine blk_drewN ?_ _ | refine blk_drew ?_ | refine blk_alloc ?_ _)); exact BK287.out) hb); have n1_ := Aside0.mk (below_step (by repeat (first | (with_reducible first | exact HB.out | apply below_alloc | apply pw_below_drewN | apply below_drew1 | refine below_set ?_ GE287.out) | exact HB.out)) hb); clear BK287; clear HB; have BK287 := n0_; have HB := n1_; clear n0_ n1_; (try clear hb); (try clear hb2); (try clear hk); (try clear hi); have hcz10_0 : w9.cell? ⟨gb287, 0, none⟩ = some (.string a0_0) := (blk_cell BK287.out 0).trans rfl; have hcz10_1 : w9.cell? ⟨gb287, 1, none⟩ = some (.int .i64 a0_1) := (blk_cell BK287.out 1).trans rfl; have hfz10_0 := blk_frozen BK287.out 0; have hfz10_1 := blk_frozen BK287.out 1) | ((with_reducible refine gate_callee (f := 8) rfl ?_); refine goesL_ (some 18) rfl rfl Tryd.func8 (by kernel_rfl) rfl #[.agg #[.string a0_0, .int .i64 a0_1], .string a1, .int .i64 a2] rfl (by (try simp only [List.map_toArray, List.map_cons, List.map_nil]); first | done | rfl | (simp only [List.length_drop, List.length_take]; rfl)) ?_; (with_reducible refine (minimize_Next.calls k a0_0 a0_1 a1 a2 t289 t290 t291 _ A5.out).mono ?_); rintro e w11 ⟨rfl, hb⟩; refine ⟨_, rfl, ?_⟩; have n0_ := Aside0.mk (blk_below (g := gb287) (o := .cells #[.string a0_0, .int .i64 a0_1] 23 (0, 0)) (by (with_reducible repeat (first | refine blk_drewN ?_ _ | refine blk_drew ?_ | refine blk_alloc ?_ _)); exact BK287.out) hb); have n1_ := Aside0.mk (below_step (by repeat (first | (with_reducible first | exact HB.out | apply below_alloc | apply pw_below_drewN | apply below_drew1 | refine below_set ?_ GE287.out) | exact HB.out)) hb); clear BK287; clear HB; have BK287 := n0_; have HB := n1_; clear n0_ n1_; (try clear hb); (try clear hb2); (try clear hk); (try clear hi)) | ((with_reducible refine gate_dst (N := 8) rfl ?_); refine box_event ?hg (N := 8) ?hd (cs := #[.string (⟨#[]⟩ : ByteArray), .int .i64 0]) (t := 23) ?hr ?_; (case hd => rfl); (case hg => rfl); (case hr => first | (go_simp; done) | (go_simp; rfl)); intro gb292 hg w12 hbox hb; have n0_ := Aside0.mk (blk_below (g := gb287) (o := .cells #[.string a0_0, .int .i64 a0_1] 23 (0, 0)) (by (with_reducible repeat (first | refine blk_drewN ?_ _ | refine blk_drew ?_ | refine blk_alloc ?_ _)); exact BK287.out) hb); have n1_ := Aside0.mk (below_step (by repeat (first | (with_reducible first | exact HB.out | apply below_alloc | apply pw_below_drewN | apply below_drew1 | refine below_set ?_ GE287.out) | exact HB.out)) hb); have n2_ := Aside0.mk (hbox); have n3_ := Aside0.mk ((by rw [hg]; exact (below_size (by repeat (first | (with_reducible first | exact HB.out | apply below_alloc | apply pw_below_drewN | apply below_drew1 | refine below_set ?_ GE287.out) | exact HB.out))) : w.heap.size ≤ gb292)); have n4_ := Aside0.mk ((by rw [hg]; exact (below_size (by repeat (first | (with_reducible first | exact HB.out | apply below_alloc | apply pw_below_drewN | apply below_drew1 | refine below_set ?_ GE287.out) | exact HB.out))) : w.heap.size ≤ gb292)); have n5_ := Aside0.mk ((by rw [hg]; exact Nat.ne_of_lt (blk_lt (g := gb287) (o := .cells #[.string a0_0, .int .i64 a0_1] 23 (0, 0)) (by (with_reducible repeat (first | refine blk_drewN ?_ _ | refine blk_drew ?_ | refine blk_alloc ?_ _)); exact BK287.out)) : gb287 ≠ gb292)); have n6_ := Aside0.mk ((by rw [hg]; exact Nat.ne_of_gt (blk_lt (g := gb287) (o := .cells #[.string a0_0, .int .i64 a0_1] 23 (0, 0)) (by (with_reducible repeat (first | refine blk_drewN ?_ _ | refine blk_drew ?_ | refine blk_alloc ?_ _)); exact BK287.out)) : gb292 ≠ gb287)); clear BK287; clear HB; have BK287 := n0_; have HB := n1_; have BK292 := n2_; have GW292 := n3_; have GE292 := n4_; have NB287_292 := n5_; have NB292_287 := n6_; clear n0_ n1_ n2_ n3_ n4_ n5_ n6_; clear hb hbox hg; have hnb13 := NB292_287.out; have hnc13 := NB287_292.out; have hcz14_0 : w12.cell? ⟨gb292, 0, none⟩ = some (.string (⟨#[]⟩ : ByteArray)) := (blk_cell BK292.out 0).trans rfl; have hcz14_1 : w12.cell? ⟨gb292, 1, none⟩ = some (.int .i64 0) := (blk_cell BK292.out 1).trans rfl; have hfz14_0 := blk_frozen BK292.out 0; have hfz14_1 := blk_frozen BK292.out 1))
  (try simp only [Act.put, List.setIfInBounds_toArray, List.set_cons_zero, List.set_cons_succ])
  go_cut [26] (fun v26 wc => ∃ (kq : Nat) (x26_5 : Bool), v26 = .bool x26_5 ∧ Aside0 (ddilaw31_MinimizeLittle.j0 kq a1 a2 t288 t291 x26_5 a0_0 a0_1 t289 t290 = some r) ∧ Aside0 (kq ≤ k) ∧ Aside0 (wc.heap[gb287]? = some (.cells #[.string a0_0, .int .i64 a0_1] 23 (0, 0))) ∧ Aside0 (wc.heap[gb292]? = some (.cells #[.string t289, .int .i64 t290] 23 (0, 0))) ∧ Aside0 (Below w.heap.size w wc))
  case first =>
    have H := HC6.out
    clear HC6
    by_cases c15 : a2 < 0
    · rw [if_pos c15] at H
      have c15b0 : decide (a2 < 0) = true := decide_eq_true c15
      clear c15
      (first | rw [c15b0] | (simp only [i64_w, i32_w]; rw [c15b0]) | skip)
      have H' := Aside0.mk H
      clear H
      go_wp2
      go_meet
      case rel => exact ⟨_, (true), (by first | rfl | (simp; done) | (simp [*]; done)), H', ⟨by first | omega | exact Nat.le_refl _⟩, ⟨by (with_reducible repeat (first | refine blk_drewN ?_ _ | refine blk_drew ?_ | refine blk_alloc ?_ _)); refine blk_far ?_ NB287_292.out _; (with_reducible repeat (first | refine blk_drewN ?_ _ | refine blk_drew ?_ | refine blk_alloc ?_ _)); refine blk_far ?_ NB287_292.out _; (with_reducible repeat (first | refine blk_drewN ?_ _ | refine blk_drew ?_ | refine blk_alloc ?_ _)); exact BK287.out⟩, ⟨by (with_reducible repeat (first | refine blk_drewN ?_ _ | refine blk_drew ?_ | refine blk_alloc ?_ _)); refine blk_put (cs := #[.string t289, .int .i64 0]) ?_ 1 _ rfl; (with_reducible repeat (first | refine blk_drewN ?_ _ | refine blk_drew ?_ | refine blk_alloc ?_ _)); refine blk_put (cs := #[.string (⟨#[]⟩ : ByteArray), .int .i64 0]) ?_ 0 _ rfl; (with_reducible repeat (first | refine blk_drewN ?_ _ | refine blk_drew ?_ | refine blk_alloc ?_ _)); exact BK292.out⟩, ⟨by repeat (first | (with_reducible first | exact HB.out | apply below_alloc | apply pw_below_drewN | apply below_drew1 | refine below_set ?_ GE287.out | refine below_set ?_ GE292.out) | exact HB.out)⟩⟩
    · rw [if_neg c15] at H
      have c15b0 : decide (a2 < 0) = false := decide_eq_false c15
      clear c15
      (first | rw [c15b0] | (simp only [i64_w, i32_w]; rw [c15b0]) | skip)
      have H' := Aside0.mk H
      clear H
      go_wp2
      go_meet
      case rel => exact ⟨_, (decide (a2 ≥ 10)), (by first | rfl | (simp; done) | (simp [*]; done)), H', ⟨by first | omega | exact Nat.le_refl _⟩, ⟨by (with_reducible repeat (first | refine blk_drewN ?_ _ | refine blk_drew ?_ | refine blk_alloc ?_ _)); refine blk_far ?_ NB287_292.out _; (with_reducible repeat (first | refine blk_drewN ?_ _ | refine blk_drew ?_ | refine blk_alloc ?_ _)); refine blk_far ?_ NB287_292.out _; (with_reducible repeat (first | refine blk_drewN ?_ _ | refine blk_drew ?_ | refine blk_alloc ?_ _)); exact BK287.out⟩, ⟨by (with_reducible repeat (first | refine blk_drewN ?_ _ | refine blk_drew ?_ | refine blk_alloc ?_ _)); refine blk_put (cs := #[.string t289, .int .i64 0]) ?_ 1 _ rfl; (with_reducible repeat (first | refine blk_drewN ?_ _ | refine blk_drew ?_ | refine blk_alloc ?_ _)); refine blk_put (cs := #[.string (⟨#[]⟩ : ByteArray), .int .i64 0]) ?_ 0 _ rfl; (with_reducible repeat (first | refine blk_drewN ?_ _ | refine blk_drew ?_ | refine blk_alloc ?_ _)); exact BK292.out⟩, ⟨by repeat (first | (with_reducible first | exact HB.out | apply below_alloc | apply pw_below_drewN | apply below_drew1 | refine below_set ?_ GE287.out | refine below_set ?_ GE292.out) | exact HB.out)⟩⟩
  case rest =>
    clear HC6
    try clear c1
    try clear p2
    try clear c7
    try clear c8
    try clear c13
    try clear c15
    try clear c15b0
    try clear hcz10_0
    try clear hcz10_1
    try clear hcz14_0
    try clear hcz14_1
    try clear hcz8_0
    try clear hcz8_1
    try clear hfz10_0
    try clear hfz10_1
    try clear hfz14_0
    try clear hfz14_1
    try clear hfz8_0
    try clear hfz8_1
    obtain ⟨kq, x26_5, rfl, HA, HJ5, BK287, BK292, HB⟩ := hcut
    cases kq with
    | zero => exact absurd HA.out (by simp [ddilaw31_MinimizeLittle.j0])
    | succ kj5 =>
      have H := HA.out
      clear HA
      simp only [ddilaw31_MinimizeLittle.j0] at H
      by_cases c16 : x26_5 = true
      · subst c16
        have H1 : (if t291 = true then (if (t289.toList == a0_0.toList && (t290 == a0_1)) = true then (if t288 = 0 then ((ddilaw31_awake.f kj5).bind fun t293 => (some t293)) else (if t288 = 1 then ((ddilaw31_awake.f kj5).bind fun t294 => (some t294)) else (some false))) else (some false)) else (some false)) = some r := by rw [if_pos rfl] at H; exact H
        clear H
        have H := H1
        clear H1
        by_cases c17 : t291 = true
        · subst c17
          have H1 : (if (t289.toList == a0_0.toList && (t290 == a0_1)) = true then (if t288 = 0 then ((ddilaw31_awake.f kj5).bind fun t293 => (some t293)) else (if t288 = 1 then ((ddilaw31_awake.f kj5).bind fun t294 => (some t294)) else (some false))) else (some false)) = some r := by rw [if_pos rfl] at H; exact H
          clear H
          have H := H1
          clear H1
          by_cases c18 : (t289.toList == a0_0.toList && (t290 == a0_1)) = true
          · rw [if_pos c18] at H
            (try (have c18b7 : (t289.toList == a0_0.toList) = true := (Bool.and_eq_true_iff.1 c18).1))
            (try (have c18b8 : (t290 == a0_1) = true := (Bool.and_eq_true_iff.1 c18).2))
            have c18b0 : (t289.toList == a0_0.toList && (t290 == a0_1)) = true := c18
            (try (have c18b1 : decide (t289.toList = a0_0.toList && (t290 == a0_1)) = true := by simpa using c18))
            (try (have c18b2 : (t289.toList == a0_0.toList && (t290 == a0_1)) = true := by simpa using c18))
            clear c18
            by_cases c19 : t288 = 0
            · rw [if_pos c19] at H
              have c19b0 : (t288 == 0) = true := beq_iff_eq.mpr c19
              have c19b1 : (t288 != 0) = false := bne_eq_false_iff_eq.mpr c19
              clear c19
              replace H := Option.bind_eq_some_iff.mp H
              obtain ⟨t293, A200, H⟩ := H
              replace H : (some t293) = some r := H
              have A20 := Aside0.mk A200
              clear A200
              obtain rfl := Option.some.inj H
              have hnb21 := NB292_287.out
              have hnc21 := NB287_292.out
              have hcz22_0 : wc.cell? ⟨gb292, 0, none⟩ = some (.string t289) := (blk_cell BK292.out 0).trans rfl
              have hcz22_1 : wc.cell? ⟨gb292, 1, none⟩ = some (.int .i64 t290) := (blk_cell BK292.out 1).trans rfl
              have hfz22_0 := blk_frozen BK292.out 0
              have hfz22_1 := blk_frozen BK292.out 1
              have hcz23_0 : wc.cell? ⟨gb287, 0, none⟩ = some (.string a0_0) := (blk_cell BK287.out 0).trans rfl
              have hcz23_1 : wc.cell? ⟨gb287, 1, none⟩ = some (.int .i64 a0_1) := (blk_cell BK287.out 1).trans rfl
              have hfz23_0 := blk_frozen BK287.out 0
              have hfz23_1 := blk_frozen BK287.out 1
              go_wp2_with (first | (go_at_call 10; (with_reducible refine (ddilaw31_awake.calls kj5  t293 _ A20.out).mono ?_); rintro e w24 ⟨rfl, hb⟩; have n0_ := Aside0.mk (blk_below (g := gb287) (o := .cells #[.string a0_0, .int .i64 a0_1] 23 (0, 0)) (by (with_reducible repeat (first | refine blk_drewN ?_ _ | refine blk_drew ?_ | refine blk_alloc ?_ _)); exact BK287.out) hb); have n1_ := Aside0.mk (blk_below (g := gb292) (o := .cells #[.string t289, .int .i64 t290] 23 (0, 0)) (by (with_reducible repeat (first | refine blk_drewN ?_ _ | refine blk_drew ?_ | refine blk_alloc ?_ _)); exact BK292.out) hb); have n2_ := Aside0.mk (below_step (by repeat (first | (with_reducible first | exact HB.out | apply below_alloc | apply pw_below_drewN | apply below_drew1 | refine below_set ?_ GE287.out | refine below_set ?_ GE292.out) | exact HB.out)) hb); clear BK287; clear BK292; clear HB; have BK287 := n0_; have BK292 := n1_; have HB := n2_; clear n0_ n1_ n2_; (try clear hb); (try clear hb2); (try clear hk); (try clear hi)))
              go_ret
              exact ⟨by first | rfl | (simp [errW_none, errW_some] <;> rfl) | (simp [*, errW_none, errW_some] <;> rfl), by repeat (first | (with_reducible first | exact HB.out | apply below_alloc | apply pw_below_drewN | apply below_drew1 | refine below_set ?_ GE287.out | refine below_set ?_ GE292.out) | exact HB.out)⟩
            · rw [if_neg c19] at H
              have c19b0 : (t288 == 0) = false := beq_eq_false_iff_ne.mpr c19
              have c19b1 : (t288 != 0) = true := bne_iff_ne.mpr c19
              by_cases c25 : t288 = 1
              · rw [if_pos c25] at H
                have c25b0 : (t288 == 1) = true := beq_iff_eq.mpr c25
                have c25b1 : (t288 != 1) = false := bne_eq_false_iff_eq.mpr c25
                clear c25
                replace H := Option.bind_eq_some_iff.mp H
                obtain ⟨t294, A260, H⟩ := H
                replace H : (some t294) = some r := H
                have A26 := Aside0.mk A260
                clear A260
                obtain rfl := Option.some.inj H
                have hnb27 := NB292_287.out
                have hnc27 := NB287_292.out
                have hcz28_0 : wc.cell? ⟨gb292, 0, none⟩ = some (.string t289) := (blk_cell BK292.out 0).trans rfl
                have hcz28_1 : wc.cell? ⟨gb292, 1, none⟩ = some (.int .i64 t290) := (blk_cell BK292.out 1).trans rfl
                have hfz28_0 := blk_frozen BK292.out 0
                have hfz28_1 := blk_frozen BK292.out 1
                have hcz29_0 : wc.cell? ⟨gb287, 0, none⟩ = some (.string a0_0) := (blk_cell BK287.out 0).trans rfl
                have hcz29_1 : wc.cell? ⟨gb287, 1, none⟩ = some (.int .i64 a0_1) := (blk_cell BK287.out 1).trans rfl
                have hfz29_0 := blk_frozen BK287.out 0
                have hfz29_1 := blk_frozen BK287.out 1
                go_wp2_with (first | (go_at_call 10; (with_reducible refine (ddilaw31_awake.calls kj5  t294 _ A26.out).mono ?_); rintro e w30 ⟨rfl, hb⟩; have n0_ := Aside0.mk (blk_below (g := gb287) (o := .cells #[.string a0_0, .int .i64 a0_1] 23 (0, 0)) (by (with_reducible repeat (first | refine blk_drewN ?_ _ | refine blk_drew ?_ | refine blk_alloc ?_ _)); exact BK287.out) hb); have n1_ := Aside0.mk (blk_below (g := gb292) (o := .cells #[.string t289, .int .i64 t290] 23 (0, 0)) (by (with_reducible repeat (first | refine blk_drewN ?_ _ | refine blk_drew ?_ | refine blk_alloc ?_ _)); exact BK292.out) hb); have n2_ := Aside0.mk (below_step (by repeat (first | (with_reducible first | exact HB.out | apply below_alloc | apply pw_below_drewN | apply below_drew1 | refine below_set ?_ GE287.out | refine below_set ?_ GE292.out) | exact HB.out)) hb); clear BK287; clear BK292; clear HB; have BK287 := n0_; have BK292 := n1_; have HB := n2_; clear n0_ n1_ n2_; (try clear hb); (try clear hb2); (try clear hk); (try clear hi)))
                go_ret
                exact ⟨by first | rfl | (simp [errW_none, errW_some] <;> rfl) | (simp [*, errW_none, errW_some] <;> rfl), by repeat (first | (with_reducible first | exact HB.out | apply below_alloc | apply pw_below_drewN | apply below_drew1 | refine below_set ?_ GE287.out | refine below_set ?_ GE292.out) | exact HB.out)⟩
              · rw [if_neg c25] at H
                have c25b0 : (t288 == 1) = false := beq_eq_false_iff_ne.mpr c25
                have c25b1 : (t288 != 1) = true := bne_iff_ne.mpr c25
                obtain rfl := Option.some.inj H
                have hnb31 := NB292_287.out
                have hnc31 := NB287_292.out
                have hcz32_0 : wc.cell? ⟨gb292, 0, none⟩ = some (.string t289) := (blk_cell BK292.out 0).trans rfl
                have hcz32_1 : wc.cell? ⟨gb292, 1, none⟩ = some (.int .i64 t290) := (blk_cell BK292.out 1).trans rfl
                have hfz32_0 := blk_frozen BK292.out 0
                have hfz32_1 := blk_frozen BK292.out 1
                have hcz33_0 : wc.cell? ⟨gb287, 0, none⟩ = some (.string a0_0) := (blk_cell BK287.out 0).trans rfl
                have hcz33_1 : wc.cell? ⟨gb287, 1, none⟩ = some (.int .i64 a0_1) := (blk_cell BK287.out 1).trans rfl
                have hfz33_0 := blk_frozen BK287.out 0
                have hfz33_1 := blk_frozen BK287.out 1
                go_wp2
                go_ret
                exact ⟨by first | rfl | (simp [errW_none, errW_some] <;> rfl) | (simp [*, errW_none, errW_some] <;> rfl), by repeat (first | (with_reducible first | exact HB.out | apply below_alloc | apply pw_below_drewN | apply below_drew1 | refine below_set ?_ GE287.out | refine below_set ?_ GE292.out) | exact HB.out)⟩
          · rw [if_neg c18] at H
            (try (have c18b8 : (t290 == a0_1) = false := by cases h_ : (t290 == a0_1) <;> first | rfl | (exfalso; apply c18; simp [h_, *]; done)))
            have c18b0 : (t289.toList == a0_0.toList && (t290 == a0_1)) = false := by simpa using c18
            (try (have c18b1 : decide (t289.toList = a0_0.toList && (t290 == a0_1)) = false := by simpa using c18))
            (try (have c18b2 : (t289.toList == a0_0.toList && (t290 == a0_1)) = false := by simpa using c18))
            (try (have c18b3 : ¬ (t289.toList = a0_0.toList && (t290 == a0_1)) := by simpa using c18))
            clear c18
            obtain rfl := Option.some.inj H
            have hnb34 := NB292_287.out
            have hnc34 := NB287_292.out
            have hcz35_0 : wc.cell? ⟨gb292, 0, none⟩ = some (.string t289) := (blk_cell BK292.out 0).trans rfl
            have hcz35_1 : wc.cell? ⟨gb292, 1, none⟩ = some (.int .i64 t290) := (blk_cell BK292.out 1).trans rfl
            have hfz35_0 := blk_frozen BK292.out 0
            have hfz35_1 := blk_frozen BK292.out 1
            have hcz36_0 : wc.cell? ⟨gb287, 0, none⟩ = some (.string a0_0) := (blk_cell BK287.out 0).trans rfl
            have hcz36_1 : wc.cell? ⟨gb287, 1, none⟩ = some (.int .i64 a0_1) := (blk_cell BK287.out 1).trans rfl
            have hfz36_0 := blk_frozen BK287.out 0
            have hfz36_1 := blk_frozen BK287.out 1
            go_wp2
            go_ret
            exact ⟨by first | rfl | (simp [errW_none, errW_some] <;> rfl) | (simp [*, errW_none, errW_some] <;> rfl), by repeat (first | (with_reducible first | exact HB.out | apply below_alloc | apply pw_below_drewN | apply below_drew1 | refine below_set ?_ GE287.out | refine below_set ?_ GE292.out) | exact HB.out)⟩
        · replace c17 := Bool.eq_false_iff.mpr c17
          subst c17
          have H1 : (some false) = some r := by rw [if_neg (show ¬ (false = true) by decide)] at H; exact H
          clear H
          have H := H1
          clear H1
          obtain rfl := Option.some.inj H
          go_wp2
          go_ret
          exact ⟨by first | rfl | (simp [errW_none, errW_some] <;> rfl) | (simp [*, errW_none, errW_some] <;> rfl), by repeat (first | (with_reducible first | exact HB.out | apply below_alloc | apply pw_below_drewN | apply below_drew1 | refine below_set ?_ GE287.out | refine below_set ?_ GE292.out) | exact HB.out)⟩
      · replace c16 := Bool.eq_false_iff.mpr c16
        subst c16
        have H1 : (if a0_0.toList = a1.toList then (ddilaw31_MinimizeLittle.j1 kj5 a1 a2 t288 t291 true a0_0 a0_1 t289 t290) else ((dname_Under.f kj5 a0_0 a1).bind fun t295 => (ddilaw31_MinimizeLittle.j1 kj5 a1 a2 t288 t291 (!t295) a0_0 a0_1 t289 t290))) = some r := by rw [if_neg (show ¬ (false = true) by decide)] at H; exact H
        clear H
        have H := H1
        clear H1
        have HC37 := Aside0.mk H
        clear H
        go_upto_region 5 with (fail)
        go_cut [54] (fun v54 wc => ∃ (kq : Nat) (x54_36 : Bool), v54 = .bool x54_36 ∧ Aside0 (ddilaw31_MinimizeLittle.j1 kq a1 a2 t288 t291 x54_36 a0_0 a0_1 t289 t290 = some r) ∧ Aside0 (kq ≤ kj5) ∧ Aside0 (wc.heap[gb287]? = some (.cells #[.string a0_0, .int .i64 a0_1] 23 (0, 0))) ∧ Aside0 (wc.heap[gb292]? = some (.cells #[.string t289, .int .i64 t290] 23 (0, 0))) ∧ Aside0 (Below w.heap.size w wc))
        case first =>
          have H := HC37.out
          clear HC37
          by_cases c38 : a0_0.toList = a1.toList
          · rw [if_pos c38] at H
            have c38b0 : (a0_0.toList == a1.toList) = true := beq_iff_eq.mpr c38
            have c38b1 : (a0_0.toList != a1.toList) = false := bne_eq_false_iff_eq.mpr c38
            clear c38
            (first | rw [c38b0] | (simp only [i64_w, i32_w]; rw [c38b0]) | skip)
            have H' := Aside0.mk H
            clear H
            have hnb39 := NB287_292.out
            have hnc39 := NB292_287.out
            have hcz40_0 : wc.cell? ⟨gb287, 0, none⟩ = some (.string a0_0) := (blk_cell BK287.out 0).trans rfl
            have hcz40_1 : wc.cell? ⟨gb287, 1, none⟩ = some (.int .i64 a0_1) := (blk_cell BK287.out 1).trans rfl
            have hfz40_0 := blk_frozen BK287.out 0
            have hfz40_1 := blk_frozen BK287.out 1
            go_wp2
            go_meet
            case rel => exact ⟨_, (true), (by first | rfl | (simp; done) | (simp [*]; done)), H', ⟨by have := HJ5.out; first | omega | exact Nat.le_refl _⟩, ⟨by (with_reducible repeat (first | refine blk_drewN ?_ _ | refine blk_drew ?_ | refine blk_alloc ?_ _)); exact BK287.out⟩, ⟨by (with_reducible repeat (first | refine blk_drewN ?_ _ | refine blk_drew ?_ | refine blk_alloc ?_ _)); exact BK292.out⟩, ⟨by repeat (first | (with_reducible first | exact HB.out | apply below_alloc | apply pw_below_drewN | apply below_drew1 | refine below_set ?_ GE287.out | refine below_set ?_ GE292.out) | exact HB.out)⟩⟩
          · rw [if_neg c38] at H
            have c38b0 : (a0_0.toList == a1.toList) = false := beq_eq_false_iff_ne.mpr c38
            have c38b1 : (a0_0.toList != a1.toList) = true := bne_iff_ne.mpr c38
            (first | rw [c38b0] | (simp only [i64_w, i32_w]; rw [c38b0]) | skip)
            replace H := Option.bind_eq_some_iff.mp H
            obtain ⟨t295, A410, H⟩ := H
            replace H : (ddilaw31_MinimizeLittle.j1 kj5 a1 a2 t288 t291 (!t295) a0_0 a0_1 t289 t290) = some r := H
            have A41 := Aside0.mk A410
            clear A410
            have H' := Aside0.mk H
            clear H
            have hnb42 := NB287_292.out
            have hnc42 := NB292_287.out
            have hcz43_0 : wc.cell? ⟨gb287, 0, none⟩ = some (.string a0_0) := (blk_cell BK287.out 0).trans rfl
            have hcz43_1 : wc.cell? ⟨gb287, 1, none⟩ = some (.int .i64 a0_1) := (blk_cell BK287.out 1).trans rfl
            have hfz43_0 := blk_frozen BK287.out 0
            have hfz43_1 := blk_frozen BK287.out 1
            go_wp2_with (first | (go_at_call 15; (with_reducible refine (dname_Under.calls kj5 a0_0 a1 t295 _ A41.out).mono ?_); rintro e w44 ⟨rfl, hb⟩; have n0_ := Aside0.mk (blk_below (g := gb287) (o := .cells #[.string a0_0, .int .i64 a0_1] 23 (0, 0)) (by (with_reducible repeat (first | refine blk_drewN ?_ _ | refine blk_drew ?_ | refine blk_alloc ?_ _)); exact BK287.out) hb); have n1_ := Aside0.mk (blk_below (g := gb292) (o := .cells #[.string t289, .int .i64 t290] 23 (0, 0)) (by (with_reducible repeat (first | refine blk_drewN ?_ _ | refine blk_drew ?_ | refine blk_alloc ?_ _)); exact BK292.out) hb); have n2_ := Aside0.mk (below_step (by repeat (first | (with_reducible first | exact HB.out | apply below_alloc | apply pw_below_drewN | apply below_drew1 | refine below_set ?_ GE287.out | refine below_set ?_ GE292.out) | exact HB.out)) hb); clear BK287; clear BK292; clear HB; have BK287 := n0_; have BK292 := n1_; have HB := n2_; clear n0_ n1_ n2_; (try clear hb); (try clear hb2); (try clear hk); (try clear hi)))
            go_meet
            case rel => exact ⟨_, (!t295), (by first | rfl | (simp; done) | (simp [*]; done)), H', ⟨by have := HJ5.out; first | omega | exact Nat.le_refl _⟩, ⟨by (with_reducible repeat (first | refine blk_drewN ?_ _ | refine blk_drew ?_ | refine blk_alloc ?_ _)); exact BK287.out⟩, ⟨by (with_reducible repeat (first | refine blk_drewN ?_ _ | refine blk_drew ?_ | refine blk_alloc ?_ _)); exact BK292.out⟩, ⟨by repeat (first | (with_reducible first | exact HB.out | apply below_alloc | apply pw_below_drewN | apply below_drew1 | refine below_set ?_ GE287.out | refine below_set ?_ GE292.out) | exact HB.out)⟩⟩
        case rest =>
          clear HC37
          try clear c1
          try clear c2
          try clear p2
          try clear c3
          try clear c4
          try clear c7
          try clear c8
          try clear c13
          try clear c15
          try clear c15b0
          try clear c16
          try clear c17
          try clear c18
          try clear c18b0
          try clear c18b1
          try clear c18b2
          try clear c19
          try clear c19b0
          try clear c19b1
          try clear c21
          try clear c25
          try clear c25b0
          try clear c25b1
          try clear c27
          try clear c31
          try clear c34
          try clear c38
          try clear c38b0
          try clear c38b1
          try clear c39
          try clear c42
          try clear hcz10_0
          try clear hcz10_1
          try clear hcz14_0
          try clear hcz14_1
          try clear hcz22_0
          try clear hcz22_1
          try clear hcz23_0
          try clear hcz23_1
          try clear hcz28_0
          try clear hcz28_1
          try clear hcz29_0
          try clear hcz29_1
          try clear hcz32_0
          try clear hcz32_1
          try clear hcz33_0
          try clear hcz33_1
          try clear hcz35_0
          try clear hcz35_1
          try clear hcz36_0
          try clear hcz36_1
          try clear hcz40_0
          try clear hcz40_1
          try clear hcz43_0
          try clear hcz43_1
          try clear hcz8_0
          try clear hcz8_1
          try clear hfz10_0
          try clear hfz10_1
          try clear hfz14_0
          try clear hfz14_1
          try clear hfz22_0
          try clear hfz22_1
          try clear hfz23_0
          try clear hfz23_1
          try clear hfz28_0
          try clear hfz28_1
          try clear hfz29_0
          try clear hfz29_1
          try clear hfz32_0
          try clear hfz32_1
          try clear hfz33_0
          try clear hfz33_1
          try clear hfz35_0
          try clear hfz35_1
          try clear hfz36_0
          try clear hfz36_1
          try clear hfz40_0
          try clear hfz40_1
          try clear hfz43_0
          try clear hfz43_1
          try clear hfz8_0
          try clear hfz8_1
          try clear p2
          obtain ⟨kq, x54_36, rfl, HA, HJ36, BK287, BK292, HB⟩ := hcut
          cases kq with
          | zero => exact absurd HA.out (by simp [ddilaw31_MinimizeLittle.j1])
          | succ kj36 =>
            have H := HA.out
            clear HA
            simp only [ddilaw31_MinimizeLittle.j1] at H
            by_cases c45 : x54_36 = true
            · subst c45
              have H1 : (if t291 = true then (if (t289.toList == a0_0.toList && (t290 == a0_1)) = true then (if t288 = 0 then ((ddilaw31_awake.f kj36).bind fun t296 => (some t296)) else (some false)) else (some false)) else (some false)) = some r := by rw [if_pos rfl] at H; exact H
              clear H
              have H := H1
              clear H1
              by_cases c46 : t291 = true
              · subst c46
                have H1 : (if (t289.toList == a0_0.toList && (t290 == a0_1)) = true then (if t288 = 0 then ((ddilaw31_awake.f kj36).bind fun t296 => (some t296)) else (some false)) else (some false)) = some r := by rw [if_pos rfl] at H; exact H
                clear H
                have H := H1
                clear H1
                by_cases c47 : (t289.toList == a0_0.toList && (t290 == a0_1)) = true
                · rw [if_pos c47] at H
                  (try (have c47b7 : (t289.toList == a0_0.toList) = true := (Bool.and_eq_true_iff.1 c47).1))
                  (try (have c47b8 : (t290 == a0_1) = true := (Bool.and_eq_true_iff.1 c47).2))
                  have c47b0 : (t289.toList == a0_0.toList && (t290 == a0_1)) = true := c47
                  (try (have c47b1 : decide (t289.toList = a0_0.toList && (t290 == a0_1)) = true := by simpa using c47))
                  (try (have c47b2 : (t289.toList == a0_0.toList && (t290 == a0_1)) = true := by simpa using c47))
                  clear c47
                  by_cases c48 : t288 = 0
                  · rw [if_pos c48] at H
                    have c48b0 : (t288 == 0) = true := beq_iff_eq.mpr c48
                    have c48b1 : (t288 != 0) = false := bne_eq_false_iff_eq.mpr c48
                    clear c48
                    replace H := Option.bind_eq_some_iff.mp H
                    obtain ⟨t296, A490, H⟩ := H
                    replace H : (some t296) = some r := H
                    have A49 := Aside0.mk A490
                    clear A490
                    obtain rfl := Option.some.inj H
                    have hnb50 := NB292_287.out
                    have hnc50 := NB287_292.out
                    have hcz51_0 : wc.cell? ⟨gb292, 0, none⟩ = some (.string t289) := (blk_cell BK292.out 0).trans rfl
                    have hcz51_1 : wc.cell? ⟨gb292, 1, none⟩ = some (.int .i64 t290) := (blk_cell BK292.out 1).trans rfl
                    have hfz51_0 := blk_frozen BK292.out 0
                    have hfz51_1 := blk_frozen BK292.out 1
                    have hcz52_0 : wc.cell? ⟨gb287, 0, none⟩ = some (.string a0_0) := (blk_cell BK287.out 0).trans rfl
                    have hcz52_1 : wc.cell? ⟨gb287, 1, none⟩ = some (.int .i64 a0_1) := (blk_cell BK287.out 1).trans rfl
                    have hfz52_0 := blk_frozen BK287.out 0
                    have hfz52_1 := blk_frozen BK287.out 1
                    go_wp2_with (first | (go_at_call 10; (with_reducible refine (ddilaw31_awake.calls kj36  t296 _ A49.out).mono ?_); rintro e w53 ⟨rfl, hb⟩; have n0_ := Aside0.mk (blk_below (g := gb287) (o := .cells #[.string a0_0, .int .i64 a0_1] 23 (0, 0)) (by (with_reducible repeat (first | refine blk_drewN ?_ _ | refine blk_drew ?_ | refine blk_alloc ?_ _)); exact BK287.out) hb); have n1_ := Aside0.mk (blk_below (g := gb292) (o := .cells #[.string t289, .int .i64 t290] 23 (0, 0)) (by (with_reducible repeat (first | refine blk_drewN ?_ _ | refine blk_drew ?_ | refine blk_alloc ?_ _)); exact BK292.out) hb); have n2_ := Aside0.mk (below_step (by repeat (first | (with_reducible first | exact HB.out | apply below_alloc | apply pw_below_drewN | apply below_drew1 | refine below_set ?_ GE287.out | refine below_set ?_ GE292.out) | exact HB.out)) hb); clear BK287; clear BK292; clear HB; have BK287 := n0_; have BK292 := n1_; have HB := n2_; clear n0_ n1_ n2_; (try clear hb); (try clear hb2); (try clear hk); (try clear hi)))
                    go_ret
                    exact ⟨by first | rfl | (simp [errW_none, errW_some] <;> rfl) | (simp [*, errW_none, errW_some] <;> rfl), by repeat (first | (with_reducible first | exact HB.out | apply below_alloc | apply pw_below_drewN | apply below_drew1 | refine below_set ?_ GE287.out | refine below_set ?_ GE292.out) | exact HB.out)⟩
                  · rw [if_neg c48] at H
                    have c48b0 : (t288 == 0) = false := beq_eq_false_iff_ne.mpr c48
                    have c48b1 : (t288 != 0) = true := bne_iff_ne.mpr c48
                    obtain rfl := Option.some.inj H
                    have hnb54 := NB292_287.out
                    have hnc54 := NB287_292.out
                    have hcz55_0 : wc.cell? ⟨gb292, 0, none⟩ = some (.string t289) := (blk_cell BK292.out 0).trans rfl
                    have hcz55_1 : wc.cell? ⟨gb292, 1, none⟩ = some (.int .i64 t290) := (blk_cell BK292.out 1).trans rfl
                    have hfz55_0 := blk_frozen BK292.out 0
                    have hfz55_1 := blk_frozen BK292.out 1
                    have hcz56_0 : wc.cell? ⟨gb287, 0, none⟩ = some (.string a0_0) := (blk_cell BK287.out 0).trans rfl
                    have hcz56_1 : wc.cell? ⟨gb287, 1, none⟩ = some (.int .i64 a0_1) := (blk_cell BK287.out 1).trans rfl
                    have hfz56_0 := blk_frozen BK287.out 0
                    have hfz56_1 := blk_frozen BK287.out 1
                    go_wp2
                    go_ret
                    exact ⟨by first | rfl | (simp [errW_none, errW_some] <;> rfl) | (simp [*, errW_none, errW_some] <;> rfl), by repeat (first | (with_reducible first | exact HB.out | apply below_alloc | apply pw_below_drewN | apply below_drew1 | refine below_set ?_ GE287.out | refine below_set ?_ GE292.out) | exact HB.out)⟩
                · rw [if_neg c47] at H
                  (try (have c47b8 : (t290 == a0_1) = false := by cases h_ : (t290 == a0_1) <;> first | rfl | (exfalso; apply c47; simp [h_, *]; done)))
                  have c47b0 : (t289.toList == a0_0.toList && (t290 == a0_1)) = false := by simpa using c47
                  (try (have c47b1 : decide (t289.toList = a0_0.toList && (t290 == a0_1)) = false := by simpa using c47))
                  (try (have c47b2 : (t289.toList == a0_0.toList && (t290 == a0_1)) = false := by simpa using c47))
                  (try (have c47b3 : ¬ (t289.toList = a0_0.toList && (t290 == a0_1)) := by simpa using c47))
                  clear c47
                  obtain rfl := Option.some.inj H
                  have hnb57 := NB292_287.out
                  have hnc57 := NB287_292.out
                  have hcz58_0 : wc.cell? ⟨gb292, 0, none⟩ = some (.string t289) := (blk_cell BK292.out 0).trans rfl
                  have hcz58_1 : wc.cell? ⟨gb292, 1, none⟩ = some (.int .i64 t290) := (blk_cell BK292.out 1).trans rfl
                  have hfz58_0 := blk_frozen BK292.out 0
                  have hfz58_1 := blk_frozen BK292.out 1
                  have hcz59_0 : wc.cell? ⟨gb287, 0, none⟩ = some (.string a0_0) := (blk_cell BK287.out 0).trans rfl
                  have hcz59_1 : wc.cell? ⟨gb287, 1, none⟩ = some (.int .i64 a0_1) := (blk_cell BK287.out 1).trans rfl
                  have hfz59_0 := blk_frozen BK287.out 0
                  have hfz59_1 := blk_frozen BK287.out 1
                  go_wp2
                  go_ret
                  exact ⟨by first | rfl | (simp [errW_none, errW_some] <;> rfl) | (simp [*, errW_none, errW_some] <;> rfl), by repeat (first | (with_reducible first | exact HB.out | apply below_alloc | apply pw_below_drewN | apply below_drew1 | refine below_set ?_ GE287.out | refine below_set ?_ GE292.out) | exact HB.out)⟩
              · replace c46 := Bool.eq_false_iff.mpr c46
                subst c46
                have H1 : (some false) = some r := by rw [if_neg (show ¬ (false = true) by decide)] at H; exact H
                clear H
                have H := H1
                clear H1
                obtain rfl := Option.some.inj H
                go_wp2
                go_ret
                exact ⟨by first | rfl | (simp [errW_none, errW_some] <;> rfl) | (simp [*, errW_none, errW_some] <;> rfl), by repeat (first | (with_reducible first | exact HB.out | apply below_alloc | apply pw_below_drewN | apply below_drew1 | refine below_set ?_ GE287.out | refine below_set ?_ GE292.out) | exact HB.out)⟩
            · replace c45 := Bool.eq_false_iff.mpr c45
              subst c45
              have H1 : ((dname_Labels.f kj36 t289).bind fun t297 => ((dname_Labels.f kj36 a1).bind fun t300 => (if t288 = 1 then (if (wrap64 ((t297.length : Int) - (t300.length : Int))) ≥ 1 then (if (wrap64 ((t297.length : Int) - (t300.length : Int))) ≤ (wrap64 (1 + a2)) then ((ddilaw31_awake.f kj36).bind fun t303 => (some t303)) else (some false)) else (some false)) else (some false)))) = some r := by rw [if_neg (show ¬ (false = true) by decide)] at H; exact H
              clear H
              have H := H1
              clear H1
              replace H := Option.bind_eq_some_iff.mp H
              obtain ⟨t297, A600, H⟩ := H
              replace H : ((dname_Labels.f kj36 a1).bind fun t300 => (if t288 = 1 then (if (wrap64 ((t297.length : Int) - (t300.length : Int))) ≥ 1 then (if (wrap64 ((t297.length : Int) - (t300.length : Int))) ≤ (wrap64 (1 + a2)) then ((ddilaw31_awake.f kj36).bind fun t303 => (some t303)) else (some false)) else (some false)) else (some false))) = some r := H
              have A60 := Aside0.mk A600
              clear A600
              replace H := Option.bind_eq_some_iff.mp H
              obtain ⟨t300, A610, H⟩ := H
              replace H : (if t288 = 1 then (if (wrap64 ((t297.length : Int) - (t300.length : Int))) ≥ 1 then (if (wrap64 ((t297.length : Int) - (t300.length : Int))) ≤ (wrap64 (1 + a2)) then ((ddilaw31_awake.f kj36).bind fun t303 => (some t303)) else (some false)) else (some false)) else (some false)) = some r := H
              have A61 := Aside0.mk A610
              clear A610
              by_cases c62 : t288 = 1
              · rw [if_pos c62] at H
                have c62b0 : (t288 == 1) = true := beq_iff_eq.mpr c62
                have c62b1 : (t288 != 1) = false := bne_eq_false_iff_eq.mpr c62
                clear c62
                by_cases c63 : (wrap64 ((t297.length : Int) - (t300.length : Int))) ≥ 1
                · rw [if_pos c63] at H
                  have c63b0 : decide (1 ≤ (wrap64 ((t297.length : Int) - (t300.length : Int)))) = true := decide_eq_true c63
                  clear c63
                  by_cases c64 : (wrap64 ((t297.length : Int) - (t300.length : Int))) ≤ (wrap64 (1 + a2))
                  · rw [if_pos c64] at H
                    have c64b0 : decide ((wrap64 ((t297.length : Int) - (t300.length : Int))) ≤ (wrap64 (1 + a2))) = true := decide_eq_true c64
                    clear c64
                    replace H := Option.bind_eq_some_iff.mp H
                    obtain ⟨t303, A650, H⟩ := H
                    replace H : (some t303) = some r := H
                    have A65 := Aside0.mk A650
                    clear A650
                    obtain rfl := Option.some.inj H
                    have hnb66 := NB292_287.out
                    have hnc66 := NB287_292.out
                    have hcz67_0 : wc.cell? ⟨gb292, 0, none⟩ = some (.string t289) := (blk_cell BK292.out 0).trans rfl
                    have hcz67_1 : wc.cell? ⟨gb292, 1, none⟩ = some (.int .i64 t290) := (blk_cell BK292.out 1).trans rfl
                    have hfz67_0 := blk_frozen BK292.out 0
                    have hfz67_1 := blk_frozen BK292.out 1
                    go_wp2_with (first | ((with_reducible refine gate_callee (f := 16) rfl ?_); refine goesL_ (some 70) rfl rfl Tryd.func16 (by kernel_rfl) rfl #[.string t289] rfl (by (try simp only [List.map_toArray, List.map_cons, List.map_nil]); first | done | rfl | (simp only [List.length_drop, List.length_take]; rfl)) ?_; (with_reducible refine (dname_Labels.calls kj36 t289 t297 _ A60.out).mono ?_); rintro e w68 ⟨v298, rfl, ho0, hb⟩; refine ⟨_, rfl, ?_⟩; have n0_ := Aside0.mk (Kd.R_lower ho0 (below_size (by repeat (first | (with_reducible first | exact HB.out | apply below_alloc | apply pw_below_drewN | apply below_drew1 | refine below_set ?_ GE287.out | refine below_set ?_ GE292.out) | exact HB.out)))); have n1_ := Aside0.mk (blk_below (g := gb287) (o := .cells #[.string a0_0, .int .i64 a0_1] 23 (0, 0)) (by (with_reducible repeat (first | refine blk_drewN ?_ _ | refine blk_drew ?_ | refine blk_alloc ?_ _)); exact BK287.out) hb); have n2_ := Aside0.mk (blk_below (g := gb292) (o := .cells #[.string t289, .int .i64 t290] 23 (0, 0)) (by (with_reducible repeat (first | refine blk_drewN ?_ _ | refine blk_drew ?_ | refine blk_alloc ?_ _)); exact BK292.out) hb); have n3_ := Aside0.mk (below_step (by repeat (first | (with_reducible first | exact HB.out | apply below_alloc | apply pw_below_drewN | apply below_drew1 | refine below_set ?_ GE287.out | refine below_set ?_ GE292.out) | exact HB.out)) hb); clear BK287; clear BK292; clear HB; have HO299 := n0_; have BK287 := n1_; have BK292 := n2_; have HB := n3_; clear n0_ n1_ n2_ n3_; (try clear hb); (try clear hb2); (try clear hk); (try clear hi); (try clear ho0); obtain ⟨Ao69, co69, eo69⟩ := Kd.R_slice HO299.out; subst eo69) | ((with_reducible refine gate_callee (f := 16) rfl ?_); refine goesL_ (some 73) rfl rfl Tryd.func16 (by kernel_rfl) rfl #[.string a1] rfl (by (try simp only [List.map_toArray, List.map_cons, List.map_nil]); first | done | rfl | (simp only [List.length_drop, List.length_take]; rfl)) ?_; (with_reducible refine (dname_Labels.calls kj36 a1 t300 _ A61.out).mono ?_); rintro e w70 ⟨v301, rfl, ho0, hb⟩; refine ⟨_, rfl, ?_⟩; have n0_ := Aside0.mk (Kd.R_elder' (by (with_reducible repeat (first | apply Kd.R_alloc | apply Kd.R_drewN | apply Kd.R_drew)); exact HO299.out) (Kd.R_base ho0) hb); have n1_ := Aside0.mk (Kd.R_lower (Kd.R_new' ho0 (Kd.R_lt (by (with_reducible repeat (first | apply Kd.R_alloc | apply Kd.R_drewN | apply Kd.R_drew)); exact HO299.out))) (below_size (by repeat (first | (with_reducible first | exact HB.out | apply below_alloc | apply pw_below_drewN | apply below_drew1 | refine below_set ?_ GE287.out | refine below_set ?_ GE292.out) | exact HB.out)))); have n2_ := Aside0.mk (blk_below (g := gb287) (o := .cells #[.string a0_0, .int .i64 a0_1] 23 (0, 0)) (by (with_reducible repeat (first | refine blk_drewN ?_ _ | refine blk_drew ?_ | refine blk_alloc ?_ _)); exact BK287.out) hb); have n3_ := Aside0.mk (blk_below (g := gb292) (o := .cells #[.string t289, .int .i64 t290] 23 (0, 0)) (by (with_reducible repeat (first | refine blk_drewN ?_ _ | refine blk_drew ?_ | refine blk_alloc ?_ _)); exact BK292.out) hb); have n4_ := Aside0.mk (below_step (by repeat (first | (with_reducible first | exact HB.out | apply below_alloc | apply pw_below_drewN | apply below_drew1 | refine below_set ?_ GE287.out | refine below_set ?_ GE292.out) | exact HB.out)) hb); clear HO299; clear BK287; clear BK292; clear HB; have HO299 := n0_; have HO302 := n1_; have BK287 := n2_; have BK292 := n3_; have HB := n4_; clear n0_ n1_ n2_ n3_ n4_; (try clear hb); (try clear hb2); (try clear hk); (try clear hi); (try clear ho0); obtain ⟨Ao71, co71, eo71⟩ := Kd.R_slice HO302.out; subst eo71) | (go_at_call 10; (with_reducible refine (ddilaw31_awake.calls kj36  t303 _ A65.out).mono ?_); rintro e w72 ⟨rfl, hb⟩; have n0_ := Aside0.mk (Kd.R_below (by (with_reducible repeat (first | apply Kd.R_alloc | apply Kd.R_drewN | apply Kd.R_drew)); exact HO299.out) hb); have n1_ := Aside0.mk (Kd.R_below (by (with_reducible repeat (first | apply Kd.R_alloc | apply Kd.R_drewN | apply Kd.R_drew)); exact HO302.out) hb); have n2_ := Aside0.mk (blk_below (g := gb287) (o := .cells #[.string a0_0, .int .i64 a0_1] 23 (0, 0)) (by (with_reducible repeat (first | refine blk_drewN ?_ _ | refine blk_drew ?_ | refine blk_alloc ?_ _)); exact BK287.out) hb); have n3_ := Aside0.mk (blk_below (g := gb292) (o := .cells #[.string t289, .int .i64 t290] 23 (0, 0)) (by (with_reducible repeat (first | refine blk_drewN ?_ _ | refine blk_drew ?_ | refine blk_alloc ?_ _)); exact BK292.out) hb); have n4_ := Aside0.mk (below_step (by repeat (first | (with_reducible first | exact HB.out | apply below_alloc | apply pw_below_drewN | apply below_drew1 | refine below_set ?_ GE287.out | refine below_set ?_ GE292.out) | exact HB.out)) hb); clear HO299; clear HO302; clear BK287; clear BK292; clear HB; have HO299 := n0_; have HO302 := n1_; have BK287 := n2_; have BK292 := n3_; have HB := n4_; clear n0_ n1_ n2_ n3_ n4_; (try clear hb); (try clear hb2); (try clear hk); (try clear hi)))
                    go_ret
                    exact ⟨by first | rfl | (simp [errW_none, errW_some] <;> rfl) | (simp [*, errW_none, errW_some] <;> rfl), by repeat (first | (with_reducible first | exact HB.out | apply below_alloc | apply pw_below_drewN | apply below_drew1 | refine below_set ?_ GE287.out | refine below_set ?_ GE292.out) | exact HB.out)⟩
                  · rw [if_neg c64] at H
                    have c64b0 : decide ((wrap64 ((t297.length : Int) - (t300.length : Int))) ≤ (wrap64 (1 + a2))) = false := decide_eq_false c64
                    clear c64
                    obtain rfl := Option.some.inj H
                    have hnb73 := NB292_287.out
                    have hnc73 := NB287_292.out
                    have hcz74_0 : wc.cell? ⟨gb292, 0, none⟩ = some (.string t289) := (blk_cell BK292.out 0).trans rfl
                    have hcz74_1 : wc.cell? ⟨gb292, 1, none⟩ = some (.int .i64 t290) := (blk_cell BK292.out 1).trans rfl
                    have hfz74_0 := blk_frozen BK292.out 0
                    have hfz74_1 := blk_frozen BK292.out 1
                    go_wp2_with (first | ((with_reducible refine gate_callee (f := 16) rfl ?_); refine goesL_ (some 70) rfl rfl Tryd.func16 (by kernel_rfl) rfl #[.string t289] rfl (by (try simp only [List.map_toArray, List.map_cons, List.map_nil]); first | done | rfl | (simp only [List.length_drop, List.length_take]; rfl)) ?_; (with_reducible refine (dname_Labels.calls kj36 t289 t297 _ A60.out).mono ?_); rintro e w75 ⟨v298, rfl, ho0, hb⟩; refine ⟨_, rfl, ?_⟩; have n0_ := Aside0.mk (Kd.R_lower ho0 (below_size (by repeat (first | (with_reducible first | exact HB.out | apply below_alloc | apply pw_below_drewN | apply below_drew1 | refine below_set ?_ GE287.out | refine below_set ?_ GE292.out) | exact HB.out)))); have n1_ := Aside0.mk (blk_below (g := gb287) (o := .cells #[.string a0_0, .int .i64 a0_1] 23 (0, 0)) (by (with_reducible repeat (first | refine blk_drewN ?_ _ | refine blk_drew ?_ | refine blk_alloc ?_ _)); exact BK287.out) hb); have n2_ := Aside0.mk (blk_below (g := gb292) (o := .cells #[.string t289, .int .i64 t290] 23 (0, 0)) (by (with_reducible repeat (first | refine blk_drewN ?_ _ | refine blk_drew ?_ | refine blk_alloc ?_ _)); exact BK292.out) hb); have n3_ := Aside0.mk (below_step (by repeat (first | (with_reducible first | exact HB.out | apply below_alloc | apply pw_below_drewN | apply below_drew1 | refine below_set ?_ GE287.out | refine below_set ?_ GE292.out) | exact HB.out)) hb); clear BK287; clear BK292; clear HB; have HO299 := n0_; have BK287 := n1_; have BK292 := n2_; have HB := n3_; clear n0_ n1_ n2_ n3_; (try clear hb); (try clear hb2); (try clear hk); (try clear hi); (try clear ho0); obtain ⟨Ao76, co76, eo76⟩ := Kd.R_slice HO299.out; subst eo76) | ((with_reducible refine gate_callee (f := 16) rfl ?_); refine goesL_ (some 73) rfl rfl Tryd.func16 (by kernel_rfl) rfl #[.string a1] rfl (by (try simp only [List.map_toArray, List.map_cons, List.map_nil]); first | done | rfl | (simp only [List.length_drop, List.length_take]; rfl)) ?_; (with_reducible refine (dname_Labels.calls kj36 a1 t300 _ A61.out).mono ?_); rintro e w77 ⟨v301, rfl, ho0, hb⟩; refine ⟨_, rfl, ?_⟩; have n0_ := Aside0.mk (Kd.R_elder' (by (with_reducible repeat (first | apply Kd.R_alloc | apply Kd.R_drewN | apply Kd.R_drew)); exact HO299.out) (Kd.R_base ho0) hb); have n1_ := Aside0.mk (Kd.R_lower (Kd.R_new' ho0 (Kd.R_lt (by (with_reducible repeat (first | apply Kd.R_alloc | apply Kd.R_drewN | apply Kd.R_drew)); exact HO299.out))) (below_size (by repeat (first | (with_reducible first | exact HB.out | apply below_alloc | apply pw_below_drewN | apply below_drew1 | refine below_set ?_ GE287.out | refine below_set ?_ GE292.out) | exact HB.out)))); have n2_ := Aside0.mk (blk_below (g := gb287) (o := .cells #[.string a0_0, .int .i64 a0_1] 23 (0, 0)) (by (with_reducible repeat (first | refine blk_drewN ?_ _ | refine blk_drew ?_ | refine blk_alloc ?_ _)); exact BK287.out) hb); have n3_ := Aside0.mk (blk_below (g := gb292) (o := .cells #[.string t289, .int .i64 t290] 23 (0, 0)) (by (with_reducible repeat (first | refine blk_drewN ?_ _ | refine blk_drew ?_ | refine blk_alloc ?_ _)); exact BK292.out) hb); have n4_ := Aside0.mk (below_step (by repeat (first | (with_reducible first | exact HB.out | apply below_alloc | apply pw_below_drewN | apply below_drew1 | refine below_set ?_ GE287.out | refine below_set ?_ GE292.out) | exact HB.out)) hb); clear HO299; clear BK287; clear BK292; clear HB; have HO299 := n0_; have HO302 := n1_; have BK287 := n2_; have BK292 := n3_; have HB := n4_; clear n0_ n1_ n2_ n3_ n4_; (try clear hb); (try clear hb2); (try clear hk); (try clear hi); (try clear ho0); obtain ⟨Ao78, co78, eo78⟩ := Kd.R_slice HO302.out; subst eo78))
                    go_ret
                    exact ⟨by first | rfl | (simp [errW_none, errW_some] <;> rfl) | (simp [*, errW_none, errW_some] <;> rfl), by repeat (first | (with_reducible first | exact HB.out | apply below_alloc | apply pw_below_drewN | apply below_drew1 | refine below_set ?_ GE287.out | refine below_set ?_ GE292.out) | exact HB.out)⟩
                · rw [if_neg c63] at H
                  have c63b0 : decide (1 ≤ (wrap64 ((t297.length : Int) - (t300.length : Int)))) = false := decide_eq_false c63
                  clear c63
                  obtain rfl := Option.some.inj H
                  have hnb79 := NB292_287.out
                  have hnc79 := NB287_292.out
                  have hcz80_0 : wc.cell? ⟨gb292, 0, none⟩ = some (.string t289) := (blk_cell BK292.out 0).trans rfl
                  have hcz80_1 : wc.cell? ⟨gb292, 1, none⟩ = some (.int .i64 t290) := (blk_cell BK292.out 1).trans rfl
                  have hfz80_0 := blk_frozen BK292.out 0
                  have hfz80_1 := blk_frozen BK292.out 1
                  go_wp2_with (first | ((with_reducible refine gate_callee (f := 16) rfl ?_); refine goesL_ (some 70) rfl rfl Tryd.func16 (by kernel_rfl) rfl #[.string t289] rfl (by (try simp only [List.map_toArray, List.map_cons, List.map_nil]); first | done | rfl | (simp only [List.length_drop, List.length_take]; rfl)) ?_; (with_reducible refine (dname_Labels.calls kj36 t289 t297 _ A60.out).mono ?_); rintro e w81 ⟨v298, rfl, ho0, hb⟩; refine ⟨_, rfl, ?_⟩; have n0_ := Aside0.mk (Kd.R_lower ho0 (below_size (by repeat (first | (with_reducible first | exact HB.out | apply below_alloc | apply pw_below_drewN | apply below_drew1 | refine below_set ?_ GE287.out | refine below_set ?_ GE292.out) | exact HB.out)))); have n1_ := Aside0.mk (blk_below (g := gb287) (o := .cells #[.string a0_0, .int .i64 a0_1] 23 (0, 0)) (by (with_reducible repeat (first | refine blk_drewN ?_ _ | refine blk_drew ?_ | refine blk_alloc ?_ _)); exact BK287.out) hb); have n2_ := Aside0.mk (blk_below (g := gb292) (o := .cells #[.string t289, .int .i64 t290] 23 (0, 0)) (by (with_reducible repeat (first | refine blk_drewN ?_ _ | refine blk_drew ?_ | refine blk_alloc ?_ _)); exact BK292.out) hb); have n3_ := Aside0.mk (below_step (by repeat (first | (with_reducible first | exact HB.out | apply below_alloc | apply pw_below_drewN | apply below_drew1 | refine below_set ?_ GE287.out | refine below_set ?_ GE292.out) | exact HB.out)) hb); clear BK287; clear BK292; clear HB; have HO299 := n0_; have BK287 := n1_; have BK292 := n2_; have HB := n3_; clear n0_ n1_ n2_ n3_; (try clear hb); (try clear hb2); (try clear hk); (try clear hi); (try clear ho0); obtain ⟨Ao82, co82, eo82⟩ := Kd.R_slice HO299.out; subst eo82) | ((with_reducible refine gate_callee (f := 16) rfl ?_); refine goesL_ (some 73) rfl rfl Tryd.func16 (by kernel_rfl) rfl #[.string a1] rfl (by (try simp only [List.map_toArray, List.map_cons, List.map_nil]); first | done | rfl | (simp only [List.length_drop, List.length_take]; rfl)) ?_; (with_reducible refine (dname_Labels.calls kj36 a1 t300 _ A61.out).mono ?_); rintro e w83 ⟨v301, rfl, ho0, hb⟩; refine ⟨_, rfl, ?_⟩; have n0_ := Aside0.mk (Kd.R_elder' (by (with_reducible repeat (first | apply Kd.R_alloc | apply Kd.R_drewN | apply Kd.R_drew)); exact HO299.out) (Kd.R_base ho0) hb); have n1_ := Aside0.mk (Kd.R_lower (Kd.R_new' ho0 (Kd.R_lt (by (with_reducible repeat (first | apply Kd.R_alloc | apply Kd.R_drewN | apply Kd.R_drew)); exact HO299.out))) (below_size (by repeat (first | (with_reducible first | exact HB.out | apply below_alloc | apply pw_below_drewN | apply below_drew1 | refine below_set ?_ GE287.out | refine below_set ?_ GE292.out) | exact HB.out)))); have n2_ := Aside0.mk (blk_below (g := gb287) (o := .cells #[.string a0_0, .int .i64 a0_1] 23 (0, 0)) (by (with_reducible repeat (first | refine blk_drewN ?_ _ | refine blk_drew ?_ | refine blk_alloc ?_ _)); exact BK287.out) hb); have n3_ := Aside0.mk (blk_below (g := gb292) (o := .cells #[.string t289, .int .i64 t290] 23 (0, 0)) (by (with_reducible repeat (first | refine blk_drewN ?_ _ | refine blk_drew ?_ | refine blk_alloc ?_ _)); exact BK292.out) hb); have n4_ := Aside0.mk (below_step (by repeat (first | (with_reducible first | exact HB.out | apply below_alloc | apply pw_below_drewN | apply below_drew1 | refine below_set ?_ GE287.out | refine below_set ?_ GE292.out) | exact HB.out)) hb); clear HO299; clear BK287; clear BK292; clear HB; have HO299 := n0_; have HO302 := n1_; have BK287 := n2_; have BK292 := n3_; have HB := n4_; clear n0_ n1_ n2_ n3_ n4_; (try clear hb); (try clear hb2); (try clear hk); (try clear hi); (try clear ho0); obtain ⟨Ao84, co84, eo84⟩ := Kd.R_slice HO302.out; subst eo84))
                  go_ret
                  exact ⟨by first | rfl | (simp [errW_none, errW_some] <;> rfl) | (simp [*, errW_none, errW_some] <;> rfl), by repeat (first | (with_reducible first | exact HB.out | apply below_alloc | apply pw_below_drewN | apply below_drew1 | refine below_set ?_ GE287.out | refine below_set ?_ GE292.out) | exact HB.out)⟩
              · rw [if_neg c62] at H
                have c62b0 : (t288 == 1) = false := beq_eq_false_iff_ne.mpr c62
                have c62b1 : (t288 != 1) = true := bne_iff_ne.mpr c62
                obtain rfl := Option.some.inj H
                have hnb85 := NB292_287.out
                have hnc85 := NB287_292.out
                have hcz86_0 : wc.cell? ⟨gb292, 0, none⟩ = some (.string t289) := (blk_cell BK292.out 0).trans rfl
                have hcz86_1 : wc.cell? ⟨gb292, 1, none⟩ = some (.int .i64 t290) := (blk_cell BK292.out 1).trans rfl
                have hfz86_0 := blk_frozen BK292.out 0
                have hfz86_1 := blk_frozen BK292.out 1
                go_wp2_with (first | ((with_reducible refine gate_callee (f := 16) rfl ?_); refine goesL_ (some 70) rfl rfl Tryd.func16 (by kernel_rfl) rfl #[.string t289] rfl (by (try simp only [List.map_toArray, List.map_cons, List.map_nil]); first | done | rfl | (simp only [List.length_drop, List.length_take]; rfl)) ?_; (with_reducible refine (dname_Labels.calls kj36 t289 t297 _ A60.out).mono ?_); rintro e w87 ⟨v298, rfl, ho0, hb⟩; refine ⟨_, rfl, ?_⟩; have n0_ := Aside0.mk (Kd.R_lower ho0 (below_size (by repeat (first | (with_reducible first | exact HB.out | apply below_alloc | apply pw_below_drewN | apply below_drew1 | refine below_set ?_ GE287.out | refine below_set ?_ GE292.out) | exact HB.out)))); have n1_ := Aside0.mk (blk_below (g := gb287) (o := .cells #[.string a0_0, .int .i64 a0_1] 23 (0, 0)) (by (with_reducible repeat (first | refine blk_drewN ?_ _ | refine blk_drew ?_ | refine blk_alloc ?_ _)); exact BK287.out) hb); have n2_ := Aside0.mk (blk_below (g := gb292) (o := .cells #[.string t289, .int .i64 t290] 23 (0, 0)) (by (with_reducible repeat (first | refine blk_drewN ?_ _ | refine blk_drew ?_ | refine blk_alloc ?_ _)); exact BK292.out) hb); have n3_ := Aside0.mk (below_step (by repeat (first | (with_reducible first | exact HB.out | apply below_alloc | apply pw_below_drewN | apply below_drew1 | refine below_set ?_ GE287.out | refine below_set ?_ GE292.out) | exact HB.out)) hb); clear BK287; clear BK292; clear HB; have HO299 := n0_; have BK287 := n1_; have BK292 := n2_; have HB := n3_; clear n0_ n1_ n2_ n3_; (try clear hb); (try clear hb2); (try clear hk); (try clear hi); (try clear ho0); obtain ⟨Ao88, co88, eo88⟩ := Kd.R_slice HO299.out; subst eo88) | ((with_reducible refine gate_callee (f := 16) rfl ?_); refine goesL_ (some 73) rfl rfl Tryd.func16 (by kernel_rfl) rfl #[.string a1] rfl (by (try simp only [List.map_toArray, List.map_cons, List.map_nil]); first | done | rfl | (simp only [List.length_drop, List.length_take]; rfl)) ?_; (with_reducible refine (dname_Labels.calls kj36 a1 t300 _ A61.out).mono ?_); rintro e w89 ⟨v301, rfl, ho0, hb⟩; refine ⟨_, rfl, ?_⟩; have n0_ := Aside0.mk (Kd.R_elder' (by (with_reducible repeat (first | apply Kd.R_alloc | apply Kd.R_drewN | apply Kd.R_drew)); exact HO299.out) (Kd.R_base ho0) hb); have n1_ := Aside0.mk (Kd.R_lower (Kd.R_new' ho0 (Kd.R_lt (by (with_reducible repeat (first | apply Kd.R_alloc | apply Kd.R_drewN | apply Kd.R_drew)); exact HO299.out))) (below_size (by repeat (first | (with_reducible first | exact HB.out | apply below_alloc | apply pw_below_drewN | apply below_drew1 | refine below_set ?_ GE287.out | refine below_set ?_ GE292.out) | exact HB.out)))); have n2_ := Aside0.mk (blk_below (g := gb287) (o := .cells #[.string a0_0, .int .i64 a0_1] 23 (0, 0)) (by (with_reducible repeat (first | refine blk_drewN ?_ _ | refine blk_drew ?_ | refine blk_alloc ?_ _)); exact BK287.out) hb); have n3_ := Aside0.mk (blk_below (g := gb292) (o := .cells #[.string t289, .int .i64 t290] 23 (0, 0)) (by (with_reducible repeat (first | refine blk_drewN ?_ _ | refine blk_drew ?_ | refine blk_alloc ?_ _)); exact BK292.out) hb); have n4_ := Aside0.mk (below_step (by repeat (first | (with_reducible first | exact HB.out | apply below_alloc | apply pw_below_drewN | apply below_drew1 | refine below_set ?_ GE287.out | refine below_set ?_ GE292.out) | exact HB.out)) hb); clear HO299; clear BK287; clear BK292; clear HB; have HO299 := n0_; have HO302 := n1_; have BK287 := n2_; have BK292 := n3_; have HB := n4_; clear n0_ n1_ n2_ n3_ n4_; (try clear hb); (try clear hb2); (try clear hk); (try clear hi); (try clear ho0); obtain ⟨Ao90, co90, eo90⟩ := Kd.R_slice HO302.out; subst eo90))
                go_ret
                exact ⟨by first | rfl | (simp [errW_none, errW_some] <;> rfl) | (simp [*, errW_none, errW_some] <;> rfl), by repeat (first | (with_reducible first | exact HB.out | apply below_alloc | apply pw_below_drewN | apply below_drew1 | refine below_set ?_ GE287.out | refine below_set ?_ GE292.out) | exact HB.out)⟩

end Go.Proofs.YtannhjclhdennaaDoor.Pa
