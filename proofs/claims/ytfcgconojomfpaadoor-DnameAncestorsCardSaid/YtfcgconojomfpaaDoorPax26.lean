-- Written by a program of this session out of the translation's own print; Lean checks it.
import Derived.Test.YtfcgconojomfpaaDoorPax0
import Derived.Test.YtfcgconojomfpaaDoorPax1
import Derived.Test.YtfcgconojomfpaaDoorPax3
import Derived.Test.YtfcgconojomfpaaDoorPax10
import Derived.Test.YtfcgconojomfpaaDoorPax12
import Derived.Test.YtfcgconojomfpaaDoorPax13
import Derived.Test.YtfcgconojomfpaaDoorPax15
namespace Go.Proofs.YtfcgconojomfpaaDoor.Pa
open Go.RowKit Go.Proofs.YtfcgconojomfpaaDoorW.PrintWords Go.Proofs.YtfcgconojomfpaaDoorW.PrintLast Go.Proofs.YtfcgconojomfpaaDoorW.PrintMore
attribute [local go_sem] max2_int min2_int max_two min_two max_three min_three max_four min_four   -- for this text's walks alone
set_option linter.unusedVariables false
set_option linter.unusedSimpArgs false

/-! ### ddilaw01_DnameAncestors: function 8 -/
mutual
def ddilaw01_DnameAncestors.j0 : Nat → ByteArray → ByteArray → ByteArray → Bool → Option (Bool)
  | 0, _, _, _, _ => none
  | k + 1, x0, x1, x5, x22 => if x22 = true then (if x5.toList = ([] : List UInt8) then ((dname_Under.f k x0 x1).bind fun t339 => (if t339 = true then (some false) else ((ddilaw01_awake.f k).bind fun t340 => (some t340)))) else (some false)) else ((dname_Under.f k x0 x5).bind fun t341 => (if t341 = true then ((dname_Under.f k x1 x5).bind fun t342 => (if t342 = true then ((dname_Common.f k x1 x0).bind fun t343 => (if x5.toList = t343.toList then ((dname_Under.f k x0 x1).bind fun t344 => (ddilaw01_DnameAncestors.j1 k x0 x1 x5 (t344 != (x5.toList == x1.toList)))) else (ddilaw01_DnameAncestors.j1 k x0 x1 x5 true))) else (ddilaw01_DnameAncestors.j1 k x0 x1 x5 true))) else (ddilaw01_DnameAncestors.j1 k x0 x1 x5 true)))
def ddilaw01_DnameAncestors.j1 : Nat → ByteArray → ByteArray → ByteArray → Bool → Option (Bool)
  | 0, _, _, _, _ => none
  | k + 1, x0, x1, x5, x59 => if x59 = true then (some false) else (ddilaw01_DnameAncestors.l0 k x1 x5 x0 0)
def ddilaw01_DnameAncestors.l0 : Nat → ByteArray → ByteArray → ByteArray → Int → Option (Bool)
  | 0, _, _, _, _ => none
  | k + 1, x1, x5, x6, x7 => if x7 < 200 then (if x6.toList = x5.toList then ((ddilaw01_awake.f k).bind fun t345 => (some t345)) else ((dname_Under.f k x1 x6).bind fun t346 => (if t346 = true then (some false) else ((dname_Parent.f k x6).bind fun bt347 => (ddilaw01_DnameAncestors.l0 k x1 x5 bt347.1 (wrap64 (x7 + 1))))))) else (some false)
end
def ddilaw01_DnameAncestors.f (k : Nat) (a0 : ByteArray) (a1 : ByteArray) : Option (Bool) := (ddilaw01_cut.f a0).bind fun t334 => ((ddilaw01_cut.f a1).bind fun t335 => ((dname_Common.f k t334 t335).bind fun t336 => ((dname_Valid.f k t334).bind fun t337 => (if t337 = true then ((dname_Valid.f k t335).bind fun t338 => (ddilaw01_DnameAncestors.j0 k t334 t335 t336 (!t338))) else (ddilaw01_DnameAncestors.j0 k t334 t335 t336 true)))))
theorem ddilaw01_DnameAncestors.mono_l : ∀ k, (∀ y0 y1 y2 y3, LeO (ddilaw01_DnameAncestors.j0 k y0 y1 y2 y3) (ddilaw01_DnameAncestors.j0 (k + 1) y0 y1 y2 y3)) ∧ (∀ y0 y1 y2 y3, LeO (ddilaw01_DnameAncestors.j1 k y0 y1 y2 y3) (ddilaw01_DnameAncestors.j1 (k + 1) y0 y1 y2 y3)) ∧ (∀ y0 y1 y2 y3, LeO (ddilaw01_DnameAncestors.l0 k y0 y1 y2 y3) (ddilaw01_DnameAncestors.l0 (k + 1) y0 y1 y2 y3))
  | 0 => ⟨fun _ _ _ _ r h => by simp [ddilaw01_DnameAncestors.j0] at h, fun _ _ _ _ r h => by simp [ddilaw01_DnameAncestors.j1] at h, fun _ _ _ _ r h => by simp [ddilaw01_DnameAncestors.l0] at h⟩
  | k + 1 => by
    obtain ⟨ih0, ih1, ih2⟩ := ddilaw01_DnameAncestors.mono_l k
    refine ⟨?_, ?_, ?_⟩
    · intro y0 y1 y2 y3
      unfold ddilaw01_DnameAncestors.j0
      repeat' first
      | (with_reducible exact ih0 _ _ _ _)
      | (with_reducible exact ih1 _ _ _ _)
      | (with_reducible exact ih2 _ _ _ _)
      | (with_reducible exact ddilaw01_awake.mono _)
      | (with_reducible exact dname_Common.mono _ _ _)
      | (with_reducible exact dname_Parent.mono _ _)
      | (with_reducible exact dname_Under.mono _ _ _)
      | (with_reducible exact dname_Valid.mono _ _)
      | (with_reducible exact LeO.refl _)
      | (with_reducible exact LeO.none _)
      | (with_reducible refine LeO.ite ?_ ?_)
      | (with_reducible refine LeO.bind ?_ (fun _ => ?_))
      | exact ih0 _ _ _ _
      | exact ih1 _ _ _ _
      | exact ih2 _ _ _ _
      | exact ddilaw01_awake.mono _
      | exact dname_Common.mono _ _ _
      | exact dname_Parent.mono _ _
      | exact dname_Under.mono _ _ _
      | exact dname_Valid.mono _ _
      | exact LeO.none _
      | refine LeO.ite ?_ ?_
      | refine LeO.bind ?_ (fun _ => ?_)
    · intro y0 y1 y2 y3
      unfold ddilaw01_DnameAncestors.j1
      repeat' first
      | (with_reducible exact ih0 _ _ _ _)
      | (with_reducible exact ih1 _ _ _ _)
      | (with_reducible exact ih2 _ _ _ _)
      | (with_reducible exact ddilaw01_awake.mono _)
      | (with_reducible exact dname_Common.mono _ _ _)
      | (with_reducible exact dname_Parent.mono _ _)
      | (with_reducible exact dname_Under.mono _ _ _)
      | (with_reducible exact dname_Valid.mono _ _)
      | (with_reducible exact LeO.refl _)
      | (with_reducible exact LeO.none _)
      | (with_reducible refine LeO.ite ?_ ?_)
      | (with_reducible refine LeO.bind ?_ (fun _ => ?_))
      | exact ih0 _ _ _ _
      | exact ih1 _ _ _ _
      | exact ih2 _ _ _ _
      | exact ddilaw01_awake.mono _
      | exact dname_Common.mono _ _ _
      | exact dname_Parent.mono _ _
      | exact dname_Under.mono _ _ _
      | exact dname_Valid.mono _ _
      | exact LeO.none _
      | refine LeO.ite ?_ ?_
      | refine LeO.bind ?_ (fun _ => ?_)
    · intro y0 y1 y2 y3
      unfold ddilaw01_DnameAncestors.l0
      repeat' first
      | (with_reducible exact ih0 _ _ _ _)
      | (with_reducible exact ih1 _ _ _ _)
      | (with_reducible exact ih2 _ _ _ _)
      | (with_reducible exact ddilaw01_awake.mono _)
      | (with_reducible exact dname_Common.mono _ _ _)
      | (with_reducible exact dname_Parent.mono _ _)
      | (with_reducible exact dname_Under.mono _ _ _)
      | (with_reducible exact dname_Valid.mono _ _)
      | (with_reducible exact LeO.refl _)
      | (with_reducible exact LeO.none _)
      | (with_reducible refine LeO.ite ?_ ?_)
      | (with_reducible refine LeO.bind ?_ (fun _ => ?_))
      | exact ih0 _ _ _ _
      | exact ih1 _ _ _ _
      | exact ih2 _ _ _ _
      | exact ddilaw01_awake.mono _
      | exact dname_Common.mono _ _ _
      | exact dname_Parent.mono _ _
      | exact dname_Under.mono _ _ _
      | exact dname_Valid.mono _ _
      | exact LeO.none _
      | refine LeO.ite ?_ ?_
      | refine LeO.bind ?_ (fun _ => ?_)
theorem ddilaw01_DnameAncestors.mono : ∀ a0 a1 k, LeO (ddilaw01_DnameAncestors.f k a0 a1) (ddilaw01_DnameAncestors.f (k + 1) a0 a1) := by
  intro a0 a1 k
  obtain ⟨ih0, ih1, ih2⟩ := ddilaw01_DnameAncestors.mono_l k
  unfold ddilaw01_DnameAncestors.f
  repeat' first
      | (with_reducible exact ih0 _ _ _ _)
      | (with_reducible exact ih1 _ _ _ _)
      | (with_reducible exact ih2 _ _ _ _)
      | (with_reducible exact ddilaw01_awake.mono _)
      | (with_reducible exact dname_Common.mono _ _ _)
      | (with_reducible exact dname_Parent.mono _ _)
      | (with_reducible exact dname_Under.mono _ _ _)
      | (with_reducible exact dname_Valid.mono _ _)
      | (with_reducible exact LeO.refl _)
      | (with_reducible exact LeO.none _)
      | (with_reducible refine LeO.ite ?_ ?_)
      | (with_reducible refine LeO.bind ?_ (fun _ => ?_))
      | exact ih0 _ _ _ _
      | exact ih1 _ _ _ _
      | exact ih2 _ _ _ _
      | exact ddilaw01_awake.mono _
      | exact dname_Common.mono _ _ _
      | exact dname_Parent.mono _ _
      | exact dname_Under.mono _ _ _
      | exact dname_Valid.mono _ _
      | exact LeO.none _
      | refine LeO.ite ?_ ?_
      | refine LeO.bind ?_ (fun _ => ?_)
set_option maxHeartbeats 8000000 in
set_option maxRecDepth 100000 in
theorem ddilaw01_DnameAncestors.calls (k : Nat) (a0 : ByteArray) (a1 : ByteArray) (r : Bool) (w : World) (h : ddilaw01_DnameAncestors.f k a0 a1 = some r) :
    Calls Tryd.prog 8 #[.string a0, .string a1] w fun e w' => e = .returned (.bool r) ∧ Below w.heap.size w w' := by
  have HB := Aside0.mk (Below.refl w.heap.size w)
  have H : ((ddilaw01_cut.f a0).bind fun t334 => ((ddilaw01_cut.f a1).bind fun t335 => ((dname_Common.f k t334 t335).bind fun t336 => ((dname_Valid.f k t334).bind fun t337 => (if t337 = true then ((dname_Valid.f k t335).bind fun t338 => (ddilaw01_DnameAncestors.j0 k t334 t335 t336 (!t338))) else (ddilaw01_DnameAncestors.j0 k t334 t335 t336 true)))))) = some r := h
  clear h
  replace H := Option.bind_eq_some_iff.mp H
  obtain ⟨t334, A30, H⟩ := H
  replace H : ((ddilaw01_cut.f a1).bind fun t335 => ((dname_Common.f k t334 t335).bind fun t336 => ((dname_Valid.f k t334).bind fun t337 => (if t337 = true then ((dname_Valid.f k t335).bind fun t338 => (ddilaw01_DnameAncestors.j0 k t334 t335 t336 (!t338))) else (ddilaw01_DnameAncestors.j0 k t334 t335 t336 true))))) = some r := H
  have A3 := Aside0.mk A30
  clear A30
  replace H := Option.bind_eq_some_iff.mp H
  obtain ⟨t335, A40, H⟩ := H
  replace H : ((dname_Common.f k t334 t335).bind fun t336 => ((dname_Valid.f k t334).bind fun t337 => (if t337 = true then ((dname_Valid.f k t335).bind fun t338 => (ddilaw01_DnameAncestors.j0 k t334 t335 t336 (!t338))) else (ddilaw01_DnameAncestors.j0 k t334 t335 t336 true)))) = some r := H
  have A4 := Aside0.mk A40
  clear A40
  replace H := Option.bind_eq_some_iff.mp H
  obtain ⟨t336, A50, H⟩ := H
  replace H : ((dname_Valid.f k t334).bind fun t337 => (if t337 = true then ((dname_Valid.f k t335).bind fun t338 => (ddilaw01_DnameAncestors.j0 k t334 t335 t336 (!t338))) else (ddilaw01_DnameAncestors.j0 k t334 t335 t336 true))) = some r := H
  have A5 := Aside0.mk A50
  clear A50
  have HC6 := Aside0.mk H
  clear H
  go_enter Tryd.func8, Tryd.ntmps8
  go_upto_region 3 with (first | ((with_reducible refine gate_callee (f := 12) rfl ?_); refine goesL_ (some 9) rfl rfl Tryd.func12 (by kernel_rfl) rfl #[.string a0] rfl (by (try simp only [List.map_toArray, List.map_cons, List.map_nil]); first | done | rfl | (simp only [List.length_drop, List.length_take]; rfl)) ?_; (with_reducible refine (ddilaw01_cut.calls a0 t334 _ A3.out).mono ?_); rintro e w7 ⟨rfl, hb⟩; refine ⟨_, rfl, ?_⟩; have n0_ := Aside0.mk (below_step (by repeat (first | (with_reducible first | exact HB.out | apply below_alloc | apply pw_below_drewN | apply below_drew1) | exact HB.out)) hb); clear HB; have HB := n0_; clear n0_; (try clear hb); (try clear hb2); (try clear hk); (try clear hi)) | ((with_reducible refine gate_callee (f := 12) rfl ?_); refine goesL_ (some 11) rfl rfl Tryd.func12 (by kernel_rfl) rfl #[.string a1] rfl (by (try simp only [List.map_toArray, List.map_cons, List.map_nil]); first | done | rfl | (simp only [List.length_drop, List.length_take]; rfl)) ?_; (with_reducible refine (ddilaw01_cut.calls a1 t335 _ A4.out).mono ?_); rintro e w8 ⟨rfl, hb⟩; refine ⟨_, rfl, ?_⟩; have n0_ := Aside0.mk (below_step (by repeat (first | (with_reducible first | exact HB.out | apply below_alloc | apply pw_below_drewN | apply below_drew1) | exact HB.out)) hb); clear HB; have HB := n0_; clear n0_; (try clear hb); (try clear hb2); (try clear hk); (try clear hi)) | ((with_reducible refine gate_callee (f := 31) rfl ?_); refine goesL_ (some 14) rfl rfl Tryd.func31 (by kernel_rfl) rfl #[.string t334, .string t335] rfl (by (try simp only [List.map_toArray, List.map_cons, List.map_nil]); first | done | rfl | (simp only [List.length_drop, List.length_take]; rfl)) ?_; (with_reducible refine (dname_Common.calls k t334 t335 t336 _ A5.out).mono ?_); rintro e w9 ⟨rfl, hb⟩; refine ⟨_, rfl, ?_⟩; have n0_ := Aside0.mk (below_step (by repeat (first | (with_reducible first | exact HB.out | apply below_alloc | apply pw_below_drewN | apply below_drew1) | exact HB.out)) hb); clear HB; have HB := n0_; clear n0_; (try clear hb); (try clear hb2); (try clear hk); (try clear hi)))
  (try simp only [Act.put, List.setIfInBounds_toArray, List.set_cons_zero, List.set_cons_succ])
  go_cut [22] (fun v22 wc => ∃ (kq : Nat) (x22_5 : Bool), v22 = .bool x22_5 ∧ Aside0 (ddilaw01_DnameAncestors.j0 kq t334 t335 t336 x22_5 = some r) ∧ Aside0 (kq ≤ k) ∧ Aside0 (Below w.heap.size w wc))
  case first =>
    have H := HC6.out
    clear HC6
    replace H := Option.bind_eq_some_iff.mp H
    obtain ⟨t337, A100, H⟩ := H
    replace H : (if t337 = true then ((dname_Valid.f k t335).bind fun t338 => (ddilaw01_DnameAncestors.j0 k t334 t335 t336 (!t338))) else (ddilaw01_DnameAncestors.j0 k t334 t335 t336 true)) = some r := H
    have A10 := Aside0.mk A100
    clear A100
    by_cases c11 : t337 = true
    · subst c11
      have H1 : ((dname_Valid.f k t335).bind fun t338 => (ddilaw01_DnameAncestors.j0 k t334 t335 t336 (!t338))) = some r := by rw [if_pos rfl] at H; exact H
      clear H
      have H := H1
      clear H1
      replace H := Option.bind_eq_some_iff.mp H
      obtain ⟨t338, A120, H⟩ := H
      replace H : (ddilaw01_DnameAncestors.j0 k t334 t335 t336 (!t338)) = some r := H
      have A12 := Aside0.mk A120
      clear A120
      have H' := Aside0.mk H
      clear H
      go_wp2_with (first | ((with_reducible refine gate_callee (f := 15) rfl ?_); refine goesL_ (some 16) rfl rfl Tryd.func15 (by kernel_rfl) rfl #[.string t334] rfl (by (try simp only [List.map_toArray, List.map_cons, List.map_nil]); first | done | rfl | (simp only [List.length_drop, List.length_take]; rfl)) ?_; (with_reducible refine (dname_Valid.calls k t334 true _ A10.out).mono ?_); rintro e w13 ⟨rfl, hb⟩; refine ⟨_, rfl, ?_⟩; have n0_ := Aside0.mk (below_step (by repeat (first | (with_reducible first | exact HB.out | apply below_alloc | apply pw_below_drewN | apply below_drew1) | exact HB.out)) hb); clear HB; have HB := n0_; clear n0_; (try clear hb); (try clear hb2); (try clear hk); (try clear hi)) | (go_at_call 15; (with_reducible refine (dname_Valid.calls k t335 t338 _ A12.out).mono ?_); rintro e w14 ⟨rfl, hb⟩; have n0_ := Aside0.mk (below_step (by repeat (first | (with_reducible first | exact HB.out | apply below_alloc | apply pw_below_drewN | apply below_drew1) | exact HB.out)) hb); clear HB; have HB := n0_; clear n0_; (try clear hb); (try clear hb2); (try clear hk); (try clear hi)))
      go_meet
      case rel => exact ⟨_, (!t338), (by first | rfl | (simp; done) | (simp [*]; done)), H', ⟨by first | omega | exact Nat.le_refl _⟩, ⟨by repeat (first | (with_reducible first | exact HB.out | apply below_alloc | apply pw_below_drewN | apply below_drew1) | exact HB.out)⟩⟩
    · replace c11 := Bool.eq_false_iff.mpr c11
      subst c11
      have H1 : (ddilaw01_DnameAncestors.j0 k t334 t335 t336 true) = some r := by rw [if_neg (show ¬ (false = true) by decide)] at H; exact H
      clear H
      have H := H1
      clear H1
      have H' := Aside0.mk H
      clear H
      go_wp2_with (first | ((with_reducible refine gate_callee (f := 15) rfl ?_); refine goesL_ (some 16) rfl rfl Tryd.func15 (by kernel_rfl) rfl #[.string t334] rfl (by (try simp only [List.map_toArray, List.map_cons, List.map_nil]); first | done | rfl | (simp only [List.length_drop, List.length_take]; rfl)) ?_; (with_reducible refine (dname_Valid.calls k t334 false _ A10.out).mono ?_); rintro e w15 ⟨rfl, hb⟩; refine ⟨_, rfl, ?_⟩; have n0_ := Aside0.mk (below_step (by repeat (first | (with_reducible first | exact HB.out | apply below_alloc | apply pw_below_drewN | apply below_drew1) | exact HB.out)) hb); clear HB; have HB := n0_; clear n0_; (try clear hb); (try clear hb2); (try clear hk); (try clear hi)))
      go_meet
      case rel => exact ⟨_, (true), (by first | rfl | (simp; done) | (simp [*]; done)), H', ⟨by first | omega | exact Nat.le_refl _⟩, ⟨by repeat (first | (with_reducible first | exact HB.out | apply below_alloc | apply pw_below_drewN | apply below_drew1) | exact HB.out)⟩⟩
  case rest =>
    clear HC6
    try clear c1
    try clear p2
    try clear c3
    try clear c8
    try clear c11
    try clear c12
    try clear c15
    obtain ⟨kq, x22_5, rfl, HA, HJ5, HB⟩ := hcut
    cases kq with
    | zero => exact absurd HA.out (by simp [ddilaw01_DnameAncestors.j0])
    | succ kj5 =>
      have H := HA.out
      clear HA
      simp only [ddilaw01_DnameAncestors.j0] at H
      by_cases c16 : x22_5 = true
      · subst c16
        have H1 : (if t336.toList = ([] : List UInt8) then ((dname_Under.f kj5 t334 t335).bind fun t339 => (if t339 = true then (some false) else ((ddilaw01_awake.f kj5).bind fun t340 => (some t340)))) else (some false)) = some r := by rw [if_pos rfl] at H; exact H
        clear H
        have H := H1
        clear H1
        by_cases c17 : t336.toList = ([] : List UInt8)
        · rw [if_pos c17] at H
          have c17b0 : (t336.toList == ([] : List UInt8)) = true := beq_iff_eq.mpr c17
          have c17b1 : (t336.toList != ([] : List UInt8)) = false := bne_eq_false_iff_eq.mpr c17
          clear c17
          replace H := Option.bind_eq_some_iff.mp H
          obtain ⟨t339, A180, H⟩ := H
          replace H : (if t339 = true then (some false) else ((ddilaw01_awake.f kj5).bind fun t340 => (some t340))) = some r := H
          have A18 := Aside0.mk A180
          clear A180
          by_cases c19 : t339 = true
          · subst c19
            have H1 : (some false) = some r := by rw [if_pos rfl] at H; exact H
            clear H
            have H := H1
            clear H1
            obtain rfl := Option.some.inj H
            go_wp2_with (first | (go_at_call 27; (with_reducible refine (dname_Under.calls kj5 t334 t335 true _ A18.out).mono ?_); rintro e w20 ⟨rfl, hb⟩; have n0_ := Aside0.mk (below_step (by repeat (first | (with_reducible first | exact HB.out | apply below_alloc | apply pw_below_drewN | apply below_drew1) | exact HB.out)) hb); clear HB; have HB := n0_; clear n0_; (try clear hb); (try clear hb2); (try clear hk); (try clear hi)))
            go_ret
            exact ⟨by first | rfl | (simp [errW_none, errW_some] <;> rfl) | (simp [*, errW_none, errW_some] <;> rfl), by repeat (first | (with_reducible first | exact HB.out | apply below_alloc | apply pw_below_drewN | apply below_drew1) | exact HB.out)⟩
          · replace c19 := Bool.eq_false_iff.mpr c19
            subst c19
            have H1 : ((ddilaw01_awake.f kj5).bind fun t340 => (some t340)) = some r := by rw [if_neg (show ¬ (false = true) by decide)] at H; exact H
            clear H
            have H := H1
            clear H1
            replace H := Option.bind_eq_some_iff.mp H
            obtain ⟨t340, A210, H⟩ := H
            replace H : (some t340) = some r := H
            have A21 := Aside0.mk A210
            clear A210
            obtain rfl := Option.some.inj H
            go_wp2_with (first | (go_at_call 27; (with_reducible refine (dname_Under.calls kj5 t334 t335 false _ A18.out).mono ?_); rintro e w22 ⟨rfl, hb⟩; have n0_ := Aside0.mk (below_step (by repeat (first | (with_reducible first | exact HB.out | apply below_alloc | apply pw_below_drewN | apply below_drew1) | exact HB.out)) hb); clear HB; have HB := n0_; clear n0_; (try clear hb); (try clear hb2); (try clear hk); (try clear hi)) | (go_at_call 17; (with_reducible refine (ddilaw01_awake.calls kj5  t340 _ A21.out).mono ?_); rintro e w23 ⟨rfl, hb⟩; have n0_ := Aside0.mk (below_step (by repeat (first | (with_reducible first | exact HB.out | apply below_alloc | apply pw_below_drewN | apply below_drew1) | exact HB.out)) hb); clear HB; have HB := n0_; clear n0_; (try clear hb); (try clear hb2); (try clear hk); (try clear hi)))
            go_ret
            exact ⟨by first | rfl | (simp [errW_none, errW_some] <;> rfl) | (simp [*, errW_none, errW_some] <;> rfl), by repeat (first | (with_reducible first | exact HB.out | apply below_alloc | apply pw_below_drewN | apply below_drew1) | exact HB.out)⟩
        · rw [if_neg c17] at H
          have c17b0 : (t336.toList == ([] : List UInt8)) = false := beq_eq_false_iff_ne.mpr c17
          have c17b1 : (t336.toList != ([] : List UInt8)) = true := bne_iff_ne.mpr c17
          obtain rfl := Option.some.inj H
          go_wp2
          go_ret
          exact ⟨by first | rfl | (simp [errW_none, errW_some] <;> rfl) | (simp [*, errW_none, errW_some] <;> rfl), by repeat (first | (with_reducible first | exact HB.out | apply below_alloc | apply pw_below_drewN | apply below_drew1) | exact HB.out)⟩
      · replace c16 := Bool.eq_false_iff.mpr c16
        subst c16
        have H1 : ((dname_Under.f kj5 t334 t336).bind fun t341 => (if t341 = true then ((dname_Under.f kj5 t335 t336).bind fun t342 => (if t342 = true then ((dname_Common.f kj5 t335 t334).bind fun t343 => (if t336.toList = t343.toList then ((dname_Under.f kj5 t334 t335).bind fun t344 => (ddilaw01_DnameAncestors.j1 kj5 t334 t335 t336 (t344 != (t336.toList == t335.toList)))) else (ddilaw01_DnameAncestors.j1 kj5 t334 t335 t336 true))) else (ddilaw01_DnameAncestors.j1 kj5 t334 t335 t336 true))) else (ddilaw01_DnameAncestors.j1 kj5 t334 t335 t336 true))) = some r := by rw [if_neg (show ¬ (false = true) by decide)] at H; exact H
        clear H
        have H := H1
        clear H1
        have HC24 := Aside0.mk H
        clear H
        go_upto_region 5 with (fail)
        go_cut [59] (fun v59 wc => ∃ (kq : Nat) (x59_23 : Bool), v59 = .bool x59_23 ∧ Aside0 (ddilaw01_DnameAncestors.j1 kq t334 t335 t336 x59_23 = some r) ∧ Aside0 (kq ≤ kj5) ∧ Aside0 (Below w.heap.size w wc))
        case first =>
          have H := HC24.out
          clear HC24
          replace H := Option.bind_eq_some_iff.mp H
          obtain ⟨t341, A250, H⟩ := H
          replace H : (if t341 = true then ((dname_Under.f kj5 t335 t336).bind fun t342 => (if t342 = true then ((dname_Common.f kj5 t335 t334).bind fun t343 => (if t336.toList = t343.toList then ((dname_Under.f kj5 t334 t335).bind fun t344 => (ddilaw01_DnameAncestors.j1 kj5 t334 t335 t336 (t344 != (t336.toList == t335.toList)))) else (ddilaw01_DnameAncestors.j1 kj5 t334 t335 t336 true))) else (ddilaw01_DnameAncestors.j1 kj5 t334 t335 t336 true))) else (ddilaw01_DnameAncestors.j1 kj5 t334 t335 t336 true)) = some r := H
          have A25 := Aside0.mk A250
          clear A250
          by_cases c26 : t341 = true
          · subst c26
            have H1 : ((dname_Under.f kj5 t335 t336).bind fun t342 => (if t342 = true then ((dname_Common.f kj5 t335 t334).bind fun t343 => (if t336.toList = t343.toList then ((dname_Under.f kj5 t334 t335).bind fun t344 => (ddilaw01_DnameAncestors.j1 kj5 t334 t335 t336 (t344 != (t336.toList == t335.toList)))) else (ddilaw01_DnameAncestors.j1 kj5 t334 t335 t336 true))) else (ddilaw01_DnameAncestors.j1 kj5 t334 t335 t336 true))) = some r := by rw [if_pos rfl] at H; exact H
            clear H
            have H := H1
            clear H1
            replace H := Option.bind_eq_some_iff.mp H
            obtain ⟨t342, A270, H⟩ := H
            replace H : (if t342 = true then ((dname_Common.f kj5 t335 t334).bind fun t343 => (if t336.toList = t343.toList then ((dname_Under.f kj5 t334 t335).bind fun t344 => (ddilaw01_DnameAncestors.j1 kj5 t334 t335 t336 (t344 != (t336.toList == t335.toList)))) else (ddilaw01_DnameAncestors.j1 kj5 t334 t335 t336 true))) else (ddilaw01_DnameAncestors.j1 kj5 t334 t335 t336 true)) = some r := H
            have A27 := Aside0.mk A270
            clear A270
            by_cases c28 : t342 = true
            · subst c28
              have H1 : ((dname_Common.f kj5 t335 t334).bind fun t343 => (if t336.toList = t343.toList then ((dname_Under.f kj5 t334 t335).bind fun t344 => (ddilaw01_DnameAncestors.j1 kj5 t334 t335 t336 (t344 != (t336.toList == t335.toList)))) else (ddilaw01_DnameAncestors.j1 kj5 t334 t335 t336 true))) = some r := by rw [if_pos rfl] at H; exact H
              clear H
              have H := H1
              clear H1
              replace H := Option.bind_eq_some_iff.mp H
              obtain ⟨t343, A290, H⟩ := H
              replace H : (if t336.toList = t343.toList then ((dname_Under.f kj5 t334 t335).bind fun t344 => (ddilaw01_DnameAncestors.j1 kj5 t334 t335 t336 (t344 != (t336.toList == t335.toList)))) else (ddilaw01_DnameAncestors.j1 kj5 t334 t335 t336 true)) = some r := H
              have A29 := Aside0.mk A290
              clear A290
              by_cases c30 : t336.toList = t343.toList
              · rw [if_pos c30] at H
                have c30b0 : (t336.toList == t343.toList) = true := beq_iff_eq.mpr c30
                have c30b1 : (t336.toList != t343.toList) = false := bne_eq_false_iff_eq.mpr c30
                clear c30
                (first | rw [c30b0] | (simp only [i64_w, i32_w]; rw [c30b0]) | skip)
                replace H := Option.bind_eq_some_iff.mp H
                obtain ⟨t344, A310, H⟩ := H
                replace H : (ddilaw01_DnameAncestors.j1 kj5 t334 t335 t336 (t344 != (t336.toList == t335.toList))) = some r := H
                have A31 := Aside0.mk A310
                clear A310
                have H' := Aside0.mk H
                clear H
                go_wp2_with (first | ((with_reducible refine gate_callee (f := 27) rfl ?_); refine goesL_ (some 36) rfl rfl Tryd.func27 (by kernel_rfl) rfl #[.string t334, .string t336] rfl (by (try simp only [List.map_toArray, List.map_cons, List.map_nil]); first | done | rfl | (simp only [List.length_drop, List.length_take]; rfl)) ?_; (with_reducible refine (dname_Under.calls kj5 t334 t336 true _ A25.out).mono ?_); rintro e w32 ⟨rfl, hb⟩; refine ⟨_, rfl, ?_⟩; have n0_ := Aside0.mk (below_step (by repeat (first | (with_reducible first | exact HB.out | apply below_alloc | apply pw_below_drewN | apply below_drew1) | exact HB.out)) hb); clear HB; have HB := n0_; clear n0_; (try clear hb); (try clear hb2); (try clear hk); (try clear hi)) | (go_at_call 27; (with_reducible refine (dname_Under.calls kj5 t335 t336 true _ A27.out).mono ?_); rintro e w33 ⟨rfl, hb⟩; have n0_ := Aside0.mk (below_step (by repeat (first | (with_reducible first | exact HB.out | apply below_alloc | apply pw_below_drewN | apply below_drew1) | exact HB.out)) hb); clear HB; have HB := n0_; clear n0_; (try clear hb); (try clear hb2); (try clear hk); (try clear hi)) | (go_at_call 31; (with_reducible refine (dname_Common.calls kj5 t335 t334 t343 _ A29.out).mono ?_); rintro e w34 ⟨rfl, hb⟩; have n0_ := Aside0.mk (below_step (by repeat (first | (with_reducible first | exact HB.out | apply below_alloc | apply pw_below_drewN | apply below_drew1) | exact HB.out)) hb); clear HB; have HB := n0_; clear n0_; (try clear hb); (try clear hb2); (try clear hk); (try clear hi)) | (go_at_call 27; (with_reducible refine (dname_Under.calls kj5 t334 t335 t344 _ A31.out).mono ?_); rintro e w35 ⟨rfl, hb⟩; have n0_ := Aside0.mk (below_step (by repeat (first | (with_reducible first | exact HB.out | apply below_alloc | apply pw_below_drewN | apply below_drew1) | exact HB.out)) hb); clear HB; have HB := n0_; clear n0_; (try clear hb); (try clear hb2); (try clear hk); (try clear hi)))
                go_meet
                case rel => exact ⟨_, ((t344 != (t336.toList == t335.toList))), (by first | rfl | (simp; done) | (simp [*]; done)), H', ⟨by have := HJ5.out; first | omega | exact Nat.le_refl _⟩, ⟨by repeat (first | (with_reducible first | exact HB.out | apply below_alloc | apply pw_below_drewN | apply below_drew1) | exact HB.out)⟩⟩
              · rw [if_neg c30] at H
                have c30b0 : (t336.toList == t343.toList) = false := beq_eq_false_iff_ne.mpr c30
                have c30b1 : (t336.toList != t343.toList) = true := bne_iff_ne.mpr c30
                (first | rw [c30b0] | (simp only [i64_w, i32_w]; rw [c30b0]) | skip)
                have H' := Aside0.mk H
                clear H
                go_wp2_with (first | ((with_reducible refine gate_callee (f := 27) rfl ?_); refine goesL_ (some 36) rfl rfl Tryd.func27 (by kernel_rfl) rfl #[.string t334, .string t336] rfl (by (try simp only [List.map_toArray, List.map_cons, List.map_nil]); first | done | rfl | (simp only [List.length_drop, List.length_take]; rfl)) ?_; (with_reducible refine (dname_Under.calls kj5 t334 t336 true _ A25.out).mono ?_); rintro e w36 ⟨rfl, hb⟩; refine ⟨_, rfl, ?_⟩; have n0_ := Aside0.mk (below_step (by repeat (first | (with_reducible first | exact HB.out | apply below_alloc | apply pw_below_drewN | apply below_drew1) | exact HB.out)) hb); clear HB; have HB := n0_; clear n0_; (try clear hb); (try clear hb2); (try clear hk); (try clear hi)) | (go_at_call 27; (with_reducible refine (dname_Under.calls kj5 t335 t336 true _ A27.out).mono ?_); rintro e w37 ⟨rfl, hb⟩; have n0_ := Aside0.mk (below_step (by repeat (first | (with_reducible first | exact HB.out | apply below_alloc | apply pw_below_drewN | apply below_drew1) | exact HB.out)) hb); clear HB; have HB := n0_; clear n0_; (try clear hb); (try clear hb2); (try clear hk); (try clear hi)) | (go_at_call 31; (with_reducible refine (dname_Common.calls kj5 t335 t334 t343 _ A29.out).mono ?_); rintro e w38 ⟨rfl, hb⟩; have n0_ := Aside0.mk (below_step (by repeat (first | (with_reducible first | exact HB.out | apply below_alloc | apply pw_below_drewN | apply below_drew1) | exact HB.out)) hb); clear HB; have HB := n0_; clear n0_; (try clear hb); (try clear hb2); (try clear hk); (try clear hi)))
                go_meet
                case rel => exact ⟨_, (true), (by first | rfl | (simp; done) | (simp [*]; done)), H', ⟨by have := HJ5.out; first | omega | exact Nat.le_refl _⟩, ⟨by repeat (first | (with_reducible first | exact HB.out | apply below_alloc | apply pw_below_drewN | apply below_drew1) | exact HB.out)⟩⟩
            · replace c28 := Bool.eq_false_iff.mpr c28
              subst c28
              have H1 : (ddilaw01_DnameAncestors.j1 kj5 t334 t335 t336 true) = some r := by rw [if_neg (show ¬ (false = true) by decide)] at H; exact H
              clear H
              have H := H1
              clear H1
              have H' := Aside0.mk H
              clear H
              go_wp2_with (first | ((with_reducible refine gate_callee (f := 27) rfl ?_); refine goesL_ (some 36) rfl rfl Tryd.func27 (by kernel_rfl) rfl #[.string t334, .string t336] rfl (by (try simp only [List.map_toArray, List.map_cons, List.map_nil]); first | done | rfl | (simp only [List.length_drop, List.length_take]; rfl)) ?_; (with_reducible refine (dname_Under.calls kj5 t334 t336 true _ A25.out).mono ?_); rintro e w39 ⟨rfl, hb⟩; refine ⟨_, rfl, ?_⟩; have n0_ := Aside0.mk (below_step (by repeat (first | (with_reducible first | exact HB.out | apply below_alloc | apply pw_below_drewN | apply below_drew1) | exact HB.out)) hb); clear HB; have HB := n0_; clear n0_; (try clear hb); (try clear hb2); (try clear hk); (try clear hi)) | (go_at_call 27; (with_reducible refine (dname_Under.calls kj5 t335 t336 false _ A27.out).mono ?_); rintro e w40 ⟨rfl, hb⟩; have n0_ := Aside0.mk (below_step (by repeat (first | (with_reducible first | exact HB.out | apply below_alloc | apply pw_below_drewN | apply below_drew1) | exact HB.out)) hb); clear HB; have HB := n0_; clear n0_; (try clear hb); (try clear hb2); (try clear hk); (try clear hi)))
              go_meet
              case rel => exact ⟨_, (true), (by first | rfl | (simp; done) | (simp [*]; done)), H', ⟨by have := HJ5.out; first | omega | exact Nat.le_refl _⟩, ⟨by repeat (first | (with_reducible first | exact HB.out | apply below_alloc | apply pw_below_drewN | apply below_drew1) | exact HB.out)⟩⟩
          · replace c26 := Bool.eq_false_iff.mpr c26
            subst c26
            have H1 : (ddilaw01_DnameAncestors.j1 kj5 t334 t335 t336 true) = some r := by rw [if_neg (show ¬ (false = true) by decide)] at H; exact H
            clear H
            have H := H1
            clear H1
            have H' := Aside0.mk H
            clear H
            go_wp2_with (first | ((with_reducible refine gate_callee (f := 27) rfl ?_); refine goesL_ (some 36) rfl rfl Tryd.func27 (by kernel_rfl) rfl #[.string t334, .string t336] rfl (by (try simp only [List.map_toArray, List.map_cons, List.map_nil]); first | done | rfl | (simp only [List.length_drop, List.length_take]; rfl)) ?_; (with_reducible refine (dname_Under.calls kj5 t334 t336 false _ A25.out).mono ?_); rintro e w41 ⟨rfl, hb⟩; refine ⟨_, rfl, ?_⟩; have n0_ := Aside0.mk (below_step (by repeat (first | (with_reducible first | exact HB.out | apply below_alloc | apply pw_below_drewN | apply below_drew1) | exact HB.out)) hb); clear HB; have HB := n0_; clear n0_; (try clear hb); (try clear hb2); (try clear hk); (try clear hi)))
            go_meet
            case rel => exact ⟨_, (true), (by first | rfl | (simp; done) | (simp [*]; done)), H', ⟨by have := HJ5.out; first | omega | exact Nat.le_refl _⟩, ⟨by repeat (first | (with_reducible first | exact HB.out | apply below_alloc | apply pw_below_drewN | apply below_drew1) | exact HB.out)⟩⟩
        case rest =>
          clear HC24
          try clear c1
          try clear c2
          try clear p2
          try clear c3
          try clear c8
          try clear c11
          try clear c12
          try clear c15
          try clear c16
          try clear c17
          try clear c17b0
          try clear c17b1
          try clear c19
          try clear c26
          try clear c27
          try clear c28
          try clear c30
          try clear c30b0
          try clear c30b1
          try clear c31
          try clear p2
          obtain ⟨kq, x59_23, rfl, HA, HJ23, HB⟩ := hcut
          cases kq with
          | zero => exact absurd HA.out (by simp [ddilaw01_DnameAncestors.j1])
          | succ kj23 =>
            have H := HA.out
            clear HA
            simp only [ddilaw01_DnameAncestors.j1] at H
            by_cases c42 : x59_23 = true
            · subst c42
              have H1 : (some false) = some r := by rw [if_pos rfl] at H; exact H
              clear H
              have H := H1
              clear H1
              obtain rfl := Option.some.inj H
              go_wp2
              go_ret
              exact ⟨by first | rfl | (simp [errW_none, errW_some] <;> rfl) | (simp [*, errW_none, errW_some] <;> rfl), by repeat (first | (with_reducible first | exact HB.out | apply below_alloc | apply pw_below_drewN | apply below_drew1) | exact HB.out)⟩
            · replace c42 := Bool.eq_false_iff.mpr c42
              subst c42
              have H1 : (ddilaw01_DnameAncestors.l0 kj23 t335 t336 t334 0) = some r := by rw [if_neg (show ¬ (false = true) by decide)] at H; exact H
              clear H
              have H := H1
              clear H1
              have H' := Aside0.mk H
              clear H
              go_wp2
              go_loopg [6, 7] kj23 (fun kq v6 v7 w' => ∃ (x6_3 : ByteArray) (x7_3 : Int), v6 = .string x6_3 ∧ v7 = .int .i64 x7_3 ∧ Aside0 (ddilaw01_DnameAncestors.l0 kq t335 t336 x6_3 x7_3 = some r) ∧ Aside0 (kq ≤ kj23) ∧ Aside0 (Below w.heap.size w w'))
              case atStart => exact ⟨(t334), (0), (by first | rfl | (simp; done) | (simp [*]; done)), (by first | rfl | (simp; done) | (simp [*]; done)), H', ⟨Nat.le_refl _⟩, ⟨by repeat (first | (with_reducible first | exact HB.out | apply below_alloc | apply pw_below_drewN | apply below_drew1) | exact HB.out)⟩⟩
              case round =>
                clear H'
                try clear c1
                try clear c2
                try clear p2
                try clear c3
                try clear c4
                try clear c8
                try clear c11
                try clear c12
                try clear c15
                try clear c16
                try clear c17
                try clear c17b0
                try clear c17b1
                try clear c19
                try clear c26
                try clear c27
                try clear c28
                try clear c30
                try clear c30b0
                try clear c30b1
                try clear c31
                try clear c42
                try clear p2
                obtain ⟨x6_3, x7_3, rfl, rfl, HA, HK3, HB⟩ := hrel
                cases gk with
                | zero => exact absurd HA.out (by simp [ddilaw01_DnameAncestors.l0])
                | succ k3 =>
                  have H := HA.out
                  clear HA
                  simp only [ddilaw01_DnameAncestors.l0] at H
                  by_cases c43 : x7_3 < 200
                  · rw [if_pos c43] at H
                    have c43b0 : decide (x7_3 < 200) = true := decide_eq_true c43
                    clear c43
                    by_cases c44 : x6_3.toList = t336.toList
                    · rw [if_pos c44] at H
                      have c44b0 : (x6_3.toList == t336.toList) = true := beq_iff_eq.mpr c44
                      have c44b1 : (x6_3.toList != t336.toList) = false := bne_eq_false_iff_eq.mpr c44
                      clear c44
                      replace H := Option.bind_eq_some_iff.mp H
                      obtain ⟨t345, A450, H⟩ := H
                      replace H : (some t345) = some r := H
                      have A45 := Aside0.mk A450
                      clear A450
                      obtain rfl := Option.some.inj H
                      go_wp2_with (first | ((with_reducible refine gate_callee (f := 17) rfl ?_); refine goesL_ (some 68) rfl rfl Tryd.func17 (by kernel_rfl) rfl #[] rfl (by (try simp only [List.map_toArray, List.map_cons, List.map_nil]); first | done | rfl | (simp only [List.length_drop, List.length_take]; rfl)) ?_; (with_reducible refine (ddilaw01_awake.calls k3  t345 _ A45.out).mono ?_); rintro e w46 ⟨rfl, hb⟩; refine ⟨_, rfl, ?_⟩; have n0_ := Aside0.mk (below_step (by repeat (first | (with_reducible first | exact HB.out | apply below_alloc | apply pw_below_drewN | apply below_drew1) | exact HB.out)) hb); clear HB; have HB := n0_; clear n0_; (try clear hb); (try clear hb2); (try clear hk); (try clear hi)))
                      go_ret
                      exact ⟨by first | rfl | (simp [errW_none, errW_some] <;> rfl) | (simp [*, errW_none, errW_some] <;> rfl), by repeat (first | (with_reducible first | exact HB.out | apply below_alloc | apply pw_below_drewN | apply below_drew1) | exact HB.out)⟩
                    · rw [if_neg c44] at H
                      have c44b0 : (x6_3.toList == t336.toList) = false := beq_eq_false_iff_ne.mpr c44
                      have c44b1 : (x6_3.toList != t336.toList) = true := bne_iff_ne.mpr c44
                      replace H := Option.bind_eq_some_iff.mp H
                      obtain ⟨t346, A470, H⟩ := H
                      replace H : (if t346 = true then (some false) else ((dname_Parent.f k3 x6_3).bind fun bt347 => (ddilaw01_DnameAncestors.l0 k3 t335 t336 bt347.1 (wrap64 (x7_3 + 1))))) = some r := H
                      have A47 := Aside0.mk A470
                      clear A470
                      by_cases c48 : t346 = true
                      · subst c48
                        have H1 : (some false) = some r := by rw [if_pos rfl] at H; exact H
                        clear H
                        have H := H1
                        clear H1
                        obtain rfl := Option.some.inj H
                        go_wp2_with (first | ((with_reducible refine gate_callee (f := 27) rfl ?_); refine goesL_ (some 71) rfl rfl Tryd.func27 (by kernel_rfl) rfl #[.string t335, .string x6_3] rfl (by (try simp only [List.map_toArray, List.map_cons, List.map_nil]); first | done | rfl | (simp only [List.length_drop, List.length_take]; rfl)) ?_; (with_reducible refine (dname_Under.calls k3 t335 x6_3 true _ A47.out).mono ?_); rintro e w49 ⟨rfl, hb⟩; refine ⟨_, rfl, ?_⟩; have n0_ := Aside0.mk (below_step (by repeat (first | (with_reducible first | exact HB.out | apply below_alloc | apply pw_below_drewN | apply below_drew1) | exact HB.out)) hb); clear HB; have HB := n0_; clear n0_; (try clear hb); (try clear hb2); (try clear hk); (try clear hi)))
                        go_ret
                        exact ⟨by first | rfl | (simp [errW_none, errW_some] <;> rfl) | (simp [*, errW_none, errW_some] <;> rfl), by repeat (first | (with_reducible first | exact HB.out | apply below_alloc | apply pw_below_drewN | apply below_drew1) | exact HB.out)⟩
                      · replace c48 := Bool.eq_false_iff.mpr c48
                        subst c48
                        have H1 : ((dname_Parent.f k3 x6_3).bind fun bt347 => (ddilaw01_DnameAncestors.l0 k3 t335 t336 bt347.1 (wrap64 (x7_3 + 1)))) = some r := by rw [if_neg (show ¬ (false = true) by decide)] at H; exact H
                        clear H
                        have H := H1
                        clear H1
                        replace H := Option.bind_eq_some_iff.mp H
                        obtain ⟨⟨t347, t348⟩, A500, H⟩ := H
                        replace H : (ddilaw01_DnameAncestors.l0 k3 t335 t336 t347 (wrap64 (x7_3 + 1))) = some r := H
                        have A50 := Aside0.mk A500
                        clear A500
                        have H' := Aside0.mk H
                        clear H
                        go_wp2_with (first | ((with_reducible refine gate_callee (f := 27) rfl ?_); refine goesL_ (some 71) rfl rfl Tryd.func27 (by kernel_rfl) rfl #[.string t335, .string x6_3] rfl (by (try simp only [List.map_toArray, List.map_cons, List.map_nil]); first | done | rfl | (simp only [List.length_drop, List.length_take]; rfl)) ?_; (with_reducible refine (dname_Under.calls k3 t335 x6_3 false _ A47.out).mono ?_); rintro e w51 ⟨rfl, hb⟩; refine ⟨_, rfl, ?_⟩; have n0_ := Aside0.mk (below_step (by repeat (first | (with_reducible first | exact HB.out | apply below_alloc | apply pw_below_drewN | apply below_drew1) | exact HB.out)) hb); clear HB; have HB := n0_; clear n0_; (try clear hb); (try clear hb2); (try clear hk); (try clear hi)) | ((with_reducible refine gate_callee (f := 18) rfl ?_); refine goesL_ (some 74) rfl rfl Tryd.func18 (by kernel_rfl) rfl #[.string x6_3] rfl (by (try simp only [List.map_toArray, List.map_cons, List.map_nil]); first | done | rfl | (simp only [List.length_drop, List.length_take]; rfl)) ?_; (with_reducible refine (dname_Parent.calls k3 x6_3 t347 t348 _ A50.out).mono ?_); rintro e w52 ⟨rfl, hb⟩; refine ⟨_, rfl, ?_⟩; have n0_ := Aside0.mk (below_step (by repeat (first | (with_reducible first | exact HB.out | apply below_alloc | apply pw_below_drewN | apply below_drew1) | exact HB.out)) hb); clear HB; have HB := n0_; clear n0_; (try clear hb); (try clear hb2); (try clear hk); (try clear hi)))
                        go_roundg k3
                        case measure => have := HJ5.out; have := HJ23.out; have := HK3.out; omega
                        case rel => exact ⟨(t347), (wrap64 (x7_3 + 1)), (by first | rfl | (simp; done) | (simp [*]; done)), (by first | rfl | (simp; done) | (simp [*]; done)), H', ⟨by have := HJ5.out; have := HJ23.out; have := HK3.out; omega⟩, ⟨by repeat (first | (with_reducible first | exact HB.out | apply below_alloc | apply pw_below_drewN | apply below_drew1) | exact HB.out)⟩⟩
                  · rw [if_neg c43] at H
                    have c43b0 : decide (x7_3 < 200) = false := decide_eq_false c43
                    clear c43
                    obtain rfl := Option.some.inj H
                    go_wp2
                    go_ret
                    exact ⟨by first | rfl | (simp [errW_none, errW_some] <;> rfl) | (simp [*, errW_none, errW_some] <;> rfl), by repeat (first | (with_reducible first | exact HB.out | apply below_alloc | apply pw_below_drewN | apply below_drew1) | exact HB.out)⟩

end Go.Proofs.YtfcgconojomfpaaDoor.Pa
