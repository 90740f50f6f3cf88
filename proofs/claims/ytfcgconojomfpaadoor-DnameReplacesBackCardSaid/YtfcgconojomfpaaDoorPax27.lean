-- Written by a program of this session out of the translation's own print; Lean checks it.
import Derived.Test.YtfcgconojomfpaaDoorPax0
import Derived.Test.YtfcgconojomfpaaDoorPax1
import Derived.Test.YtfcgconojomfpaaDoorPax10
import Derived.Test.YtfcgconojomfpaaDoorPax14
import Derived.Test.YtfcgconojomfpaaDoorPax15
namespace Go.Proofs.YtfcgconojomfpaaDoor.Pa
open Go.RowKit Go.Proofs.YtfcgconojomfpaaDoorW.PrintWords Go.Proofs.YtfcgconojomfpaaDoorW.PrintLast Go.Proofs.YtfcgconojomfpaaDoorW.PrintMore
attribute [local go_sem] max2_int min2_int max_two min_two max_three min_three max_four min_four   -- for this text's walks alone
set_option linter.unusedVariables false
set_option linter.unusedSimpArgs false

/-! ### ddilaw01_DnameReplacesBack: function 9 -/
def ddilaw01_DnameReplacesBack.j0 : Nat → ByteArray → ByteArray → ByteArray → ByteArray → Bool → Option (Bool)
  | 0, _, _, _, _, _ => none
  | k + 1, x0, x1, x2, x7, x51 => if x51 = true then (some false) else ((dname_Replace.f k x7 x2 x1).bind fun bt368 => (if bt368.2 = 0 then (if bt368.1.toList = x0.toList then ((ddilaw01_awake.f k).bind fun t370 => (some t370)) else (some false)) else (some false)))
def ddilaw01_DnameReplacesBack.f (k : Nat) (a0 : ByteArray) (a1 : ByteArray) (a2 : ByteArray) : Option (Bool) := (ddilaw01_cut.f a0).bind fun t349 => ((ddilaw01_cut.f a1).bind fun t350 => ((ddilaw01_cut.f a2).bind fun t351 => ((dname_Replace.f k t349 t350 t351).bind fun bt352 => (if bt352.2 = 0 then ((dname_Under.f k bt352.1 t351).bind fun t355 => (if t355 = true then ((dname_Labels.f k bt352.1).bind fun t356 => ((dname_Labels.f k t351).bind fun t359 => ((dname_Labels.f k t349).bind fun t362 => ((dname_Labels.f k t350).bind fun t365 => (ddilaw01_DnameReplacesBack.j0 k t349 t350 t351 bt352.1 ((wrap64 ((t356.length : Int) - (t359.length : Int))) != (wrap64 ((t362.length : Int) - (t365.length : Int))))))))) else (ddilaw01_DnameReplacesBack.j0 k t349 t350 t351 bt352.1 true))) else (if bt352.1.toList = ([] : List UInt8) then ((ddilaw01_awake.f k).bind fun t354 => (some t354)) else (some false))))))
theorem ddilaw01_DnameReplacesBack.mono_l : ∀ k, (∀ y0 y1 y2 y3 y4, LeO (ddilaw01_DnameReplacesBack.j0 k y0 y1 y2 y3 y4) (ddilaw01_DnameReplacesBack.j0 (k + 1) y0 y1 y2 y3 y4))
  | 0 => fun _ _ _ _ _ r h => by simp [ddilaw01_DnameReplacesBack.j0] at h
  | k + 1 => by
    have ih0 := ddilaw01_DnameReplacesBack.mono_l k
    · intro y0 y1 y2 y3 y4
      unfold ddilaw01_DnameReplacesBack.j0
      repeat' first
      | (with_reducible exact ih0 _ _ _ _ _)
      | (with_reducible exact ddilaw01_awake.mono _)
      | (with_reducible exact dname_Labels.mono _ _)
      | (with_reducible exact dname_Replace.mono _ _ _ _)
      | (with_reducible exact dname_Under.mono _ _ _)
      | (with_reducible exact LeO.refl _)
      | (with_reducible exact LeO.none _)
      | (with_reducible refine LeO.ite ?_ ?_)
      | (with_reducible refine LeO.bind ?_ (fun _ => ?_))
      | exact ih0 _ _ _ _ _
      | exact ddilaw01_awake.mono _
      | exact dname_Labels.mono _ _
      | exact dname_Replace.mono _ _ _ _
      | exact dname_Under.mono _ _ _
      | exact LeO.none _
      | refine LeO.ite ?_ ?_
      | refine LeO.bind ?_ (fun _ => ?_)
theorem ddilaw01_DnameReplacesBack.mono : ∀ a0 a1 a2 k, LeO (ddilaw01_DnameReplacesBack.f k a0 a1 a2) (ddilaw01_DnameReplacesBack.f (k + 1) a0 a1 a2) := by
  intro a0 a1 a2 k
  have ih0 := ddilaw01_DnameReplacesBack.mono_l k
  unfold ddilaw01_DnameReplacesBack.f
  repeat' first
      | (with_reducible exact ih0 _ _ _ _ _)
      | (with_reducible exact ddilaw01_awake.mono _)
      | (with_reducible exact dname_Labels.mono _ _)
      | (with_reducible exact dname_Replace.mono _ _ _ _)
      | (with_reducible exact dname_Under.mono _ _ _)
      | (with_reducible exact LeO.refl _)
      | (with_reducible exact LeO.none _)
      | (with_reducible refine LeO.ite ?_ ?_)
      | (with_reducible refine LeO.bind ?_ (fun _ => ?_))
      | exact ih0 _ _ _ _ _
      | exact ddilaw01_awake.mono _
      | exact dname_Labels.mono _ _
      | exact dname_Replace.mono _ _ _ _
      | exact dname_Under.mono _ _ _
      | exact LeO.none _
      | refine LeO.ite ?_ ?_
      | refine LeO.bind ?_ (fun _ => ?_)
set_option maxHeartbeats 8000000 in
set_option maxRecDepth 100000 in
theorem ddilaw01_DnameReplacesBack.calls (k : Nat) (a0 : ByteArray) (a1 : ByteArray) (a2 : ByteArray) (r : Bool) (w : World) (h : ddilaw01_DnameReplacesBack.f k a0 a1 a2 = some r) :
    Calls Tryd.prog 9 #[.string a0, .string a1, .string a2] w fun e w' => e = .returned (.bool r) ∧ Below w.heap.size w w' := by
  have HB := Aside0.mk (Below.refl w.heap.size w)
  have H : ((ddilaw01_cut.f a0).bind fun t349 => ((ddilaw01_cut.f a1).bind fun t350 => ((ddilaw01_cut.f a2).bind fun t351 => ((dname_Replace.f k t349 t350 t351).bind fun bt352 => (if bt352.2 = 0 then ((dname_Under.f k bt352.1 t351).bind fun t355 => (if t355 = true then ((dname_Labels.f k bt352.1).bind fun t356 => ((dname_Labels.f k t351).bind fun t359 => ((dname_Labels.f k t349).bind fun t362 => ((dname_Labels.f k t350).bind fun t365 => (ddilaw01_DnameReplacesBack.j0 k t349 t350 t351 bt352.1 ((wrap64 ((t356.length : Int) - (t359.length : Int))) != (wrap64 ((t362.length : Int) - (t365.length : Int))))))))) else (ddilaw01_DnameReplacesBack.j0 k t349 t350 t351 bt352.1 true))) else (if bt352.1.toList = ([] : List UInt8) then ((ddilaw01_awake.f k).bind fun t354 => (some t354)) else (some false))))))) = some r := h
  clear h
  replace H := Option.bind_eq_some_iff.mp H
  obtain ⟨t349, A40, H⟩ := H
  replace H : ((ddilaw01_cut.f a1).bind fun t350 => ((ddilaw01_cut.f a2).bind fun t351 => ((dname_Replace.f k t349 t350 t351).bind fun bt352 => (if bt352.2 = 0 then ((dname_Under.f k bt352.1 t351).bind fun t355 => (if t355 = true then ((dname_Labels.f k bt352.1).bind fun t356 => ((dname_Labels.f k t351).bind fun t359 => ((dname_Labels.f k t349).bind fun t362 => ((dname_Labels.f k t350).bind fun t365 => (ddilaw01_DnameReplacesBack.j0 k t349 t350 t351 bt352.1 ((wrap64 ((t356.length : Int) - (t359.length : Int))) != (wrap64 ((t362.length : Int) - (t365.length : Int))))))))) else (ddilaw01_DnameReplacesBack.j0 k t349 t350 t351 bt352.1 true))) else (if bt352.1.toList = ([] : List UInt8) then ((ddilaw01_awake.f k).bind fun t354 => (some t354)) else (some false)))))) = some r := H
  have A4 := Aside0.mk A40
  clear A40
  replace H := Option.bind_eq_some_iff.mp H
  obtain ⟨t350, A50, H⟩ := H
  replace H : ((ddilaw01_cut.f a2).bind fun t351 => ((dname_Replace.f k t349 t350 t351).bind fun bt352 => (if bt352.2 = 0 then ((dname_Under.f k bt352.1 t351).bind fun t355 => (if t355 = true then ((dname_Labels.f k bt352.1).bind fun t356 => ((dname_Labels.f k t351).bind fun t359 => ((dname_Labels.f k t349).bind fun t362 => ((dname_Labels.f k t350).bind fun t365 => (ddilaw01_DnameReplacesBack.j0 k t349 t350 t351 bt352.1 ((wrap64 ((t356.length : Int) - (t359.length : Int))) != (wrap64 ((t362.length : Int) - (t365.length : Int))))))))) else (ddilaw01_DnameReplacesBack.j0 k t349 t350 t351 bt352.1 true))) else (if bt352.1.toList = ([] : List UInt8) then ((ddilaw01_awake.f k).bind fun t354 => (some t354)) else (some false))))) = some r := H
  have A5 := Aside0.mk A50
  clear A50
  replace H := Option.bind_eq_some_iff.mp H
  obtain ⟨t351, A60, H⟩ := H
  replace H : ((dname_Replace.f k t349 t350 t351).bind fun bt352 => (if bt352.2 = 0 then ((dname_Under.f k bt352.1 t351).bind fun t355 => (if t355 = true then ((dname_Labels.f k bt352.1).bind fun t356 => ((dname_Labels.f k t351).bind fun t359 => ((dname_Labels.f k t349).bind fun t362 => ((dname_Labels.f k t350).bind fun t365 => (ddilaw01_DnameReplacesBack.j0 k t349 t350 t351 bt352.1 ((wrap64 ((t356.length : Int) - (t359.length : Int))) != (wrap64 ((t362.length : Int) - (t365.length : Int))))))))) else (ddilaw01_DnameReplacesBack.j0 k t349 t350 t351 bt352.1 true))) else (if bt352.1.toList = ([] : List UInt8) then ((ddilaw01_awake.f k).bind fun t354 => (some t354)) else (some false)))) = some r := H
  have A6 := Aside0.mk A60
  clear A60
  replace H := Option.bind_eq_some_iff.mp H
  obtain ⟨⟨t352, t353⟩, A70, H⟩ := H
  replace H : (if t353 = 0 then ((dname_Under.f k t352 t351).bind fun t355 => (if t355 = true then ((dname_Labels.f k t352).bind fun t356 => ((dname_Labels.f k t351).bind fun t359 => ((dname_Labels.f k t349).bind fun t362 => ((dname_Labels.f k t350).bind fun t365 => (ddilaw01_DnameReplacesBack.j0 k t349 t350 t351 t352 ((wrap64 ((t356.length : Int) - (t359.length : Int))) != (wrap64 ((t362.length : Int) - (t365.length : Int))))))))) else (ddilaw01_DnameReplacesBack.j0 k t349 t350 t351 t352 true))) else (if t352.toList = ([] : List UInt8) then ((ddilaw01_awake.f k).bind fun t354 => (some t354)) else (some false))) = some r := H
  have A7 := Aside0.mk A70
  clear A70
  by_cases c8 : t353 = 0
  · rw [if_pos c8] at H
    have c8b0 : (t353 == 0) = true := beq_iff_eq.mpr c8
    have c8b1 : (t353 != 0) = false := bne_eq_false_iff_eq.mpr c8
    clear c8
    have HC9 := Aside0.mk H
    clear H
    go_enter Tryd.func9, Tryd.ntmps9
    go_upto_region 5 with (first | ((with_reducible refine gate_callee (f := 12) rfl ?_); refine goesL_ (some 12) rfl rfl Tryd.func12 (by kernel_rfl) rfl #[.string a0] rfl (by (try simp only [List.map_toArray, List.map_cons, List.map_nil]); first | done | rfl | (simp only [List.length_drop, List.length_take]; rfl)) ?_; (with_reducible refine (ddilaw01_cut.calls a0 t349 _ A4.out).mono ?_); rintro e w10 ⟨rfl, hb⟩; refine ⟨_, rfl, ?_⟩; have n0_ := Aside0.mk (below_step (by repeat (first | (with_reducible first | exact HB.out | apply below_alloc | apply pw_below_drewN | apply below_drew1) | exact HB.out)) hb); clear HB; have HB := n0_; clear n0_; (try clear hb); (try clear hb2); (try clear hk); (try clear hi)) | ((with_reducible refine gate_callee (f := 12) rfl ?_); refine goesL_ (some 14) rfl rfl Tryd.func12 (by kernel_rfl) rfl #[.string a1] rfl (by (try simp only [List.map_toArray, List.map_cons, List.map_nil]); first | done | rfl | (simp only [List.length_drop, List.length_take]; rfl)) ?_; (with_reducible refine (ddilaw01_cut.calls a1 t350 _ A5.out).mono ?_); rintro e w11 ⟨rfl, hb⟩; refine ⟨_, rfl, ?_⟩; have n0_ := Aside0.mk (below_step (by repeat (first | (with_reducible first | exact HB.out | apply below_alloc | apply pw_below_drewN | apply below_drew1) | exact HB.out)) hb); clear HB; have HB := n0_; clear n0_; (try clear hb); (try clear hb2); (try clear hk); (try clear hi)) | ((with_reducible refine gate_callee (f := 12) rfl ?_); refine goesL_ (some 16) rfl rfl Tryd.func12 (by kernel_rfl) rfl #[.string a2] rfl (by (try simp only [List.map_toArray, List.map_cons, List.map_nil]); first | done | rfl | (simp only [List.length_drop, List.length_take]; rfl)) ?_; (with_reducible refine (ddilaw01_cut.calls a2 t351 _ A6.out).mono ?_); rintro e w12 ⟨rfl, hb⟩; refine ⟨_, rfl, ?_⟩; have n0_ := Aside0.mk (below_step (by repeat (first | (with_reducible first | exact HB.out | apply below_alloc | apply pw_below_drewN | apply below_drew1) | exact HB.out)) hb); clear HB; have HB := n0_; clear n0_; (try clear hb); (try clear hb2); (try clear hk); (try clear hi)) | ((with_reducible refine gate_callee (f := 33) rfl ?_); refine goesL_ (some 21) rfl rfl Tryd.func33 (by kernel_rfl) rfl #[.string t349, .string t350, .string t351] rfl (by (try simp only [List.map_toArray, List.map_cons, List.map_nil]); first | done | rfl | (simp only [List.length_drop, List.length_take]; rfl)) ?_; (with_reducible refine (dname_Replace.calls k t349 t350 t351 t352 t353 _ A7.out).mono ?_); rintro e w13 ⟨rfl, hb⟩; refine ⟨_, rfl, ?_⟩; have n0_ := Aside0.mk (below_step (by repeat (first | (with_reducible first | exact HB.out | apply below_alloc | apply pw_below_drewN | apply below_drew1) | exact HB.out)) hb); clear HB; have HB := n0_; clear n0_; (try clear hb); (try clear hb2); (try clear hk); (try clear hi)))
    (try simp only [Act.put, List.setIfInBounds_toArray, List.set_cons_zero, List.set_cons_succ])
    go_cut [51] (fun v51 wc => ∃ (kq : Nat) (x51_8 : Bool), v51 = .bool x51_8 ∧ Aside0 (ddilaw01_DnameReplacesBack.j0 kq t349 t350 t351 t352 x51_8 = some r) ∧ Aside0 (kq ≤ k) ∧ Aside0 (Below w.heap.size w wc))
    case first =>
      have H := HC9.out
      clear HC9
      replace H := Option.bind_eq_some_iff.mp H
      obtain ⟨t355, A140, H⟩ := H
      replace H : (if t355 = true then ((dname_Labels.f k t352).bind fun t356 => ((dname_Labels.f k t351).bind fun t359 => ((dname_Labels.f k t349).bind fun t362 => ((dname_Labels.f k t350).bind fun t365 => (ddilaw01_DnameReplacesBack.j0 k t349 t350 t351 t352 ((wrap64 ((t356.length : Int) - (t359.length : Int))) != (wrap64 ((t362.length : Int) - (t365.length : Int))))))))) else (ddilaw01_DnameReplacesBack.j0 k t349 t350 t351 t352 true)) = some r := H
      have A14 := Aside0.mk A140
      clear A140
      by_cases c15 : t355 = true
      · subst c15
        have H1 : ((dname_Labels.f k t352).bind fun t356 => ((dname_Labels.f k t351).bind fun t359 => ((dname_Labels.f k t349).bind fun t362 => ((dname_Labels.f k t350).bind fun t365 => (ddilaw01_DnameReplacesBack.j0 k t349 t350 t351 t352 ((wrap64 ((t356.length : Int) - (t359.length : Int))) != (wrap64 ((t362.length : Int) - (t365.length : Int))))))))) = some r := by rw [if_pos rfl] at H; exact H
        clear H
        have H := H1
        clear H1
        replace H := Option.bind_eq_some_iff.mp H
        obtain ⟨t356, A160, H⟩ := H
        replace H : ((dname_Labels.f k t351).bind fun t359 => ((dname_Labels.f k t349).bind fun t362 => ((dname_Labels.f k t350).bind fun t365 => (ddilaw01_DnameReplacesBack.j0 k t349 t350 t351 t352 ((wrap64 ((t356.length : Int) - (t359.length : Int))) != (wrap64 ((t362.length : Int) - (t365.length : Int)))))))) = some r := H
        have A16 := Aside0.mk A160
        clear A160
        replace H := Option.bind_eq_some_iff.mp H
        obtain ⟨t359, A170, H⟩ := H
        replace H : ((dname_Labels.f k t349).bind fun t362 => ((dname_Labels.f k t350).bind fun t365 => (ddilaw01_DnameReplacesBack.j0 k t349 t350 t351 t352 ((wrap64 ((t356.length : Int) - (t359.length : Int))) != (wrap64 ((t362.length : Int) - (t365.length : Int))))))) = some r := H
        have A17 := Aside0.mk A170
        clear A170
        replace H := Option.bind_eq_some_iff.mp H
        obtain ⟨t362, A180, H⟩ := H
        replace H : ((dname_Labels.f k t350).bind fun t365 => (ddilaw01_DnameReplacesBack.j0 k t349 t350 t351 t352 ((wrap64 ((t356.length : Int) - (t359.length : Int))) != (wrap64 ((t362.length : Int) - (t365.length : Int)))))) = some r := H
        have A18 := Aside0.mk A180
        clear A180
        replace H := Option.bind_eq_some_iff.mp H
        obtain ⟨t365, A190, H⟩ := H
        replace H : (ddilaw01_DnameReplacesBack.j0 k t349 t350 t351 t352 ((wrap64 ((t356.length : Int) - (t359.length : Int))) != (wrap64 ((t362.length : Int) - (t365.length : Int))))) = some r := H
        have A19 := Aside0.mk A190
        clear A190
        have H' := Aside0.mk H
        clear H
        go_wp2_with (first | ((with_reducible refine gate_callee (f := 27) rfl ?_); refine goesL_ (some 33) rfl rfl Tryd.func27 (by kernel_rfl) rfl #[.string t352, .string t351] rfl (by (try simp only [List.map_toArray, List.map_cons, List.map_nil]); first | done | rfl | (simp only [List.length_drop, List.length_take]; rfl)) ?_; (with_reducible refine (dname_Under.calls k t352 t351 true _ A14.out).mono ?_); rintro e w20 ⟨rfl, hb⟩; refine ⟨_, rfl, ?_⟩; have n0_ := Aside0.mk (below_step (by repeat (first | (with_reducible first | exact HB.out | apply below_alloc | apply pw_below_drewN | apply below_drew1) | exact HB.out)) hb); clear HB; have HB := n0_; clear n0_; (try clear hb); (try clear hb2); (try clear hk); (try clear hi)) | (go_at_call 23; (with_reducible refine (dname_Labels.calls k t352 t356 _ A16.out).mono ?_); rintro e w21 ⟨v357, rfl, ho0, hb⟩; have n0_ := Aside0.mk (Kd.R_lower ho0 (below_size (by repeat (first | (with_reducible first | exact HB.out | apply below_alloc | apply pw_below_drewN | apply below_drew1) | exact HB.out)))); have n1_ := Aside0.mk (below_step (by repeat (first | (with_reducible first | exact HB.out | apply below_alloc | apply pw_below_drewN | apply below_drew1) | exact HB.out)) hb); clear HB; have HO358 := n0_; have HB := n1_; clear n0_ n1_; (try clear hb); (try clear hb2); (try clear hk); (try clear hi); (try clear ho0); obtain ⟨Ao22, co22, eo22⟩ := Kd.R_slice HO358.out; subst eo22) | (go_at_call 23; (with_reducible refine (dname_Labels.calls k t351 t359 _ A17.out).mono ?_); rintro e w23 ⟨v360, rfl, ho0, hb⟩; have n0_ := Aside0.mk (Kd.R_elder' (by (with_reducible repeat (first | apply Kd.R_alloc | apply Kd.R_drewN | apply Kd.R_drew)); exact HO358.out) (Kd.R_base ho0) hb); have n1_ := Aside0.mk (Kd.R_lower (Kd.R_new' ho0 (Kd.R_lt (by (with_reducible repeat (first | apply Kd.R_alloc | apply Kd.R_drewN | apply Kd.R_drew)); exact HO358.out))) (below_size (by repeat (first | (with_reducible first | exact HB.out | apply below_alloc | apply pw_below_drewN | apply below_drew1) | exact HB.out)))); have n2_ := Aside0.mk (below_step (by repeat (first | (with_reducible first | exact HB.out | apply below_alloc | apply pw_below_drewN | apply below_drew1) | exact HB.out)) hb); clear HO358; clear HB; have HO358 := n0_; have HO361 := n1_; have HB := n2_; clear n0_ n1_ n2_; (try clear hb); (try clear hb2); (try clear hk); (try clear hi); (try clear ho0); obtain ⟨Ao24, co24, eo24⟩ := Kd.R_slice HO361.out; subst eo24) | (go_at_call 23; (with_reducible refine (dname_Labels.calls k t349 t362 _ A18.out).mono ?_); rintro e w25 ⟨v363, rfl, ho0, hb⟩; have n0_ := Aside0.mk (Kd.R_elder' (by (with_reducible repeat (first | apply Kd.R_alloc | apply Kd.R_drewN | apply Kd.R_drew)); exact HO358.out) (Kd.R_base ho0) hb); have n1_ := Aside0.mk (Kd.R_elder' (by (with_reducible repeat (first | apply Kd.R_alloc | apply Kd.R_drewN | apply Kd.R_drew)); exact HO361.out) (Kd.R_base ho0) hb); have n2_ := Aside0.mk (Kd.R_lower (Kd.R_new' (Kd.R_new' ho0 (Kd.R_lt (by (with_reducible repeat (first | apply Kd.R_alloc | apply Kd.R_drewN | apply Kd.R_drew)); exact HO358.out))) (Kd.R_lt (by (with_reducible repeat (first | apply Kd.R_alloc | apply Kd.R_drewN | apply Kd.R_drew)); exact HO361.out))) (below_size (by repeat (first | (with_reducible first | exact HB.out | apply below_alloc | apply pw_below_drewN | apply below_drew1) | exact HB.out)))); have n3_ := Aside0.mk (below_step (by repeat (first | (with_reducible first | exact HB.out | apply below_alloc | apply pw_below_drewN | apply below_drew1) | exact HB.out)) hb); clear HO358; clear HO361; clear HB; have HO358 := n0_; have HO361 := n1_; have HO364 := n2_; have HB := n3_; clear n0_ n1_ n2_ n3_; (try clear hb); (try clear hb2); (try clear hk); (try clear hi); (try clear ho0); obtain ⟨Ao26, co26, eo26⟩ := Kd.R_slice HO364.out; subst eo26) | (go_at_call 23; (with_reducible refine (dname_Labels.calls k t350 t365 _ A19.out).mono ?_); rintro e w27 ⟨v366, rfl, ho0, hb⟩; have n0_ := Aside0.mk (Kd.R_elder' (by (with_reducible repeat (first | apply Kd.R_alloc | apply Kd.R_drewN | apply Kd.R_drew)); exact HO358.out) (Kd.R_base ho0) hb); have n1_ := Aside0.mk (Kd.R_elder' (by (with_reducible repeat (first | apply Kd.R_alloc | apply Kd.R_drewN | apply Kd.R_drew)); exact HO361.out) (Kd.R_base ho0) hb); have n2_ := Aside0.mk (Kd.R_elder' (by (with_reducible repeat (first | apply Kd.R_alloc | apply Kd.R_drewN | apply Kd.R_drew)); exact HO364.out) (Kd.R_base ho0) hb); have n3_ := Aside0.mk (Kd.R_lower (Kd.R_new' (Kd.R_new' (Kd.R_new' ho0 (Kd.R_lt (by (with_reducible repeat (first | apply Kd.R_alloc | apply Kd.R_drewN | apply Kd.R_drew)); exact HO358.out))) (Kd.R_lt (by (with_reducible repeat (first | apply Kd.R_alloc | apply Kd.R_drewN | apply Kd.R_drew)); exact HO361.out))) (Kd.R_lt (by (with_reducible repeat (first | apply Kd.R_alloc | apply Kd.R_drewN | apply Kd.R_drew)); exact HO364.out))) (below_size (by repeat (first | (with_reducible first | exact HB.out | apply below_alloc | apply pw_below_drewN | apply below_drew1) | exact HB.out)))); have n4_ := Aside0.mk (below_step (by repeat (first | (with_reducible first | exact HB.out | apply below_alloc | apply pw_below_drewN | apply below_drew1) | exact HB.out)) hb); clear HO358; clear HO361; clear HO364; clear HB; have HO358 := n0_; have HO361 := n1_; have HO364 := n2_; have HO367 := n3_; have HB := n4_; clear n0_ n1_ n2_ n3_ n4_; (try clear hb); (try clear hb2); (try clear hk); (try clear hi); (try clear ho0); obtain ⟨Ao28, co28, eo28⟩ := Kd.R_slice HO367.out; subst eo28))
        go_meet
        case rel => exact ⟨_, (((wrap64 ((t356.length : Int) - (t359.length : Int))) != (wrap64 ((t362.length : Int) - (t365.length : Int))))), (by first | rfl | (simp; done) | (simp [*]; done)), H', ⟨by first | omega | exact Nat.le_refl _⟩, ⟨by repeat (first | (with_reducible first | exact HB.out | apply below_alloc | apply pw_below_drewN | apply below_drew1) | exact HB.out)⟩⟩
      · replace c15 := Bool.eq_false_iff.mpr c15
        subst c15
        have H1 : (ddilaw01_DnameReplacesBack.j0 k t349 t350 t351 t352 true) = some r := by rw [if_neg (show ¬ (false = true) by decide)] at H; exact H
        clear H
        have H := H1
        clear H1
        have H' := Aside0.mk H
        clear H
        go_wp2_with (first | ((with_reducible refine gate_callee (f := 27) rfl ?_); refine goesL_ (some 33) rfl rfl Tryd.func27 (by kernel_rfl) rfl #[.string t352, .string t351] rfl (by (try simp only [List.map_toArray, List.map_cons, List.map_nil]); first | done | rfl | (simp only [List.length_drop, List.length_take]; rfl)) ?_; (with_reducible refine (dname_Under.calls k t352 t351 false _ A14.out).mono ?_); rintro e w29 ⟨rfl, hb⟩; refine ⟨_, rfl, ?_⟩; have n0_ := Aside0.mk (below_step (by repeat (first | (with_reducible first | exact HB.out | apply below_alloc | apply pw_below_drewN | apply below_drew1) | exact HB.out)) hb); clear HB; have HB := n0_; clear n0_; (try clear hb); (try clear hb2); (try clear hk); (try clear hi)))
        go_meet
        case rel => exact ⟨_, (true), (by first | rfl | (simp; done) | (simp [*]; done)), H', ⟨by first | omega | exact Nat.le_refl _⟩, ⟨by repeat (first | (with_reducible first | exact HB.out | apply below_alloc | apply pw_below_drewN | apply below_drew1) | exact HB.out)⟩⟩
    case rest =>
      clear HC9
      try clear c1
      try clear c2
      try clear p2
      try clear c3
      try clear p6
      try clear c8
      try clear c8b0
      try clear c8b1
      try clear c9
      try clear c12
      try clear c15
      try clear c27
      obtain ⟨kq, x51_8, rfl, HA, HJ8, HB⟩ := hcut
      cases kq with
      | zero => exact absurd HA.out (by simp [ddilaw01_DnameReplacesBack.j0])
      | succ kj8 =>
        have H := HA.out
        clear HA
        simp only [ddilaw01_DnameReplacesBack.j0] at H
        by_cases c30 : x51_8 = true
        · subst c30
          have H1 : (some false) = some r := by rw [if_pos rfl] at H; exact H
          clear H
          have H := H1
          clear H1
          obtain rfl := Option.some.inj H
          go_wp2
          go_ret
          exact ⟨by first | rfl | (simp [errW_none, errW_some] <;> rfl) | (simp [*, errW_none, errW_some] <;> rfl), by repeat (first | (with_reducible first | exact HB.out | apply below_alloc | apply pw_below_drewN | apply below_drew1) | exact HB.out)⟩
        · replace c30 := Bool.eq_false_iff.mpr c30
          subst c30
          have H1 : ((dname_Replace.f kj8 t352 t351 t350).bind fun bt368 => (if bt368.2 = 0 then (if bt368.1.toList = t349.toList then ((ddilaw01_awake.f kj8).bind fun t370 => (some t370)) else (some false)) else (some false))) = some r := by rw [if_neg (show ¬ (false = true) by decide)] at H; exact H
          clear H
          have H := H1
          clear H1
          replace H := Option.bind_eq_some_iff.mp H
          obtain ⟨⟨t368, t369⟩, A310, H⟩ := H
          replace H : (if t369 = 0 then (if t368.toList = t349.toList then ((ddilaw01_awake.f kj8).bind fun t370 => (some t370)) else (some false)) else (some false)) = some r := H
          have A31 := Aside0.mk A310
          clear A310
          by_cases c32 : t369 = 0
          · rw [if_pos c32] at H
            have c32b0 : (t369 == 0) = true := beq_iff_eq.mpr c32
            have c32b1 : (t369 != 0) = false := bne_eq_false_iff_eq.mpr c32
            clear c32
            by_cases c33 : t368.toList = t349.toList
            · rw [if_pos c33] at H
              have c33b0 : (t368.toList == t349.toList) = true := beq_iff_eq.mpr c33
              have c33b1 : (t368.toList != t349.toList) = false := bne_eq_false_iff_eq.mpr c33
              clear c33
              replace H := Option.bind_eq_some_iff.mp H
              obtain ⟨t370, A340, H⟩ := H
              replace H : (some t370) = some r := H
              have A34 := Aside0.mk A340
              clear A340
              obtain rfl := Option.some.inj H
              go_wp2_with (first | ((with_reducible refine gate_callee (f := 33) rfl ?_); refine goesL_ (some 56) rfl rfl Tryd.func33 (by kernel_rfl) rfl #[.string t352, .string t351, .string t350] rfl (by (try simp only [List.map_toArray, List.map_cons, List.map_nil]); first | done | rfl | (simp only [List.length_drop, List.length_take]; rfl)) ?_; (with_reducible refine (dname_Replace.calls kj8 t352 t351 t350 t368 t369 _ A31.out).mono ?_); rintro e w35 ⟨rfl, hb⟩; refine ⟨_, rfl, ?_⟩; have n0_ := Aside0.mk (below_step (by repeat (first | (with_reducible first | exact HB.out | apply below_alloc | apply pw_below_drewN | apply below_drew1) | exact HB.out)) hb); clear HB; have HB := n0_; clear n0_; (try clear hb); (try clear hb2); (try clear hk); (try clear hi)) | (go_at_call 17; (with_reducible refine (ddilaw01_awake.calls kj8  t370 _ A34.out).mono ?_); rintro e w36 ⟨rfl, hb⟩; have n0_ := Aside0.mk (below_step (by repeat (first | (with_reducible first | exact HB.out | apply below_alloc | apply pw_below_drewN | apply below_drew1) | exact HB.out)) hb); clear HB; have HB := n0_; clear n0_; (try clear hb); (try clear hb2); (try clear hk); (try clear hi)))
              go_ret
              exact ⟨by first | rfl | (simp [errW_none, errW_some] <;> rfl) | (simp [*, errW_none, errW_some] <;> rfl), by repeat (first | (with_reducible first | exact HB.out | apply below_alloc | apply pw_below_drewN | apply below_drew1) | exact HB.out)⟩
            · rw [if_neg c33] at H
              have c33b0 : (t368.toList == t349.toList) = false := beq_eq_false_iff_ne.mpr c33
              have c33b1 : (t368.toList != t349.toList) = true := bne_iff_ne.mpr c33
              obtain rfl := Option.some.inj H
              go_wp2_with (first | ((with_reducible refine gate_callee (f := 33) rfl ?_); refine goesL_ (some 56) rfl rfl Tryd.func33 (by kernel_rfl) rfl #[.string t352, .string t351, .string t350] rfl (by (try simp only [List.map_toArray, List.map_cons, List.map_nil]); first | done | rfl | (simp only [List.length_drop, List.length_take]; rfl)) ?_; (with_reducible refine (dname_Replace.calls kj8 t352 t351 t350 t368 t369 _ A31.out).mono ?_); rintro e w37 ⟨rfl, hb⟩; refine ⟨_, rfl, ?_⟩; have n0_ := Aside0.mk (below_step (by repeat (first | (with_reducible first | exact HB.out | apply below_alloc | apply pw_below_drewN | apply below_drew1) | exact HB.out)) hb); clear HB; have HB := n0_; clear n0_; (try clear hb); (try clear hb2); (try clear hk); (try clear hi)))
              go_ret
              exact ⟨by first | rfl | (simp [errW_none, errW_some] <;> rfl) | (simp [*, errW_none, errW_some] <;> rfl), by repeat (first | (with_reducible first | exact HB.out | apply below_alloc | apply pw_below_drewN | apply below_drew1) | exact HB.out)⟩
          · rw [if_neg c32] at H
            have c32b0 : (t369 == 0) = false := beq_eq_false_iff_ne.mpr c32
            have c32b1 : (t369 != 0) = true := bne_iff_ne.mpr c32
            obtain rfl := Option.some.inj H
            go_wp2_with (first | ((with_reducible refine gate_callee (f := 33) rfl ?_); refine goesL_ (some 56) rfl rfl Tryd.func33 (by kernel_rfl) rfl #[.string t352, .string t351, .string t350] rfl (by (try simp only [List.map_toArray, List.map_cons, List.map_nil]); first | done | rfl | (simp only [List.length_drop, List.length_take]; rfl)) ?_; (with_reducible refine (dname_Replace.calls kj8 t352 t351 t350 t368 t369 _ A31.out).mono ?_); rintro e w38 ⟨rfl, hb⟩; refine ⟨_, rfl, ?_⟩; have n0_ := Aside0.mk (below_step (by repeat (first | (with_reducible first | exact HB.out | apply below_alloc | apply pw_below_drewN | apply below_drew1) | exact HB.out)) hb); clear HB; have HB := n0_; clear n0_; (try clear hb); (try clear hb2); (try clear hk); (try clear hi)))
            go_ret
            exact ⟨by first | rfl | (simp [errW_none, errW_some] <;> rfl) | (simp [*, errW_none, errW_some] <;> rfl), by repeat (first | (with_reducible first | exact HB.out | apply below_alloc | apply pw_below_drewN | apply below_drew1) | exact HB.out)⟩
  · rw [if_neg c8] at H
    have c8b0 : (t353 == 0) = false := beq_eq_false_iff_ne.mpr c8
    have c8b1 : (t353 != 0) = true := bne_iff_ne.mpr c8
    by_cases c39 : t352.toList = ([] : List UInt8)
    · rw [if_pos c39] at H
      have c39b0 : (t352.toList == ([] : List UInt8)) = true := beq_iff_eq.mpr c39
      have c39b1 : (t352.toList != ([] : List UInt8)) = false := bne_eq_false_iff_eq.mpr c39
      clear c39
      replace H := Option.bind_eq_some_iff.mp H
      obtain ⟨t354, A400, H⟩ := H
      replace H : (some t354) = some r := H
      have A40 := Aside0.mk A400
      clear A400
      obtain rfl := Option.some.inj H
      go_enter Tryd.func9, Tryd.ntmps9
      go_wp2_with (first | ((with_reducible refine gate_callee (f := 12) rfl ?_); refine goesL_ (some 12) rfl rfl Tryd.func12 (by kernel_rfl) rfl #[.string a0] rfl (by (try simp only [List.map_toArray, List.map_cons, List.map_nil]); first | done | rfl | (simp only [List.length_drop, List.length_take]; rfl)) ?_; (with_reducible refine (ddilaw01_cut.calls a0 t349 _ A4.out).mono ?_); rintro e w41 ⟨rfl, hb⟩; refine ⟨_, rfl, ?_⟩; have n0_ := Aside0.mk (below_step (by repeat (first | (with_reducible first | exact HB.out | apply below_alloc | apply pw_below_drewN | apply below_drew1) | exact HB.out)) hb); clear HB; have HB := n0_; clear n0_; (try clear hb); (try clear hb2); (try clear hk); (try clear hi)) | ((with_reducible refine gate_callee (f := 12) rfl ?_); refine goesL_ (some 14) rfl rfl Tryd.func12 (by kernel_rfl) rfl #[.string a1] rfl (by (try simp only [List.map_toArray, List.map_cons, List.map_nil]); first | done | rfl | (simp only [List.length_drop, List.length_take]; rfl)) ?_; (with_reducible refine (ddilaw01_cut.calls a1 t350 _ A5.out).mono ?_); rintro e w42 ⟨rfl, hb⟩; refine ⟨_, rfl, ?_⟩; have n0_ := Aside0.mk (below_step (by repeat (first | (with_reducible first | exact HB.out | apply below_alloc | apply pw_below_drewN | apply below_drew1) | exact HB.out)) hb); clear HB; have HB := n0_; clear n0_; (try clear hb); (try clear hb2); (try clear hk); (try clear hi)) | ((with_reducible refine gate_callee (f := 12) rfl ?_); refine goesL_ (some 16) rfl rfl Tryd.func12 (by kernel_rfl) rfl #[.string a2] rfl (by (try simp only [List.map_toArray, List.map_cons, List.map_nil]); first | done | rfl | (simp only [List.length_drop, List.length_take]; rfl)) ?_; (with_reducible refine (ddilaw01_cut.calls a2 t351 _ A6.out).mono ?_); rintro e w43 ⟨rfl, hb⟩; refine ⟨_, rfl, ?_⟩; have n0_ := Aside0.mk (below_step (by repeat (first | (with_reducible first | exact HB.out | apply below_alloc | apply pw_below_drewN | apply below_drew1) | exact HB.out)) hb); clear HB; have HB := n0_; clear n0_; (try clear hb); (try clear hb2); (try clear hk); (try clear hi)) | ((with_reducible refine gate_callee (f := 33) rfl ?_); refine goesL_ (some 21) rfl rfl Tryd.func33 (by kernel_rfl) rfl #[.string t349, .string t350, .string t351] rfl (by (try simp only [List.map_toArray, List.map_cons, List.map_nil]); first | done | rfl | (simp only [List.length_drop, List.length_take]; rfl)) ?_; (with_reducible refine (dname_Replace.calls k t349 t350 t351 t352 t353 _ A7.out).mono ?_); rintro e w44 ⟨rfl, hb⟩; refine ⟨_, rfl, ?_⟩; have n0_ := Aside0.mk (below_step (by repeat (first | (with_reducible first | exact HB.out | apply below_alloc | apply pw_below_drewN | apply below_drew1) | exact HB.out)) hb); clear HB; have HB := n0_; clear n0_; (try clear hb); (try clear hb2); (try clear hk); (try clear hi)) | (go_at_call 17; (with_reducible refine (ddilaw01_awake.calls k  t354 _ A40.out).mono ?_); rintro e w45 ⟨rfl, hb⟩; have n0_ := Aside0.mk (below_step (by repeat (first | (with_reducible first | exact HB.out | apply below_alloc | apply pw_below_drewN | apply below_drew1) | exact HB.out)) hb); clear HB; have HB := n0_; clear n0_; (try clear hb); (try clear hb2); (try clear hk); (try clear hi)))
      go_ret
      exact ⟨by first | rfl | (simp [errW_none, errW_some] <;> rfl) | (simp [*, errW_none, errW_some] <;> rfl), by repeat (first | (with_reducible first | exact HB.out | apply below_alloc | apply pw_below_drewN | apply below_drew1) | exact HB.out)⟩
    · rw [if_neg c39] at H
      have c39b0 : (t352.toList == ([] : List UInt8)) = false := beq_eq_false_iff_ne.mpr c39
      have c39b1 : (t352.toList != ([] : List UInt8)) = true := bne_iff_ne.mpr c39
      obtain rfl := Option.some.inj H
      go_enter Tryd.func9, Tryd.ntmps9
      go_wp2_with (first | ((with_reducible refine gate_callee (f := 12) rfl ?_); refine goesL_ (some 12) rfl rfl Tryd.func12 (by kernel_rfl) rfl #[.string a0] rfl (by (try simp only [List.map_toArray, List.map_cons, List.map_nil]); first | done | rfl | (simp only [List.length_drop, List.length_take]; rfl)) ?_; (with_reducible refine (ddilaw01_cut.calls a0 t349 _ A4.out).mono ?_); rintro e w46 ⟨rfl, hb⟩; refine ⟨_, rfl, ?_⟩; have n0_ := Aside0.mk (below_step (by repeat (first | (with_reducible first | exact HB.out | apply below_alloc | apply pw_below_drewN | apply below_drew1) | exact HB.out)) hb); clear HB; have HB := n0_; clear n0_; (try clear hb); (try clear hb2); (try clear hk); (try clear hi)) | ((with_reducible refine gate_callee (f := 12) rfl ?_); refine goesL_ (some 14) rfl rfl Tryd.func12 (by kernel_rfl) rfl #[.string a1] rfl (by (try simp only [List.map_toArray, List.map_cons, List.map_nil]); first | done | rfl | (simp only [List.length_drop, List.length_take]; rfl)) ?_; (with_reducible refine (ddilaw01_cut.calls a1 t350 _ A5.out).mono ?_); rintro e w47 ⟨rfl, hb⟩; refine ⟨_, rfl, ?_⟩; have n0_ := Aside0.mk (below_step (by repeat (first | (with_reducible first | exact HB.out | apply below_alloc | apply pw_below_drewN | apply below_drew1) | exact HB.out)) hb); clear HB; have HB := n0_; clear n0_; (try clear hb); (try clear hb2); (try clear hk); (try clear hi)) | ((with_reducible refine gate_callee (f := 12) rfl ?_); refine goesL_ (some 16) rfl rfl Tryd.func12 (by kernel_rfl) rfl #[.string a2] rfl (by (try simp only [List.map_toArray, List.map_cons, List.map_nil]); first | done | rfl | (simp only [List.length_drop, List.length_take]; rfl)) ?_; (with_reducible refine (ddilaw01_cut.calls a2 t351 _ A6.out).mono ?_); rintro e w48 ⟨rfl, hb⟩; refine ⟨_, rfl, ?_⟩; have n0_ := Aside0.mk (below_step (by repeat (first | (with_reducible first | exact HB.out | apply below_alloc | apply pw_below_drewN | apply below_drew1) | exact HB.out)) hb); clear HB; have HB := n0_; clear n0_; (try clear hb); (try clear hb2); (try clear hk); (try clear hi)) | ((with_reducible refine gate_callee (f := 33) rfl ?_); refine goesL_ (some 21) rfl rfl Tryd.func33 (by kernel_rfl) rfl #[.string t349, .string t350, .string t351] rfl (by (try simp only [List.map_toArray, List.map_cons, List.map_nil]); first | done | rfl | (simp only [List.length_drop, List.length_take]; rfl)) ?_; (with_reducible refine (dname_Replace.calls k t349 t350 t351 t352 t353 _ A7.out).mono ?_); rintro e w49 ⟨rfl, hb⟩; refine ⟨_, rfl, ?_⟩; have n0_ := Aside0.mk (below_step (by repeat (first | (with_reducible first | exact HB.out | apply below_alloc | apply pw_below_drewN | apply below_drew1) | exact HB.out)) hb); clear HB; have HB := n0_; clear n0_; (try clear hb); (try clear hb2); (try clear hk); (try clear hi)))
      go_ret
      exact ⟨by first | rfl | (simp [errW_none, errW_some] <;> rfl) | (simp [*, errW_none, errW_some] <;> rfl), by repeat (first | (with_reducible first | exact HB.out | apply below_alloc | apply pw_below_drewN | apply below_drew1) | exact HB.out)⟩

end Go.Proofs.YtfcgconojomfpaaDoor.Pa
