/- Parts of the proof of this claim's statement (joined by a program of this session): Pax29, Pax30, Pax34. -/
import Derived.Test.YtcoekgnbncocnaaDoorDe1
import Derived.Test.YtcoekgnbncocnaaDoorDe4
import Derived.Test.YtcoekgnbncocnaaDoorDe2
namespace Go.Proofs.YtcoekgnbncocnaaDoor.Pa
open Go.RowKit Go.Proofs.YtcoekgnbncocnaaDoorW.PrintWords Go.Proofs.YtcoekgnbncocnaaDoorW.PrintLast Go.Proofs.YtcoekgnbncocnaaDoorW.PrintMore
attribute [local go_sem] max2_int min2_int max_two min_two max_three min_three max_four min_four   -- for this text's walks alone
set_option linter.unusedVariables false
set_option linter.unusedSimpArgs false

def option_Decode.l0 : Nat → ByteArray → List (S61) → Int → Option ((List (S61)) × Int)
 | 0, _, _, _ => none
 | k + 1, x0, x4, x5 => if x5 < (x0.size : Int) then (if 0 ≤ x5 then (if (wrap64 (bt x0 x5)) = 0 then (option_Decode.l0 k x0 x4 (wrap64 (x5 + 1))) else (if (wrap64 (bt x0 x5)) = 255 then (if 0 ≤ (wrap64 (x5 + 1)) then (if (wrap64 (x5 + 1)) ≤ (x0.size : Int) then ((strings_Trim.f (x0.extract ((wrap64 (x5 + 1)) : Int).toNat x0.size) (⟨#[0]⟩ : ByteArray)).bind fun t297 => (if t297.toList = ([] : List UInt8) then (some (x4, 0)) else (some (([] : List (S61)), 8)))) else (none)) else (none)) else (if (wrap64 (x5 + 1)) ≥ (x0.size : Int) then (some (([] : List (S61)), 6)) else (if 0 ≤ (wrap64 (x5 + 1)) then (if (wrap64 (x5 + 1)) < (x0.size : Int) then (if (wrap64 ((wrap64 (x5 + 2)) + (wrap64 (bt x0 (wrap64 (x5 + 1)))))) > (x0.size : Int) then (some (([] : List (S61)), 6)) else (if 0 ≤ (wrap64 (x5 + 2)) then (if (wrap64 (x5 + 2)) ≤ (wrap64 ((wrap64 (x5 + 2)) + (wrap64 (bt x0 (wrap64 (x5 + 1)))))) then (if (wrap64 ((wrap64 (x5 + 2)) + (wrap64 (bt x0 (wrap64 (x5 + 1)))))) ≤ (x0.size : Int) then ((option_add.f k x4 (wrap64 (bt x0 x5)) (x0.extract ((wrap64 (x5 + 2)) : Int).toNat ((wrap64 ((wrap64 (x5 + 2)) + (wrap64 (bt x0 (wrap64 (x5 + 1)))))) : Int).toNat)).bind fun t298 => ((option_over.f k t298).bind fun t301 => (if t301 = true then (some (([] : List (S61)), 9)) else (option_Decode.l0 k x0 t298 (wrap64 ((wrap64 (x5 + 2)) + (wrap64 (bt x0 (wrap64 (x5 + 1)))))))))) else (none)) else (none)) else (none))) else (none)) else (none))))) else (none)) else (some (([] : List (S61)), 7))
def option_Decode.f (k : Nat) (a0 : ByteArray) : Option ((List (S61)) × Int) := option_Decode.l0 k a0 ([] : List (S61)) 0
theorem option_Decode.mono_l : ∀ k, (∀ y0 y1 y2, LeO (option_Decode.l0 k y0 y1 y2) (option_Decode.l0 (k + 1) y0 y1 y2))
 | 0 => fun _ _ _ r h => by simp [option_Decode.l0] at h
 | k + 1 => by
  have ih0 := option_Decode.mono_l k
  ·intro y0 y1 y2
   unfold option_Decode.l0
   repeat' first
   | (with_reducible exact ih0 _ _ _)
   | (with_reducible exact option_add.mono _ _ _ _)
   | (with_reducible exact option_over.mono _ _)
   | (with_reducible exact LeO.refl _)
   | (with_reducible exact LeO.none _)
   | (with_reducible refine LeO.ite ?_ ?_)
   | (with_reducible refine LeO.bind ?_ (fun _ => ?_))
   | exact ih0 _ _ _
   | exact option_add.mono _ _ _ _
   | exact option_over.mono _ _
   | exact LeO.none _
   | refine LeO.ite ?_ ?_
   | refine LeO.bind ?_ (fun _ => ?_)
theorem option_Decode.mono : ∀ a0 k, LeO (option_Decode.f k a0) (option_Decode.f (k + 1) a0) := by
 intro a0 k
 have ih0 := option_Decode.mono_l k
 unfold option_Decode.f
 repeat' first
   | (with_reducible exact ih0 _ _ _)
   | (with_reducible exact option_add.mono _ _ _ _)
   | (with_reducible exact option_over.mono _ _)
   | (with_reducible exact LeO.refl _)
   | (with_reducible exact LeO.none _)
   | (with_reducible refine LeO.ite ?_ ?_)
   | (with_reducible refine LeO.bind ?_ (fun _ => ?_))
   | exact ih0 _ _ _
   | exact option_add.mono _ _ _ _
   | exact option_over.mono _ _
   | exact LeO.none _
   | refine LeO.ite ?_ ?_
   | refine LeO.bind ?_ (fun _ => ?_)
set_option maxHeartbeats 8000000 in
set_option maxRecDepth 100000 in
theorem option_Decode.calls (k : Nat) (a0 : ByteArray) (r1 : List (S61)) (r2 : Int) (w : World) (h : option_Decode.f k a0 = some (r1, r2)) :
  Calls Tryd.prog 51 #[.string a0] w fun e w' => ∃ v0_ : Value, e = .returned (.tuple #[v0_, .int .i64 r2]) ∧ Kd.R k61 61 w' w.heap.size (fun _ => True) v0_ r1 ∧ Below w.heap.size w w' := by
 have HB := Aside0.mk (Below.refl w.heap.size w)
 have H : (option_Decode.l0 k a0 ([] : List (S61)) 0) = some (r1, r2) := h
 clear h
 have H' := Aside0.mk H
 clear H
 go_enter Tryd.func51, Tryd.ntmps51
 go_wp2
 go_loopg [4, 5] k (fun kq v4 v5 w' => ∃ (x4_1 : List (S61)) (x5_1 : Int), v5 = .int .i64 x5_1 ∧ Aside0 (option_Decode.l0 kq a0 x4_1 x5_1 = some (r1, r2)) ∧ Aside0 (kq ≤ k) ∧ Aside0 (Kd.R k61 61 w' w.heap.size (fun _ => True) v4 x4_1) ∧ Aside0 (Below w.heap.size w w'))
 case atStart => exact ⟨(([] : List (S61))), (0), (by first | rfl | (simp; done) | (simp [*]; done)), H', ⟨Nat.le_refl _⟩, ⟨by first | exact Kd.R_nil _ _ _ _ _ | exact Kd.N_nil _ _ _ _ _ | exact Kd.V_nil _ _ _ _ _ | exact Kd.Q_nil _ _ _ _ _ | exact Kd.S_nil _ _ _ _ _⟩, ⟨hbx HB.out⟩⟩
 case round =>
  clear H'
  obtain ⟨x4_1, x5_1, rfl, HA, HK1, HO_4, HB⟩ := hrel
  cases gk with
  | zero => exact absurd HA.out (by simp [option_Decode.l0])
  | succ k1 =>
   have H := HA.out
   clear HA
   simp only [option_Decode.l0] at H
   by_cases c2 : x5_1 < (a0.size : Int)
   ·rw [if_pos c2] at H
    have c2b0 : decide (x5_1 < (a0.size : Int)) = true := decide_eq_true c2
    clear c2
    by_cases c3 : 0 ≤ x5_1
    ·rw [if_pos c3] at H
     have c3b0 : decide (0 ≤ x5_1) = true := decide_eq_true c3
     clear c3
     by_cases c5 : (wrap64 (bt a0 x5_1)) = 0
     ·rw [if_pos c5] at H
      have c5b0 : ((wrap64 (bt a0 x5_1)) == 0) = true := beq_iff_eq.mpr c5
      have c5b1 : ((wrap64 (bt a0 x5_1)) != 0) = false := bne_eq_false_iff_eq.mpr c5
      clear c5
      have H' := Aside0.mk H
      clear H
      have p4 : 0 ≤ (x5_1 : Int) := of_decide_eq_true (by first | (with_reducible assumption) | assumption)
      have q4 : x5_1 < (a0.size : Int) := of_decide_eq_true (by first | (with_reducible assumption) | assumption)
      have hx4 := bt_at a0 x5_1
      replace p4 := eq_true p4
      replace q4 := eq_true q4
      go_wp2
      go_roundg k1
      case measure => have := HK1.out; omega
      case rel => exact ⟨(x4_1), (wrap64 (x5_1 + 1)), (by first | rfl | (simp; done) | (simp [*]; done)), H', ⟨by have := HK1.out; omega⟩, ⟨by (with_reducible repeat (first | apply Kd.R_alloc | apply Kd.R_drewN | apply Kd.R_drew)); exact HO_4.out⟩, ⟨hbx HB.out⟩⟩
     ·rw [if_neg c5] at H
      have c5b0 : ((wrap64 (bt a0 x5_1)) == 0) = false := beq_eq_false_iff_ne.mpr c5
      have c5b1 : ((wrap64 (bt a0 x5_1)) != 0) = true := bne_iff_ne.mpr c5
      by_cases c6 : (wrap64 (bt a0 x5_1)) = 255
      ·rw [if_pos c6] at H
       have c6b0 : ((wrap64 (bt a0 x5_1)) == 255) = true := beq_iff_eq.mpr c6
       have c6b1 : ((wrap64 (bt a0 x5_1)) != 255) = false := bne_eq_false_iff_eq.mpr c6
       clear c6
       obtain ⟨ji7, hji7⟩ : ∃ j_ : Int, (wrap64 (x5_1 + 1)) = j_ := ⟨_, rfl⟩
       replace H : (if 0 ≤ (ji7) then (if (ji7) ≤ (a0.size : Int) then ((strings_Trim.f (a0.extract ((ji7) : Int).toNat a0.size) (⟨#[0]⟩ : ByteArray)).bind fun t297 => (if t297.toList = ([] : List UInt8) then (some (x4_1, 0)) else (some (([] : List (S61)), 8)))) else (none)) else (none)) = some (r1, r2) := by first | (rw [hji7] at H; exact H) | (simp only [hji7] at H ⊢; exact H)
       have hji7w : (IntKind.i64.wrap (x5_1 + 1)) = ji7 := (i64_w _).trans hji7
       by_cases c8 : 0 ≤ (ji7)
       ·rw [if_pos c8] at H
        have c8b0 := eq_true c8
        have c8b1 : decide (0 ≤ (ji7)) = true := decide_eq_true c8
        clear c8
        by_cases c9 : (ji7) ≤ (a0.size : Int)
        ·rw [if_pos c9] at H
         have c9b0 := eq_true c9
         have c9b1 : decide ((ji7) ≤ (a0.size : Int)) = true := decide_eq_true c9
         clear c9
         replace H := Option.bind_eq_some_iff.mp H
         obtain ⟨t297, A100, H⟩ := H
         (try dsimp only at H)
         have A10 := Aside0.mk A100
         clear A100
         by_cases c11 : t297.toList = ([] : List UInt8)
         ·rw [if_pos c11] at H
          have c11b0 : (t297.toList == ([] : List UInt8)) = true := beq_iff_eq.mpr c11
          have c11b1 : (t297.toList != ([] : List UInt8)) = false := bne_eq_false_iff_eq.mpr c11
          clear c11
          simp only [Option.some.injEq, Prod.mk.injEq] at H
          obtain ⟨rfl, rfl⟩ := H
          have p4 : 0 ≤ (x5_1 : Int) := of_decide_eq_true (by first | (with_reducible assumption) | assumption)
          have q4 : x5_1 < (a0.size : Int) := of_decide_eq_true (by first | (with_reducible assumption) | assumption)
          have hx4 := bt_at a0 x5_1
          replace p4 := eq_true p4
          replace q4 := eq_true q4
          go_wp2_with (first | ((with_reducible refine gate_callee (f := 74) rfl ?_); refine goesL_ (some 28) rfl rfl Tryd.func74 (by kernel_rfl) rfl #[.string (a0.extract ((ji7) : Int).toNat a0.size), .string (⟨#[0]⟩ : ByteArray)] rfl (by (try simp only [List.map_toArray, List.map_cons, List.map_nil]); first | done | (simp only [hji7]; rfl) | rfl | (simp only [List.length_drop, List.length_take]; rfl)) ?_; (with_reducible refine (strings_Trim.calls (a0.extract ((ji7) : Int).toNat a0.size) (⟨#[0]⟩ : ByteArray) t297 _ A10.out).mono ?_); rintro e w' ⟨rfl, ⟨nd, rfl⟩⟩; refine ⟨_, rfl, ?_⟩))
          go_ret2
          exact ⟨_, by first | rfl | (simp [errW_none, errW_some] <;> rfl) | (simp only [← hji7]; first | rfl | (simp [errW_none, errW_some] <;> rfl)) | (simp [*, errW_none, errW_some] <;> rfl), by (with_reducible repeat (first | apply Kd.R_alloc | apply Kd.R_drewN | apply Kd.R_drew)); exact HO_4.out, hbx HB.out⟩
         ·rw [if_neg c11] at H
          have c11b0 : (t297.toList == ([] : List UInt8)) = false := beq_eq_false_iff_ne.mpr c11
          have c11b1 : (t297.toList != ([] : List UInt8)) = true := bne_iff_ne.mpr c11
          simp only [Option.some.injEq, Prod.mk.injEq] at H
          obtain ⟨rfl, rfl⟩ := H
          have p4 : 0 ≤ (x5_1 : Int) := of_decide_eq_true (by first | (with_reducible assumption) | assumption)
          have q4 : x5_1 < (a0.size : Int) := of_decide_eq_true (by first | (with_reducible assumption) | assumption)
          have hx4 := bt_at a0 x5_1
          replace p4 := eq_true p4
          replace q4 := eq_true q4
          go_wp2_with (first | ((with_reducible refine gate_callee (f := 74) rfl ?_); refine goesL_ (some 28) rfl rfl Tryd.func74 (by kernel_rfl) rfl #[.string (a0.extract ((ji7) : Int).toNat a0.size), .string (⟨#[0]⟩ : ByteArray)] rfl (by (try simp only [List.map_toArray, List.map_cons, List.map_nil]); first | done | (simp only [hji7]; rfl) | rfl | (simp only [List.length_drop, List.length_take]; rfl)) ?_; (with_reducible refine (strings_Trim.calls (a0.extract ((ji7) : Int).toNat a0.size) (⟨#[0]⟩ : ByteArray) t297 _ A10.out).mono ?_); rintro e w' ⟨rfl, ⟨nd, rfl⟩⟩; refine ⟨_, rfl, ?_⟩))
          go_ret2
          exact ⟨_, by first | rfl | (simp [errW_none, errW_some] <;> rfl) | (simp only [← hji7]; first | rfl | (simp [errW_none, errW_some] <;> rfl)) | (simp [*, errW_none, errW_some] <;> rfl), by first | exact Kd.R_nil _ _ _ _ _ | exact Kd.N_nil _ _ _ _ _ | exact Kd.V_nil _ _ _ _ _ | exact Kd.Q_nil _ _ _ _ _ | exact Kd.S_nil _ _ _ _ _, hbx HB.out⟩
        ·rw [if_neg c9] at H
         exact absurd H (by simp)
       ·rw [if_neg c8] at H
        exact absurd H (by simp)
      ·rw [if_neg c6] at H
       have c6b0 : ((wrap64 (bt a0 x5_1)) == 255) = false := beq_eq_false_iff_ne.mpr c6
       have c6b1 : ((wrap64 (bt a0 x5_1)) != 255) = true := bne_iff_ne.mpr c6
       by_cases c12 : (wrap64 (x5_1 + 1)) ≥ (a0.size : Int)
       ·rw [if_pos c12] at H
        have c12b0 : decide ((a0.size : Int) ≤ (wrap64 (x5_1 + 1))) = true := decide_eq_true c12
        clear c12
        simp only [Option.some.injEq, Prod.mk.injEq] at H
        obtain ⟨rfl, rfl⟩ := H
        have p4 : 0 ≤ (x5_1 : Int) := of_decide_eq_true (by first | (with_reducible assumption) | assumption)
        have q4 : x5_1 < (a0.size : Int) := of_decide_eq_true (by first | (with_reducible assumption) | assumption)
        have hx4 := bt_at a0 x5_1
        replace p4 := eq_true p4
        replace q4 := eq_true q4
        go_wp2
        go_ret2
        exact ⟨_, by first | rfl | (simp [errW_none, errW_some] <;> rfl) | (simp [*, errW_none, errW_some] <;> rfl), by first | exact Kd.R_nil _ _ _ _ _ | exact Kd.N_nil _ _ _ _ _ | exact Kd.V_nil _ _ _ _ _ | exact Kd.Q_nil _ _ _ _ _ | exact Kd.S_nil _ _ _ _ _, hbx HB.out⟩
       ·rw [if_neg c12] at H
        have c12b0 : decide ((a0.size : Int) ≤ (wrap64 (x5_1 + 1))) = false := decide_eq_false c12
        clear c12
        obtain ⟨ji13, hji13⟩ : ∃ j_ : Int, (wrap64 (x5_1 + 1)) = j_ := ⟨_, rfl⟩
        replace H : (if 0 ≤ (ji13) then (if (ji13) < (a0.size : Int) then (if (wrap64 ((wrap64 (x5_1 + 2)) + (wrap64 (bt a0 (ji13))))) > (a0.size : Int) then (some (([] : List (S61)), 6)) else (if 0 ≤ (wrap64 (x5_1 + 2)) then (if (wrap64 (x5_1 + 2)) ≤ (wrap64 ((wrap64 (x5_1 + 2)) + (wrap64 (bt a0 (ji13))))) then (if (wrap64 ((wrap64 (x5_1 + 2)) + (wrap64 (bt a0 (ji13))))) ≤ (a0.size : Int) then ((option_add.f k1 x4_1 (wrap64 (bt a0 x5_1)) (a0.extract ((wrap64 (x5_1 + 2)) : Int).toNat ((wrap64 ((wrap64 (x5_1 + 2)) + (wrap64 (bt a0 (ji13))))) : Int).toNat)).bind fun t298 => ((option_over.f k1 t298).bind fun t301 => (if t301 = true then (some (([] : List (S61)), 9)) else (option_Decode.l0 k1 a0 t298 (wrap64 ((wrap64 (x5_1 + 2)) + (wrap64 (bt a0 (ji13))))))))) else (none)) else (none)) else (none))) else (none)) else (none)) = some (r1, r2) := by first | (rw [hji13] at H; exact H) | (simp only [hji13] at H ⊢; exact H)
        (try rw [hji13] at c12b0)
        have hji13w : (IntKind.i64.wrap (x5_1 + 1)) = ji13 := (i64_w _).trans hji13
        by_cases c14 : 0 ≤ (ji13)
        ·rw [if_pos c14] at H
         have c14b0 : decide (0 ≤ (ji13)) = true := decide_eq_true c14
         clear c14
         by_cases c15 : (ji13) < (a0.size : Int)
         ·rw [if_pos c15] at H
          have c15b0 : decide ((ji13) < (a0.size : Int)) = true := decide_eq_true c15
          clear c15
          by_cases c17 : (wrap64 ((wrap64 (x5_1 + 2)) + (wrap64 (bt a0 (ji13))))) > (a0.size : Int)
          ·rw [if_pos c17] at H
           have c17b0 : decide ((a0.size : Int) < (wrap64 ((wrap64 (x5_1 + 2)) + (wrap64 (bt a0 (ji13)))))) = true := decide_eq_true c17
           clear c17
           simp only [Option.some.injEq, Prod.mk.injEq] at H
           obtain ⟨rfl, rfl⟩ := H
           have p4 : 0 ≤ (x5_1 : Int) := of_decide_eq_true (by first | (with_reducible assumption) | assumption)
           have q4 : x5_1 < (a0.size : Int) := of_decide_eq_true (by first | (with_reducible assumption) | assumption)
           have hx4 := bt_at a0 x5_1
           replace p4 := eq_true p4
           replace q4 := eq_true q4
           have p16 : 0 ≤ ((ji13) : Int) := of_decide_eq_true (by first | (with_reducible assumption) | assumption)
           have q16 : (ji13) < (a0.size : Int) := of_decide_eq_true (by first | (with_reducible assumption) | assumption)
           have hx16 := bt_at a0 (ji13)
           replace p16 := eq_true p16
           replace q16 := eq_true q16
           go_wp2
           go_ret2
           exact ⟨_, by first | rfl | (simp [errW_none, errW_some] <;> rfl) | (simp only [← hji13]; first | rfl | (simp [errW_none, errW_some] <;> rfl)) | (simp [*, errW_none, errW_some] <;> rfl), by first | exact Kd.R_nil _ _ _ _ _ | exact Kd.N_nil _ _ _ _ _ | exact Kd.V_nil _ _ _ _ _ | exact Kd.Q_nil _ _ _ _ _ | exact Kd.S_nil _ _ _ _ _, hbx HB.out⟩
          ·rw [if_neg c17] at H
           have c17b0 : decide ((a0.size : Int) < (wrap64 ((wrap64 (x5_1 + 2)) + (wrap64 (bt a0 (ji13)))))) = false := decide_eq_false c17
           clear c17
           obtain ⟨ji19, hji19⟩ : ∃ j_ : Int, (wrap64 (x5_1 + 2)) = j_ := ⟨_, rfl⟩
           replace H : (if 0 ≤ (ji19) then (if (ji19) ≤ (wrap64 ((ji19) + (wrap64 (bt a0 (ji13))))) then (if (wrap64 ((ji19) + (wrap64 (bt a0 (ji13))))) ≤ (a0.size : Int) then ((option_add.f k1 x4_1 (wrap64 (bt a0 x5_1)) (a0.extract ((ji19) : Int).toNat ((wrap64 ((ji19) + (wrap64 (bt a0 (ji13))))) : Int).toNat)).bind fun t298 => ((option_over.f k1 t298).bind fun t301 => (if t301 = true then (some (([] : List (S61)), 9)) else (option_Decode.l0 k1 a0 t298 (wrap64 ((ji19) + (wrap64 (bt a0 (ji13))))))))) else (none)) else (none)) else (none)) = some (r1, r2) := by first | (rw [hji19] at H; exact H) | (simp only [hji19] at H ⊢; exact H)
           (try rw [hji19] at c17b0)
           have hji19w : (IntKind.i64.wrap (x5_1 + 2)) = ji19 := (i64_w _).trans hji19
           by_cases c20 : 0 ≤ (ji19)
           ·rw [if_pos c20] at H
            have c20b0 := eq_true c20
            have c20b1 : decide (0 ≤ (ji19)) = true := decide_eq_true c20
            clear c20
            by_cases c21 : (ji19) ≤ (wrap64 ((ji19) + (wrap64 (bt a0 (ji13)))))
            ·rw [if_pos c21] at H
             have c21b0 := eq_true c21
             have c21b1 : decide ((ji19) ≤ (wrap64 ((ji19) + (wrap64 (bt a0 (ji13)))))) = true := decide_eq_true c21
             by_cases c22 : (wrap64 ((ji19) + (wrap64 (bt a0 (ji13))))) ≤ (a0.size : Int)
             ·rw [if_pos c22] at H
              have c22b0 := eq_true c22
              have c22b1 : decide ((wrap64 ((ji19) + (wrap64 (bt a0 (ji13))))) ≤ (a0.size : Int)) = true := decide_eq_true c22
              replace H := Option.bind_eq_some_iff.mp H
              obtain ⟨t298, A230, H⟩ := H
              (try dsimp only at H)
              have A23 := Aside0.mk A230
              clear A230
              replace H := Option.bind_eq_some_iff.mp H
              obtain ⟨t301, A240, H⟩ := H
              (try dsimp only at H)
              have A24 := Aside0.mk A240
              clear A240
              by_cases c25 : t301 = true
              ·subst c25
               rw [if_pos rfl] at H
               simp only [Option.some.injEq, Prod.mk.injEq] at H
               obtain ⟨rfl, rfl⟩ := H
               have p4 : 0 ≤ (x5_1 : Int) := of_decide_eq_true (by first | (with_reducible assumption) | assumption)
               have q4 : x5_1 < (a0.size : Int) := of_decide_eq_true (by first | (with_reducible assumption) | assumption)
               have hx4 := bt_at a0 x5_1
               replace p4 := eq_true p4
               replace q4 := eq_true q4
               have p16 : 0 ≤ ((ji13) : Int) := of_decide_eq_true (by first | (with_reducible assumption) | assumption)
               have q16 : (ji13) < (a0.size : Int) := of_decide_eq_true (by first | (with_reducible assumption) | assumption)
               have hx16 := bt_at a0 (ji13)
               replace p16 := eq_true p16
               replace q16 := eq_true q16
               have p18 : 0 ≤ ((ji13) : Int) := of_decide_eq_true (by first | (with_reducible assumption) | assumption)
               have q18 : (ji13) < (a0.size : Int) := of_decide_eq_true (by first | (with_reducible assumption) | assumption)
               have hx18 := bt_at a0 (ji13)
               replace p18 := eq_true p18
               replace q18 := eq_true q18
               obtain ⟨Ao26, co26, eo26⟩ := Kd.R_slice HO_4.out
               subst eo26
               go_wp2_with (first | ((with_reducible refine gate_callee (f := 75) rfl ?_); refine goesL_ (some 65) rfl rfl Tryd.func75 (by kernel_rfl) rfl #[.slice Ao26 x4_1.length co26, .int .i64 (wrap64 (bt a0 x5_1)), .string (a0.extract ((ji19) : Int).toNat ((wrap64 ((ji19) + (wrap64 (bt a0 (ji13))))) : Int).toNat)] rfl (by (try simp only [List.map_toArray, List.map_cons, List.map_nil]); first | done | (simp only [hji13, hji19]; rfl) | rfl | (simp only [List.length_drop, List.length_take]; rfl)) ?_; (with_reducible refine (option_add.calls k1 (fun k_ => some k_ = (.slice Ao26 x4_1.length co26 : Value).ownBlock) (.slice Ao26 x4_1.length co26) x4_1 (wrap64 (bt a0 x5_1)) (a0.extract ((ji19) : Int).toNat ((wrap64 ((ji19) + (wrap64 (bt a0 (ji13))))) : Int).toNat) t298 w _ ?side1 ?side2 A23.out).mono ?_); (case side1 => repeat (first | (with_reducible first | exact HB.out | apply below_alloc | apply pw_below_drewN | apply below_drew1) | exact HB.out)); (case side2 => exact Kd.R_tight rfl HO_4.out); rintro e w27 ⟨v299, rfl, ho0, hb, hkp⟩; refine ⟨_, rfl, ?_⟩; have n0_ := Aside0.mk (Kd.R_mono (ok' := fun k_ => True) ho0 (fun k_ hk_ => trivial)); have n1_ := Aside0.mk (hb); clear HB; clear HO_4; have HO300 := n0_; have HB := n1_; clear n0_ n1_; (try clear hb); (try clear hkp); (try clear ho0); obtain ⟨Ao28, co28, eo28⟩ := Kd.R_slice HO300.out; subst eo28) | ((with_reducible refine gate_callee (f := 76) rfl ?_); refine goesL_ (some 67) rfl rfl Tryd.func76 (by kernel_rfl) rfl #[.slice Ao28 t298.length co28] rfl (by (try simp only [List.map_toArray, List.map_cons, List.map_nil]); first | done | rfl | (simp only [List.length_drop, List.length_take]; rfl)) ?_; (with_reducible refine (option_over.calls k1 _ _ t298 true _ ?side1 ?side2 A24.out).mono ?_); (case side1 => repeat (first | exact (Kd.R_reads' HO300.out).2.2 | (with_reducible refine Kd.C_alloc ?_ _) | (with_reducible refine Kd.C_drewN ?_ _) | (with_reducible refine Kd.C_drew ?_))); (case side2 => exact (Kd.R_reads' HO300.out).2.1); rintro e w29 ⟨rfl, hb⟩; refine ⟨_, rfl, ?_⟩; have n0_ := Aside0.mk (Kd.R_below (by (with_reducible repeat (first | apply Kd.R_alloc | apply Kd.R_drewN | apply Kd.R_drew)); exact HO300.out) hb); have n1_ := Aside0.mk (below_step (hbx HB.out) hb); clear HO300; clear HB; have HO300 := n0_; have HB := n1_; clear n0_ n1_; (try clear hb); (try clear hb2); (try clear hk); (try clear hi)))
               go_ret2
               exact ⟨_, by first | rfl | (simp [errW_none, errW_some] <;> rfl) | (simp only [← hji13, ← hji19]; first | rfl | (simp [errW_none, errW_some] <;> rfl)) | (simp [*, errW_none, errW_some] <;> rfl), by first | exact Kd.R_nil _ _ _ _ _ | exact Kd.N_nil _ _ _ _ _ | exact Kd.V_nil _ _ _ _ _ | exact Kd.Q_nil _ _ _ _ _ | exact Kd.S_nil _ _ _ _ _, hbx HB.out⟩
              ·replace c25 := Bool.eq_false_iff.mpr c25
               subst c25
               rw [if_neg (show ¬ (false = true) by decide)] at H
               have H' := Aside0.mk H
               clear H
               have p4 : 0 ≤ (x5_1 : Int) := of_decide_eq_true (by first | (with_reducible assumption) | assumption)
               have q4 : x5_1 < (a0.size : Int) := of_decide_eq_true (by first | (with_reducible assumption) | assumption)
               have hx4 := bt_at a0 x5_1
               replace p4 := eq_true p4
               replace q4 := eq_true q4
               have p16 : 0 ≤ ((ji13) : Int) := of_decide_eq_true (by first | (with_reducible assumption) | assumption)
               have q16 : (ji13) < (a0.size : Int) := of_decide_eq_true (by first | (with_reducible assumption) | assumption)
               have hx16 := bt_at a0 (ji13)
               replace p16 := eq_true p16
               replace q16 := eq_true q16
               have p18 : 0 ≤ ((ji13) : Int) := of_decide_eq_true (by first | (with_reducible assumption) | assumption)
               have q18 : (ji13) < (a0.size : Int) := of_decide_eq_true (by first | (with_reducible assumption) | assumption)
               have hx18 := bt_at a0 (ji13)
               replace p18 := eq_true p18
               replace q18 := eq_true q18
               obtain ⟨Ao30, co30, eo30⟩ := Kd.R_slice HO_4.out
               subst eo30
               go_wp2_with (first | ((with_reducible refine gate_callee (f := 75) rfl ?_); refine goesL_ (some 65) rfl rfl Tryd.func75 (by kernel_rfl) rfl #[.slice Ao30 x4_1.length co30, .int .i64 (wrap64 (bt a0 x5_1)), .string (a0.extract ((ji19) : Int).toNat ((wrap64 ((ji19) + (wrap64 (bt a0 (ji13))))) : Int).toNat)] rfl (by (try simp only [List.map_toArray, List.map_cons, List.map_nil]); first | done | (simp only [hji13, hji19]; rfl) | rfl | (simp only [List.length_drop, List.length_take]; rfl)) ?_; (with_reducible refine (option_add.calls k1 (fun k_ => some k_ = (.slice Ao30 x4_1.length co30 : Value).ownBlock) (.slice Ao30 x4_1.length co30) x4_1 (wrap64 (bt a0 x5_1)) (a0.extract ((ji19) : Int).toNat ((wrap64 ((ji19) + (wrap64 (bt a0 (ji13))))) : Int).toNat) t298 w _ ?side1 ?side2 A23.out).mono ?_); (case side1 => repeat (first | (with_reducible first | exact HB.out | apply below_alloc | apply pw_below_drewN | apply below_drew1) | exact HB.out)); (case side2 => exact Kd.R_tight rfl HO_4.out); rintro e w31 ⟨v299, rfl, ho0, hb, hkp⟩; refine ⟨_, rfl, ?_⟩; have n0_ := Aside0.mk (Kd.R_mono (ok' := fun k_ => True) ho0 (fun k_ hk_ => trivial)); have n1_ := Aside0.mk (hb); clear HB; clear HO_4; have HO300 := n0_; have HB := n1_; clear n0_ n1_; (try clear hb); (try clear hkp); (try clear ho0); obtain ⟨Ao32, co32, eo32⟩ := Kd.R_slice HO300.out; subst eo32) | ((with_reducible refine gate_callee (f := 76) rfl ?_); refine goesL_ (some 67) rfl rfl Tryd.func76 (by kernel_rfl) rfl #[.slice Ao32 t298.length co32] rfl (by (try simp only [List.map_toArray, List.map_cons, List.map_nil]); first | done | rfl | (simp only [List.length_drop, List.length_take]; rfl)) ?_; (with_reducible refine (option_over.calls k1 _ _ t298 false _ ?side1 ?side2 A24.out).mono ?_); (case side1 => repeat (first | exact (Kd.R_reads' HO300.out).2.2 | (with_reducible refine Kd.C_alloc ?_ _) | (with_reducible refine Kd.C_drewN ?_ _) | (with_reducible refine Kd.C_drew ?_))); (case side2 => exact (Kd.R_reads' HO300.out).2.1); rintro e w33 ⟨rfl, hb⟩; refine ⟨_, rfl, ?_⟩; have n0_ := Aside0.mk (Kd.R_below (by (with_reducible repeat (first | apply Kd.R_alloc | apply Kd.R_drewN | apply Kd.R_drew)); exact HO300.out) hb); have n1_ := Aside0.mk (below_step (hbx HB.out) hb); clear HO300; clear HB; have HO300 := n0_; have HB := n1_; clear n0_ n1_; (try clear hb); (try clear hb2); (try clear hk); (try clear hi)))
               go_roundg k1
               case measure => have := HK1.out; omega
               case rel => exact ⟨(t298), (wrap64 ((ji19) + (wrap64 (bt a0 (ji13))))), (by first | rfl | (simp; done) | (simp only [← hji13, ← hji19] <;> (first | rfl | simp)) | (simp [*]; done)), H', ⟨by have := HK1.out; omega⟩, ⟨by (with_reducible repeat (first | apply Kd.R_alloc | apply Kd.R_drewN | apply Kd.R_drew)); exact HO300.out⟩, ⟨hbx HB.out⟩⟩
             ·rw [if_neg c22] at H
              exact absurd H (by simp)
            ·rw [if_neg c21] at H
             exact absurd H (by simp)
           ·rw [if_neg c20] at H
            exact absurd H (by simp)
         ·rw [if_neg c15] at H
          exact absurd H (by simp)
        ·rw [if_neg c14] at H
         exact absurd H (by simp)
    ·rw [if_neg c3] at H
     exact absurd H (by simp)
   ·rw [if_neg c2] at H
    have c2b0 : decide (x5_1 < (a0.size : Int)) = false := decide_eq_false c2
    clear c2
    simp only [Option.some.injEq, Prod.mk.injEq] at H
    obtain ⟨rfl, rfl⟩ := H
    go_wp2
    go_ret2
    exact ⟨_, by first | rfl | (simp [errW_none, errW_some] <;> rfl) | (simp [*, errW_none, errW_some] <;> rfl), by first | exact Kd.R_nil _ _ _ _ _ | exact Kd.N_nil _ _ _ _ _ | exact Kd.V_nil _ _ _ _ _ | exact Kd.Q_nil _ _ _ _ _ | exact Kd.S_nil _ _ _ _ _, hbx HB.out⟩

end Go.Proofs.YtcoekgnbncocnaaDoor.Pa


namespace Go.Proofs.YtcoekgnbncocnaaDoor.Pa
open Go.RowKit Go.Proofs.YtcoekgnbncocnaaDoorW.PrintWords Go.Proofs.YtcoekgnbncocnaaDoorW.PrintLast Go.Proofs.YtcoekgnbncocnaaDoorW.PrintMore
attribute [local go_sem] max2_int min2_int max_two min_two max_three min_three max_four min_four   -- for this text's walks alone
set_option linter.unusedVariables false
set_option linter.unusedSimpArgs false

attribute [local go_sem high] eqA24
mutual
def dhcp_Decode.j0 : Nat → ByteArray → Bool → Option (Int × Int × Int × ByteArray × Bool × Int × Int × Bool × Int × Int × Bool × Int × Int × Bool × (List (S61)) × Int)
 | 0, _, _ => none
 | k + 1, x0, x19 => if x19 = true then (some (0, 0, 0, (⟨#[]⟩ : ByteArray), false, 0, 0, false, 0, 0, false, 0, 0, false, ([] : List (S61)), 6)) else (if 1 < (x0.size : Int) then (if 2 ≤ 6 then (if 6 ≤ (x0.size : Int) then ((dhcp_number.f k (x0.extract 2 6)).bind fun t303 => (if 6 ≤ 8 then (if 8 ≤ (x0.size : Int) then ((dhcp_number.f k (x0.extract 6 8)).bind fun t304 => (if 20 < (x0.size : Int) then (if 21 < (x0.size : Int) then (if 22 ≤ (wrap64 (22 + (wrap64 (bt x0 21)))) then (if (wrap64 (22 + (wrap64 (bt x0 21)))) ≤ (x0.size : Int) then (if 8 ≤ 12 then (if 12 ≤ (x0.size : Int) then ((addr_Read.f k (x0.extract 8 12)).bind fun bt306 => (if 12 ≤ 16 then (if 16 ≤ (x0.size : Int) then ((addr_Read.f k (x0.extract 12 16)).bind fun bt310 => (if 16 ≤ 20 then (if 20 ≤ (x0.size : Int) then ((addr_Read.f k (x0.extract 16 20)).bind fun bt314 => ((dhcp_operation.f k (wrap64 (bt x0 1))).bind fun t318 => (if t318 = 0 then (dhcp_Decode.j1 k x0 true (wrap64 (bt x0 1)) t303 t304 (x0.extract 22 ((wrap64 (22 + (wrap64 (bt x0 21)))) : Int).toNat) bt306.1 bt306.2.1 bt306.2.2.1 bt310.1 bt310.2.1 bt310.2.2.1 bt314.1 bt314.2.1 bt314.2.2.1 ((bt x0 20) == 1)) else (if 0 < (x0.size : Int) then (if (bt x0 0) = t318 then (if (bt x0 20) > 1 then (dhcp_Decode.j1 k x0 true (wrap64 (bt x0 1)) t303 t304 (x0.extract 22 ((wrap64 (22 + (wrap64 (bt x0 21)))) : Int).toNat) bt306.1 bt306.2.1 bt306.2.2.1 bt310.1 bt310.2.1 bt310.2.2.1 bt314.1 bt314.2.1 bt314.2.2.1 ((bt x0 20) == 1)) else (if ((bt x0 20) = 1) then ((dhcp_client.f k (x0.extract 22 ((wrap64 (22 + (wrap64 (bt x0 21)))) : Int).toNat)).bind fun t319 => (dhcp_Decode.j1 k x0 (!t319) (wrap64 (bt x0 1)) t303 t304 (x0.extract 22 ((wrap64 (22 + (wrap64 (bt x0 21)))) : Int).toNat) bt306.1 bt306.2.1 bt306.2.2.1 bt310.1 bt310.2.1 bt310.2.2.1 bt314.1 bt314.2.1 bt314.2.2.1 ((bt x0 20) == 1))) else (if (bt314.1 || (!(bt314.2.1 == 0) || (!(bt314.2.2.1 == 0)))) = true then (dhcp_Decode.j1 k x0 true (wrap64 (bt x0 1)) t303 t304 (x0.extract 22 ((wrap64 (22 + (wrap64 (bt x0 21)))) : Int).toNat) bt306.1 bt306.2.1 bt306.2.2.1 bt310.1 bt310.2.1 bt310.2.2.1 bt314.1 bt314.2.1 bt314.2.2.1 ((bt x0 20) == 1)) else ((dhcp_client.f k (x0.extract 22 ((wrap64 (22 + (wrap64 (bt x0 21)))) : Int).toNat)).bind fun t320 => (dhcp_Decode.j1 k x0 (!t320) (wrap64 (bt x0 1)) t303 t304 (x0.extract 22 ((wrap64 (22 + (wrap64 (bt x0 21)))) : Int).toNat) bt306.1 bt306.2.1 bt306.2.2.1 bt310.1 bt310.2.1 bt310.2.2.1 bt314.1 bt314.2.1 bt314.2.2.1 ((bt x0 20) == 1)))))) else (dhcp_Decode.j1 k x0 true (wrap64 (bt x0 1)) t303 t304 (x0.extract 22 ((wrap64 (22 + (wrap64 (bt x0 21)))) : Int).toNat) bt306.1 bt306.2.1 bt306.2.2.1 bt310.1 bt310.2.1 bt310.2.2.1 bt314.1 bt314.2.1 bt314.2.2.1 ((bt x0 20) == 1))) else (none))))) else (none)) else (none))) else (none)) else (none))) else (none)) else (none)) else (none)) else (none)) else (none)) else (none))) else (none)) else (none))) else (none)) else (none)) else (none))
def dhcp_Decode.j1 : Nat → ByteArray → Bool → Int → Int → Int → ByteArray → Bool → Int → Int → Bool → Int → Int → Bool → Int → Int → Bool → Option (Int × Int × Int × ByteArray × Bool × Int × Int × Bool × Int × Int × Bool × Int × Int × Bool × (List (S61)) × Int)
 | 0, _, _, _, _, _, _, _, _, _, _, _, _, _, _, _, _ => none
 | k + 1, x0, x93, x306000, x306001, x306002, x306003, x306004, x306005, x306006, x306007, x306008, x306009, x306010, x306011, x306012, x306013 => if x93 = true then (some (0, 0, 0, (⟨#[]⟩ : ByteArray), false, 0, 0, false, 0, 0, false, 0, 0, false, ([] : List (S61)), 7)) else (if 0 ≤ (wrap64 (22 + (x306003.size : Int))) then (if (wrap64 (22 + (x306003.size : Int))) ≤ (x0.size : Int) then ((option_Decode.f k (x0.extract ((wrap64 (22 + (x306003.size : Int))) : Int).toNat x0.size)).bind fun bt321 => (if bt321.2 = 0 then ((option_Valid.f k bt321.1).bind fun t325 => (if t325 = true then (some (x306000, x306001, x306002, x306003, x306004, x306005, x306006, x306007, x306008, x306009, x306010, x306011, x306012, x306013, bt321.1, 0)) else (some (0, 0, 0, (⟨#[]⟩ : ByteArray), false, 0, 0, false, 0, 0, false, 0, 0, false, ([] : List (S61)), 7)))) else (some (0, 0, 0, (⟨#[]⟩ : ByteArray), false, 0, 0, false, 0, 0, false, 0, 0, false, ([] : List (S61)), bt321.2)))) else (none)) else (none))
end
def dhcp_Decode.f (k : Nat) (a0 : ByteArray) : Option (Int × Int × Int × ByteArray × Bool × Int × Int × Bool × Int × Int × Bool × Int × Int × Bool × (List (S61)) × Int) := if (a0.size : Int) < 22 then (dhcp_Decode.j0 k a0 true) else (if 21 < (a0.size : Int) then (dhcp_Decode.j0 k a0 (decide ((a0.size : Int) < (wrap64 (22 + (wrap64 (bt a0 21))))))) else (none))
theorem dhcp_Decode.mono_l : ∀ k, (∀ y0 y1, LeO (dhcp_Decode.j0 k y0 y1) (dhcp_Decode.j0 (k + 1) y0 y1)) ∧ (∀ y0 y1 y2 y3 y4 y5 y6 y7 y8 y9 y10 y11 y12 y13 y14 y15, LeO (dhcp_Decode.j1 k y0 y1 y2 y3 y4 y5 y6 y7 y8 y9 y10 y11 y12 y13 y14 y15) (dhcp_Decode.j1 (k + 1) y0 y1 y2 y3 y4 y5 y6 y7 y8 y9 y10 y11 y12 y13 y14 y15))
 | 0 => ⟨fun _ _ r h => by simp [dhcp_Decode.j0] at h, fun _ _ _ _ _ _ _ _ _ _ _ _ _ _ _ _ r h => by simp [dhcp_Decode.j1] at h⟩
 | k + 1 => by
  obtain ⟨ih0, ih1⟩ := dhcp_Decode.mono_l k
  refine ⟨?_, ?_⟩
  ·intro y0 y1
   unfold dhcp_Decode.j0
   repeat' first
   | (with_reducible exact ih0 _ _)
   | (with_reducible exact ih1 _ _ _ _ _ _ _ _ _ _ _ _ _ _ _ _)
   | (with_reducible exact addr_Read.mono _ _)
   | (with_reducible exact dhcp_client.mono _ _)
   | (with_reducible exact dhcp_number.mono _ _)
   | (with_reducible exact dhcp_operation.mono _ _)
   | (with_reducible exact option_Decode.mono _ _)
   | (with_reducible exact option_Valid.mono _ _)
   | (with_reducible exact LeO.refl _)
   | (with_reducible exact LeO.none _)
   | (with_reducible refine LeO.ite ?_ ?_)
   | (with_reducible refine LeO.bind ?_ (fun _ => ?_))
   | exact ih0 _ _
   | exact ih1 _ _ _ _ _ _ _ _ _ _ _ _ _ _ _ _
   | exact addr_Read.mono _ _
   | exact dhcp_client.mono _ _
   | exact dhcp_number.mono _ _
   | exact dhcp_operation.mono _ _
   | exact option_Decode.mono _ _
   | exact option_Valid.mono _ _
   | exact LeO.none _
   | refine LeO.ite ?_ ?_
   | refine LeO.bind ?_ (fun _ => ?_)
  ·intro y0 y1 y2 y3 y4 y5 y6 y7 y8 y9 y10 y11 y12 y13 y14 y15
   unfold dhcp_Decode.j1
   repeat' first
   | (with_reducible exact ih0 _ _)
   | (with_reducible exact ih1 _ _ _ _ _ _ _ _ _ _ _ _ _ _ _ _)
   | (with_reducible exact addr_Read.mono _ _)
   | (with_reducible exact dhcp_client.mono _ _)
   | (with_reducible exact dhcp_number.mono _ _)
   | (with_reducible exact dhcp_operation.mono _ _)
   | (with_reducible exact option_Decode.mono _ _)
   | (with_reducible exact option_Valid.mono _ _)
   | (with_reducible exact LeO.refl _)
   | (with_reducible exact LeO.none _)
   | (with_reducible refine LeO.ite ?_ ?_)
   | (with_reducible refine LeO.bind ?_ (fun _ => ?_))
   | exact ih0 _ _
   | exact ih1 _ _ _ _ _ _ _ _ _ _ _ _ _ _ _ _
   | exact addr_Read.mono _ _
   | exact dhcp_client.mono _ _
   | exact dhcp_number.mono _ _
   | exact dhcp_operation.mono _ _
   | exact option_Decode.mono _ _
   | exact option_Valid.mono _ _
   | exact LeO.none _
   | refine LeO.ite ?_ ?_
   | refine LeO.bind ?_ (fun _ => ?_)
theorem dhcp_Decode.mono : ∀ a0 k, LeO (dhcp_Decode.f k a0) (dhcp_Decode.f (k + 1) a0) := by
 intro a0 k
 obtain ⟨ih0, ih1⟩ := dhcp_Decode.mono_l k
 unfold dhcp_Decode.f
 repeat' first
   | (with_reducible exact ih0 _ _)
   | (with_reducible exact ih1 _ _ _ _ _ _ _ _ _ _ _ _ _ _ _ _)
   | (with_reducible exact addr_Read.mono _ _)
   | (with_reducible exact dhcp_client.mono _ _)
   | (with_reducible exact dhcp_number.mono _ _)
   | (with_reducible exact dhcp_operation.mono _ _)
   | (with_reducible exact option_Decode.mono _ _)
   | (with_reducible exact option_Valid.mono _ _)
   | (with_reducible exact LeO.refl _)
   | (with_reducible exact LeO.none _)
   | (with_reducible refine LeO.ite ?_ ?_)
   | (with_reducible refine LeO.bind ?_ (fun _ => ?_))
   | exact ih0 _ _
   | exact ih1 _ _ _ _ _ _ _ _ _ _ _ _ _ _ _ _
   | exact addr_Read.mono _ _
   | exact dhcp_client.mono _ _
   | exact dhcp_number.mono _ _
   | exact dhcp_operation.mono _ _
   | exact option_Decode.mono _ _
   | exact option_Valid.mono _ _
   | exact LeO.none _
   | refine LeO.ite ?_ ?_
   | refine LeO.bind ?_ (fun _ => ?_)
def dhcp_Decode.T3 : Bool × List (List Nat × List Nat) := (true, [([], []), ([0], [0]), ([1], [1]), ([], []), ([3], [3]), ([4], [4]), ([], []), ([6], [6]), ([7, 5], [7]), ([], []), ([9], [9]), ([10], [10]), ([], []), ([], []), ([13], [13]), ([14], [14]), ([15], [15]), ([12, 16], [12, 16]), ([2, 5, 8, 11, 17], [2, 5, 8, 11, 17]), ([], []), ([19, 18, 8, 0, 1, 2, 3, 4, 5, 6, 7, 8, 9, 10, 11, 12, 13, 14, 15, 16, 17, 18, 19], [18, 19])])
def dhcp_Decode.B3 : List Nat := [0, 1, 3, 0, 8, 24, 0, 64, 248, 0, 512, 1536, 0, 0, 8192, 24576, 57344, 126976, 262143, 0, 1048575]
theorem dhcp_Decode.tab3 : rtab .any (opsOf Tryd.f24 3) = dhcp_Decode.T3 := by kernel_rfl
theorem dhcp_Decode.bits3 : waitsOk dhcp_Decode.T3.2 dhcp_Decode.B3 = true := by kernel_rfl
set_option maxHeartbeats 8000000 in
set_option maxRecDepth 100000 in
theorem dhcp_Decode.calls (k : Nat) (a0 : ByteArray) (r1 : Int) (r2 : Int) (r3 : Int) (r4 : ByteArray) (r5 : Bool) (r6 : Int) (r7 : Int) (r8 : Bool) (r9 : Int) (r10 : Int) (r11 : Bool) (r12 : Int) (r13 : Int) (r14 : Bool) (r15 : List (S61)) (r16 : Int) (w : World) (h : dhcp_Decode.f k a0 = some (r1, r2, r3, r4, r5, r6, r7, r8, r9, r10, r11, r12, r13, r14, r15, r16)) :
  Calls Tryd.prog 24 #[.string a0] w fun e w' => ∃ v14_ : Value, e = .returned (.tuple #[.agg #[.int .i64 r1, .int .i64 r2, .int .i64 r3, .string r4, .bool r5, .int .u64 r6, .int .u64 r7, .bool r8, .int .u64 r9, .int .u64 r10, .bool r11, .int .u64 r12, .int .u64 r13, .bool r14, v14_], .int .i64 r16]) ∧ Kd.R k61 61 w' w.heap.size (fun _ => True) v14_ r15 ∧ Below w.heap.size w w' := by
 have hu27 := Tryd.underlying27
 have hu24 := Tryd.underlying24
 have HB := Aside0.mk (Below.refl w.heap.size w)
 have H : (if (a0.size : Int) < 22 then (dhcp_Decode.j0 k a0 true) else (if 21 < (a0.size : Int) then (dhcp_Decode.j0 k a0 (decide ((a0.size : Int) < (wrap64 (22 + (wrap64 (bt a0 21))))))) else (none))) = some (r1, r2, r3, r4, r5, r6, r7, r8, r9, r10, r11, r12, r13, r14, r15, r16) := h
 clear h
 have HC2 := Aside0.mk H
 clear H
 go_enter Tryd.func24, Tryd.ntmps24
 go_upto_region 1 with (first | ((with_reducible refine gate_dst (N := 2) rfl ?_); (try (refine gate_guard (by rfl) ?_; dsimp only)); refine box_event ?hg (N := 2) ?hd (cs := #[.int .i64 0, .int .i64 0, .int .i64 0, .string (⟨#[]⟩ : ByteArray), .bool false, .int .u64 0, .int .u64 0, .bool false, .int .u64 0, .int .u64 0, .bool false, .int .u64 0, .int .u64 0, .bool false, .slice none 0 0]) (t := 27) ?hr ?_; (case hd => rfl); (case hg => rfl); (case hr => first | (go_simp; done) | (go_simp; rfl)); intro gb302 hg w3 hbox hb; have n0_ := Aside0.mk (below_step (hbx HB.out) hb); have n1_ := Aside0.mk (hbox); have n2_ := Aside0.mk ((by rw [hg]; exact (below_size (hbx HB.out)) : w.heap.size ≤ gb302)); have n3_ := Aside0.mk ((by rw [hg]; exact (below_size (hbx HB.out)) : w.heap.size ≤ gb302)); clear HB; have HB := n0_; have BK302 := n1_; have GW302 := n2_; have GE302 := n3_; clear n0_ n1_ n2_ n3_; clear hb hbox hg))
 (try simp only [Act.put, List.setIfInBounds_toArray, List.set_cons_zero, List.set_cons_succ])
 go_cut [19] (fun v19 wc => ∃ (kq : Nat) (x19_1 : Bool), v19 = .bool x19_1 ∧ Aside0 (dhcp_Decode.j0 kq a0 x19_1 = some (r1, r2, r3, r4, r5, r6, r7, r8, r9, r10, r11, r12, r13, r14, r15, r16)) ∧ Aside0 (kq ≤ k) ∧ Aside0 (wc.heap[gb302]? = some (.cells #[.int .i64 0, .int .i64 0, .int .i64 0, .string (⟨#[]⟩ : ByteArray), .bool false, .int .u64 0, .int .u64 0, .bool false, .int .u64 0, .int .u64 0, .bool false, .int .u64 0, .int .u64 0, .bool false, (.slice none 0 0)] 27 (0, 0))) ∧ Aside0 (Below w.heap.size w wc))
 case first =>
  have H := HC2.out
  clear HC2
  by_cases c4 : (a0.size : Int) < 22
  ·rw [if_pos c4] at H
   have c4b0 : decide ((a0.size : Int) < 22) = true := decide_eq_true c4
   have c4b1 : decide (a0.size < 22) = true := decide_eq_true (by omega)
   clear c4
   (first | rw [c4b0] | (simp only [i64_w, i32_w]; rw [c4b0]) | skip)
   have H' := Aside0.mk H
   clear H
   go_wp2
   go_meet
   case rel => exact ⟨_, (true), (by first | rfl | (simp; done) | (simp [*]; done)), H', ⟨by first | omega | exact Nat.le_refl _⟩, ⟨bkx BK302.out⟩, ⟨hbx HB.out⟩⟩
  ·rw [if_neg c4] at H
   have c4b0 : decide ((a0.size : Int) < 22) = false := decide_eq_false c4
   have c4b1 : decide (a0.size < 22) = false := decide_eq_false (by omega)
   clear c4
   (first | rw [c4b0] | (simp only [i64_w, i32_w]; rw [c4b0]) | skip)
   by_cases c5 : 21 < (a0.size : Int)
   ·rw [if_pos c5] at H
    have c5b0 : decide (21 < (a0.size : Int)) = true := decide_eq_true c5
    have c5b1 : decide (21 < a0.size) = true := decide_eq_true (by omega)
    clear c5
    have H' := Aside0.mk H
    clear H
    have p6 : 0 ≤ (21 : Int) := (by omega)
    have q6 : 21 < a0.size := (by have : (21 : Int) < (a0.size : Int) := of_decide_eq_true (by first | (with_reducible assumption) | assumption); omega)
    have hx6 : ∀ h : 21 < a0.size, ((a0[21]'h).toNat : Int) = bt a0 21 := bt_at a0 21
    clear p6
    have qi6 : (21 < (a0.size : Int)) = True := eq_true (of_decide_eq_true (by first | (with_reducible assumption) | assumption))
    replace q6 := eq_true q6
    go_wp2
    go_meet
    case rel => exact ⟨_, (decide ((a0.size : Int) < (wrap64 (22 + (wrap64 (bt a0 21)))))), (by first | rfl | (simp; done) | (simp [*]; done)), H', ⟨by first | omega | exact Nat.le_refl _⟩, ⟨bkx BK302.out⟩, ⟨hbx HB.out⟩⟩
   ·rw [if_neg c5] at H
    exact absurd H (by simp)
 case rest =>
  clear HC2
  try clear c2
  try clear p2
  try clear c4
  try clear c4b0
  try clear c4b1
  try clear c5
  try clear c5b0
  try clear c5b1
  try clear p6
  try clear q6
  try clear hx6
  try clear qi6
  try clear p6
  try clear q6
  obtain ⟨kq, x19_1, rfl, HA, HJ1, BK302, HB⟩ := hcut
  cases kq with
  | zero => exact absurd HA.out (by simp [dhcp_Decode.j0])
  | succ kj1 =>
   have H := HA.out
   clear HA
   simp only [dhcp_Decode.j0] at H
   by_cases c7 : x19_1 = true
   ·subst c7
    rw [if_pos rfl] at H
    simp only [Option.some.injEq, Prod.mk.injEq] at H
    obtain ⟨rfl, rfl, rfl, rfl, rfl, rfl, rfl, rfl, rfl, rfl, rfl, rfl, rfl, rfl, rfl, rfl⟩ := H
    obtain ⟨⟨hcz8_0, hcz8_1, hcz8_2, hcz8_3, hcz8_4, hcz8_5, hcz8_6, hcz8_7, hcz8_8, hcz8_9, hcz8_10, hcz8_11, hcz8_12, hcz8_13, hcz8_14⟩, hfz8_0, hfz8_1, hfz8_2, hfz8_3, hfz8_4, hfz8_5, hfz8_6, hfz8_7, hfz8_8, hfz8_9, hfz8_10, hfz8_11, hfz8_12, hfz8_13, hfz8_14⟩ := cf15 BK302.out
    go_wp2
    refine bodyPost_ret (results_ct rfl _ _ gb302 27 #[.int .i64 0, .int .i64 0, .int .i64 0, .string (⟨#[]⟩ : ByteArray), .bool false, .int .u64 0, .int .u64 0, .bool false, .int .u64 0, .int .u64 0, .bool false, .int .u64 0, .int .u64 0, .bool false, .slice none 0 0] (0, 0) _ rfl (by (with_reducible repeat (first | refine blk_drewN ?_ _ | refine blk_drew ?_ | refine blk_alloc ?_ _)); refine blk_put (cs := #[.int .i64 0, .int .i64 0, .int .i64 0, .string (⟨#[]⟩ : ByteArray), .bool false, .int .u64 0, .int .u64 0, .bool false, .int .u64 0, .int .u64 0, .bool false, .int .u64 0, .int .u64 0, .bool false, .slice none 0 0]) ?_ 14 _ rfl; (with_reducible repeat (first | refine blk_drewN ?_ _ | refine blk_drew ?_ | refine blk_alloc ?_ _)); refine blk_put (cs := #[.int .i64 0, .int .i64 0, .int .i64 0, .string (⟨#[]⟩ : ByteArray), .bool false, .int .u64 0, .int .u64 0, .bool false, .int .u64 0, .int .u64 0, .bool false, .int .u64 0, .int .u64 0, .bool false, .slice none 0 0]) ?_ 13 _ rfl; (with_reducible repeat (first | refine blk_drewN ?_ _ | refine blk_drew ?_ | refine blk_alloc ?_ _)); refine blk_put (cs := #[.int .i64 0, .int .i64 0, .int .i64 0, .string (⟨#[]⟩ : ByteArray), .bool false, .int .u64 0, .int .u64 0, .bool false, .int .u64 0, .int .u64 0, .bool false, .int .u64 0, .int .u64 0, .bool false, .slice none 0 0]) ?_ 12 _ rfl; (with_reducible repeat (first | refine blk_drewN ?_ _ | refine blk_drew ?_ | refine blk_alloc ?_ _)); refine blk_put (cs := #[.int .i64 0, .int .i64 0, .int .i64 0, .string (⟨#[]⟩ : ByteArray), .bool false, .int .u64 0, .int .u64 0, .bool false, .int .u64 0, .int .u64 0, .bool false, .int .u64 0, .int .u64 0, .bool false, .slice none 0 0]) ?_ 11 _ rfl; (with_reducible repeat (first | refine blk_drewN ?_ _ | refine blk_drew ?_ | refine blk_alloc ?_ _)); refine blk_put (cs := #[.int .i64 0, .int .i64 0, .int .i64 0, .string (⟨#[]⟩ : ByteArray), .bool false, .int .u64 0, .int .u64 0, .bool false, .int .u64 0, .int .u64 0, .bool false, .int .u64 0, .int .u64 0, .bool false, .slice none 0 0]) ?_ 10 _ rfl; (with_reducible repeat (first | refine blk_drewN ?_ _ | refine blk_drew ?_ | refine blk_alloc ?_ _)); refine blk_put (cs := #[.int .i64 0, .int .i64 0, .int .i64 0, .string (⟨#[]⟩ : ByteArray), .bool false, .int .u64 0, .int .u64 0, .bool false, .int .u64 0, .int .u64 0, .bool false, .int .u64 0, .int .u64 0, .bool false, .slice none 0 0]) ?_ 9 _ rfl; (with_reducible repeat (first | refine blk_drewN ?_ _ | refine blk_drew ?_ | refine blk_alloc ?_ _)); refine blk_put (cs := #[.int .i64 0, .int .i64 0, .int .i64 0, .string (⟨#[]⟩ : ByteArray), .bool false, .int .u64 0, .int .u64 0, .bool false, .int .u64 0, .int .u64 0, .bool false, .int .u64 0, .int .u64 0, .bool false, .slice none 0 0]) ?_ 8 _ rfl; (with_reducible repeat (first | refine blk_drewN ?_ _ | refine blk_drew ?_ | refine blk_alloc ?_ _)); refine blk_put (cs := #[.int .i64 0, .int .i64 0, .int .i64 0, .string (⟨#[]⟩ : ByteArray), .bool false, .int .u64 0, .int .u64 0, .bool false, .int .u64 0, .int .u64 0, .bool false, .int .u64 0, .int .u64 0, .bool false, .slice none 0 0]) ?_ 7 _ rfl; (with_reducible repeat (first | refine blk_drewN ?_ _ | refine blk_drew ?_ | refine blk_alloc ?_ _)); refine blk_put (cs := #[.int .i64 0, .int .i64 0, .int .i64 0, .string (⟨#[]⟩ : ByteArray), .bool false, .int .u64 0, .int .u64 0, .bool false, .int .u64 0, .int .u64 0, .bool false, .int .u64 0, .int .u64 0, .bool false, .slice none 0 0]) ?_ 6 _ rfl; (with_reducible repeat (first | refine blk_drewN ?_ _ | refine blk_drew ?_ | refine blk_alloc ?_ _)); refine blk_put (cs := #[.int .i64 0, .int .i64 0, .int .i64 0, .string (⟨#[]⟩ : ByteArray), .bool false, .int .u64 0, .int .u64 0, .bool false, .int .u64 0, .int .u64 0, .bool false, .int .u64 0, .int .u64 0, .bool false, .slice none 0 0]) ?_ 5 _ rfl; (with_reducible repeat (first | refine blk_drewN ?_ _ | refine blk_drew ?_ | refine blk_alloc ?_ _)); refine blk_put (cs := #[.int .i64 0, .int .i64 0, .int .i64 0, .string (⟨#[]⟩ : ByteArray), .bool false, .int .u64 0, .int .u64 0, .bool false, .int .u64 0, .int .u64 0, .bool false, .int .u64 0, .int .u64 0, .bool false, .slice none 0 0]) ?_ 4 _ rfl; (with_reducible repeat (first | refine blk_drewN ?_ _ | refine blk_drew ?_ | refine blk_alloc ?_ _)); refine blk_put (cs := #[.int .i64 0, .int .i64 0, .int .i64 0, .string (⟨#[]⟩ : ByteArray), .bool false, .int .u64 0, .int .u64 0, .bool false, .int .u64 0, .int .u64 0, .bool false, .int .u64 0, .int .u64 0, .bool false, .slice none 0 0]) ?_ 3 _ rfl; (with_reducible repeat (first | refine blk_drewN ?_ _ | refine blk_drew ?_ | refine blk_alloc ?_ _)); refine blk_put (cs := #[.int .i64 0, .int .i64 0, .int .i64 0, .string (⟨#[]⟩ : ByteArray), .bool false, .int .u64 0, .int .u64 0, .bool false, .int .u64 0, .int .u64 0, .bool false, .int .u64 0, .int .u64 0, .bool false, .slice none 0 0]) ?_ 2 _ rfl; (with_reducible repeat (first | refine blk_drewN ?_ _ | refine blk_drew ?_ | refine blk_alloc ?_ _)); refine blk_put (cs := #[.int .i64 0, .int .i64 0, .int .i64 0, .string (⟨#[]⟩ : ByteArray), .bool false, .int .u64 0, .int .u64 0, .bool false, .int .u64 0, .int .u64 0, .bool false, .int .u64 0, .int .u64 0, .bool false, .slice none 0 0]) ?_ 1 _ rfl; (with_reducible repeat (first | refine blk_drewN ?_ _ | refine blk_drew ?_ | refine blk_alloc ?_ _)); refine blk_put (cs := #[.int .i64 0, .int .i64 0, .int .i64 0, .string (⟨#[]⟩ : ByteArray), .bool false, .int .u64 0, .int .u64 0, .bool false, .int .u64 0, .int .u64 0, .bool false, .int .u64 0, .int .u64 0, .bool false, .slice none 0 0]) ?_ 0 _ rfl; (with_reducible repeat (first | refine blk_drewN ?_ _ | refine blk_drew ?_ | refine blk_alloc ?_ _)); exact BK302.out) Tryd.underlying27 rfl (by kernel_rfl)) rfl ?_
    exact ⟨_, by first | rfl | (simp [errW_none, errW_some] <;> rfl) | (simp [*, errW_none, errW_some] <;> rfl), by first | exact Kd.R_nil _ _ _ _ _ | exact Kd.N_nil _ _ _ _ _ | exact Kd.V_nil _ _ _ _ _ | exact Kd.Q_nil _ _ _ _ _ | exact Kd.S_nil _ _ _ _ _, hbx HB.out⟩
   ·replace c7 := Bool.eq_false_iff.mpr c7
    subst c7
    rw [if_neg (show ¬ (false = true) by decide)] at H
    by_cases c9 : 1 < (a0.size : Int)
    ·rw [if_pos c9] at H
     have c9b0 : decide (1 < (a0.size : Int)) = true := decide_eq_true c9
     have c9b1 : decide (1 < a0.size) = true := decide_eq_true (by omega)
     clear c9
     by_cases c11 : 2 ≤ 6
     ·rw [if_pos c11] at H
      have c11b0 := eq_true c11
      have c11b1 : decide (2 ≤ 6) = true := decide_eq_true c11
      clear c11
      by_cases c12 : 6 ≤ (a0.size : Int)
      ·rw [if_pos c12] at H
       have c12b0 := eq_true c12
       have c12b1 : decide (6 ≤ (a0.size : Int)) = true := decide_eq_true c12
       clear c12
       replace H := Option.bind_eq_some_iff.mp H
       obtain ⟨t303, A130, H⟩ := H
       (try dsimp only at H)
       have A13 := Aside0.mk A130
       clear A130
       by_cases c14 : 6 ≤ 8
       ·rw [if_pos c14] at H
        have c14b0 := eq_true c14
        have c14b1 : decide (6 ≤ 8) = true := decide_eq_true c14
        clear c14
        by_cases c15 : 8 ≤ (a0.size : Int)
        ·rw [if_pos c15] at H
         have c15b0 := eq_true c15
         have c15b1 : decide (8 ≤ (a0.size : Int)) = true := decide_eq_true c15
         clear c15
         replace H := Option.bind_eq_some_iff.mp H
         obtain ⟨t304, A160, H⟩ := H
         (try dsimp only at H)
         have A16 := Aside0.mk A160
         clear A160
         by_cases c17 : 20 < (a0.size : Int)
         ·rw [if_pos c17] at H
          have c17b0 : decide (20 < (a0.size : Int)) = true := decide_eq_true c17
          have c17b1 : decide (20 < a0.size) = true := decide_eq_true (by omega)
          clear c17
          by_cases c19 : 21 < (a0.size : Int)
          ·rw [if_pos c19] at H
           have c19b0 : decide (21 < (a0.size : Int)) = true := decide_eq_true c19
           have c19b1 : decide (21 < a0.size) = true := decide_eq_true (by omega)
           clear c19
           by_cases c21 : 22 ≤ (wrap64 (22 + (wrap64 (bt a0 21))))
           ·rw [if_pos c21] at H
            have c21b0 := eq_true c21
            have c21b1 : decide (22 ≤ (wrap64 (22 + (wrap64 (bt a0 21))))) = true := decide_eq_true c21
            by_cases c22 : (wrap64 (22 + (wrap64 (bt a0 21)))) ≤ (a0.size : Int)
            ·rw [if_pos c22] at H
             have c22b0 := eq_true c22
             have c22b1 : decide ((wrap64 (22 + (wrap64 (bt a0 21)))) ≤ (a0.size : Int)) = true := decide_eq_true c22
             by_cases c23 : 8 ≤ 12
             ·rw [if_pos c23] at H
              have c23b0 := eq_true c23
              have c23b1 : decide (8 ≤ 12) = true := decide_eq_true c23
              clear c23
              by_cases c24 : 12 ≤ (a0.size : Int)
              ·rw [if_pos c24] at H
               have c24b0 := eq_true c24
               have c24b1 : decide (12 ≤ (a0.size : Int)) = true := decide_eq_true c24
               clear c24
               replace H := Option.bind_eq_some_iff.mp H
               obtain ⟨⟨t306, t307, t308, t309⟩, A250, H⟩ := H
               (try dsimp only at H)
               have A25 := Aside0.mk A250
               clear A250
               by_cases c26 : 12 ≤ 16
               ·rw [if_pos c26] at H
                have c26b0 := eq_true c26
                have c26b1 : decide (12 ≤ 16) = true := decide_eq_true c26
                clear c26
                by_cases c27 : 16 ≤ (a0.size : Int)
                ·rw [if_pos c27] at H
                 have c27b0 := eq_true c27
                 have c27b1 : decide (16 ≤ (a0.size : Int)) = true := decide_eq_true c27
                 clear c27
                 replace H := Option.bind_eq_some_iff.mp H
                 obtain ⟨⟨t310, t311, t312, t313⟩, A280, H⟩ := H
                 (try dsimp only at H)
                 have A28 := Aside0.mk A280
                 clear A280
                 by_cases c29 : 16 ≤ 20
                 ·rw [if_pos c29] at H
                  have c29b0 := eq_true c29
                  have c29b1 : decide (16 ≤ 20) = true := decide_eq_true c29
                  clear c29
                  by_cases c30 : 20 ≤ (a0.size : Int)
                  ·rw [if_pos c30] at H
                   have c30b0 := eq_true c30
                   have c30b1 : decide (20 ≤ (a0.size : Int)) = true := decide_eq_true c30
                   clear c30
                   replace H := Option.bind_eq_some_iff.mp H
                   obtain ⟨⟨t314, t315, t316, t317⟩, A310, H⟩ := H
                   (try dsimp only at H)
                   have A31 := Aside0.mk A310
                   clear A310
                   replace H := Option.bind_eq_some_iff.mp H
                   obtain ⟨t318, A320, H⟩ := H
                   (try dsimp only at H)
                   have A32 := Aside0.mk A320
                   clear A320
                   have HC33 := Aside0.mk H
                   clear H
                   try go_wp2
                   have n0_ := Aside0.mk (blk_drew BK302.out)
                   have n1_ := Aside0.mk (below_drew1 HB.out)
                   clear BK302
                   clear HB
                   have BK302 := n0_
                   have HB := n1_
                   clear n0_ n1_
                   have p10 : 0 ≤ (1 : Int) := (by omega)
                   have q10 : 1 < a0.size := (by have : (1 : Int) < (a0.size : Int) := of_decide_eq_true (by first | (with_reducible assumption) | assumption); omega)
                   have hx10 : ∀ h : 1 < a0.size, ((a0[1]'h).toNat : Int) = bt a0 1 := bt_at a0 1
                   clear p10
                   have qi10 : (1 < (a0.size : Int)) = True := eq_true (of_decide_eq_true (by first | (with_reducible assumption) | assumption))
                   replace q10 := eq_true q10
                   have p18 : 0 ≤ (20 : Int) := (by omega)
                   have q18 : 20 < a0.size := (by have : (20 : Int) < (a0.size : Int) := of_decide_eq_true (by first | (with_reducible assumption) | assumption); omega)
                   have hx18 : ∀ h : 20 < a0.size, ((a0[20]'h).toNat : Int) = bt a0 20 := bt_at a0 20
                   clear p18
                   have qi18 : (20 < (a0.size : Int)) = True := eq_true (of_decide_eq_true (by first | (with_reducible assumption) | assumption))
                   replace q18 := eq_true q18
                   have p20 : 0 ≤ (21 : Int) := (by omega)
                   have q20 : 21 < a0.size := (by have : (21 : Int) < (a0.size : Int) := of_decide_eq_true (by first | (with_reducible assumption) | assumption); omega)
                   have hx20 : ∀ h : 21 < a0.size, ((a0[21]'h).toNat : Int) = bt a0 21 := bt_at a0 21
                   clear p20
                   have qi20 : (21 < (a0.size : Int)) = True := eq_true (of_decide_eq_true (by first | (with_reducible assumption) | assumption))
                   replace q20 := eq_true q20
                   refine start_ (n := 21) (S := fun w' => True) (ds := []) #[false, false, false, false, false, false, false, false, false, false, false, false, false, false, false, false, false, false, false, false, false] (by kernel_rfl) rfl rfl trivial (fun hHeld => ?_); refine with_tabW dhcp_Decode.tab3 dhcp_Decode.bits3 (fun HT_ HW_ => ?_)
                   generalize wc.drew = w34 at BK302 HB hHeld ⊢
                   refine pu0 (i := 0) (N := some 21) #[true, false, false, false, false, false, false, false, false, false, false, false, false, false, false, false, false, false, false, false, false] rfl rfl (any_of HT_.out (by kernel_rfl)) ?_
                   refine pu0 (i := 3) (N := some 24) #[true, false, false, true, false, false, false, false, false, false, false, false, false, false, false, false, false, false, false, false, false] rfl rfl (any_of HT_.out (by kernel_rfl)) ?_
                   refine pu0 (i := 4) (N := some 25) #[true, false, false, true, true, false, false, false, false, false, false, false, false, false, false, false, false, false, false, false, false] rfl rfl (any_of HT_.out (by kernel_rfl)) ?_
                   refine pu0 (i := 6) (N := some 27) #[true, false, false, true, true, false, true, false, false, false, false, false, false, false, false, false, false, false, false, false, false] rfl rfl (any_of HT_.out (by kernel_rfl)) ?_
                   refine pu0 (i := 7) (N := some 28) #[true, false, false, true, true, false, true, true, false, false, false, false, false, false, false, false, false, false, false, false, false] rfl rfl (any_of HT_.out (by kernel_rfl)) ?_
                   refine pu0 (i := 9) (N := some 30) #[true, false, false, true, true, false, true, true, false, true, false, false, false, false, false, false, false, false, false, false, false] rfl rfl (any_of HT_.out (by kernel_rfl)) ?_
                   refine pu0 (i := 12) (N := some 33) #[true, false, false, true, true, false, true, true, false, true, false, false, true, false, false, false, false, false, false, false, false] rfl rfl (any_of HT_.out (by kernel_rfl)) ?_
                   refine pu0 (i := 13) (N := some 34) #[true, false, false, true, true, false, true, true, false, true, false, false, true, true, false, false, false, false, false, false, false] rfl rfl (any_of HT_.out (by kernel_rfl)) ?_
                   refine ta0 (i := 1) (N := some 22) #[true, true, false, true, true, false, true, true, false, true, false, false, true, true, false, false, false, false, false, false, false] rfl rfl (take_ofW HT_.out HW_.out (by kernel_rfl)) hHeld ?_
                   refine pu0 (i := 2) (N := some 23) #[true, true, true, true, true, false, true, true, false, true, false, false, true, true, false, false, false, false, false, false, false] rfl rfl (any_of HT_.out (by kernel_rfl)) ?_
                   refine ta0 (i := 10) (N := some 31) #[true, true, true, true, true, false, true, true, false, true, true, false, true, true, false, false, false, false, false, false, false] rfl rfl (take_ofW HT_.out HW_.out (by kernel_rfl)) hHeld ?_
                   refine pu0 (i := 11) (N := some 32) #[true, true, true, true, true, false, true, true, false, true, true, true, true, true, false, false, false, false, false, false, false] rfl rfl (any_of HT_.out (by kernel_rfl)) ?_
                   refine ta0 (i := 14) (N := some 35) #[true, true, true, true, true, false, true, true, false, true, true, true, true, true, true, false, false, false, false, false, false] rfl rfl (take_ofW HT_.out HW_.out (by kernel_rfl)) hHeld ?_
                   refine pu0 (i := 15) (N := some 36) #[true, true, true, true, true, false, true, true, false, true, true, true, true, true, true, true, false, false, false, false, false] rfl rfl (any_of HT_.out (by kernel_rfl)) ?_
                   refine pu0 (i := 16) (N := some 37) #[true, true, true, true, true, false, true, true, false, true, true, true, true, true, true, true, true, false, false, false, false] rfl rfl (any_of HT_.out (by kernel_rfl)) ?_
                   refine pu0 (i := 17) (N := some 38) #[true, true, true, true, true, false, true, true, false, true, true, true, true, true, true, true, true, true, false, false, false] rfl rfl (any_of HT_.out (by kernel_rfl)) ?_
                   refine join_ (σ := Nat) 1 #[true, true, true, true, true, true, true, true, true, true, true, true, true, true, true, true, true, true, true, true, false] (fun s_ => [(26, .int .i64 t303), (29, .int .i64 t304), (4, .pointer (some ⟨s_, 0, none⟩)), (39, .agg #[.int .i64 (wrap64 (bt a0 1)), .int .i64 t303, .int .i64 t304, .string (a0.extract 22 ((wrap64 (22 + (wrap64 (bt a0 21)))) : Int).toNat), .bool false, .int .u64 0, .int .u64 0, .bool false, .int .u64 0, .int .u64 0, .bool false, .int .u64 0, .int .u64 0, .bool ((bt a0 20) == 1), .slice none 0 0])]) (fun s_ w' => (w'.heap[gb302]? = some (.cells #[.int .i64 0, .int .i64 0, .int .i64 0, .string (⟨#[]⟩ : ByteArray), .bool false, .int .u64 0, .int .u64 0, .bool false, .int .u64 0, .int .u64 0, .bool false, .int .u64 0, .int .u64 0, .bool false, .slice none 0 0] 27 (0, 0))) ∧ (w'.heap[s_]? = some (.cells #[.int .i64 0, .int .i64 0, .int .i64 0, .string (⟨#[]⟩ : ByteArray), .bool false, .int .u64 0, .int .u64 0, .bool false, .int .u64 0, .int .u64 0, .bool false, .int .u64 0, .int .u64 0, .bool false, .slice none 0 0] 27 (0, 0))) ∧ (w.heap.size ≤ s_) ∧ (w.heap.size ≤ s_) ∧ (gb302 ≠ s_) ∧ (s_ ≠ gb302) ∧ (Below w.heap.size w w')) ?_ ?_
                   rotate_left
                   ·intro hCont
                    refine two_ (i := 5) (j := 19) (Ni := some 26) (Nj := some 4) #[true, true, true, true, true, true, true, true, false, true, true, true, true, true, true, true, true, true, false, false, false] #[true, true, true, true, true, false, true, true, false, true, true, true, true, true, true, true, true, true, false, true, false] rfl rfl rfl rfl (two_of HT_.out (by kernel_rfl)) (by decide) (by decide) (fun K hK => ?_) (fun K hK => ?_)
                    ·skip
                     refine goes_ Tryd.func49 (by kernel_rfl) rfl #[.string (a0.extract 2 6)] (by rfl) rfl rfl (by (try simp only [List.map_toArray, List.map_cons, List.map_nil]); first | done | rfl | (simp only [List.length_drop, List.length_take]; rfl)) ?_
                     with_reducible refine (dhcp_number.calls kj1 (a0.extract 2 6) t303 _ A13.out).mono ?_
                     rintro e w' ⟨rfl, ⟨nd, rfl⟩⟩
                     refine ⟨_, rfl, ?_⟩
                     refine hK.out _ _ trivial (fun hHeld => ?_)
                     clear hK K
                     refine norm_ (a' := ?_) ?_ ?_
                     rotate_left
                     ·show Act.put _ (some 26) _ = _
                      simp only [Act.put, List.setIfInBounds_toArray, List.set_cons_zero, List.set_cons_succ, i64_w, i32_w]
                      rfl
                     refine two_ (i := 8) (j := 19) (Ni := some 29) (Nj := some 4) #[true, true, true, true, true, true, true, true, true, true, true, true, true, true, true, true, true, true, false, false, false] #[true, true, true, true, true, true, true, true, false, true, true, true, true, true, true, true, true, true, false, true, false] rfl rfl rfl rfl (two_of HT_.out (by kernel_rfl)) (by decide) (by decide) (fun K hK => ?_) (fun K hK => ?_)
                     ·skip
                      refine goes_ Tryd.func49 (by kernel_rfl) rfl #[.string (a0.extract 6 8)] (by rfl) rfl rfl (by (try simp only [List.map_toArray, List.map_cons, List.map_nil]); first | done | rfl | (simp only [List.length_drop, List.length_take]; rfl)) ?_
                      with_reducible refine (dhcp_number.calls kj1 (a0.extract 6 8) t304 _ A16.out).mono ?_
                      rintro e w' ⟨rfl, ⟨nd, rfl⟩⟩
                      refine ⟨_, rfl, ?_⟩
                      refine hK.out _ _ trivial (fun hHeld => ?_)
                      clear hK K
                      refine norm_ (a' := ?_) ?_ ?_
                      rotate_left
                      ·show Act.put _ (some 29) _ = _
                       simp only [Act.put, List.setIfInBounds_toArray, List.set_cons_zero, List.set_cons_succ, i64_w, i32_w]
                       rfl
                      refine pu0 (i := 18) (N := some 39) #[true, true, true, true, true, true, true, true, true, true, true, true, true, true, true, true, true, true, true, false, false] rfl rfl (any_of HT_.out (by kernel_rfl)) ?_
                      refine one_ (i := 19) (N := some 4) #[true, true, true, true, true, true, true, true, true, true, true, true, true, true, true, true, true, true, true, true, false] rfl rfl (one_of HT_.out (by kernel_rfl)) (by decide) (fun K hK => ?_)
                      refine box_step ?hg (N := 4) ?hd (cs := #[.int .i64 0, .int .i64 0, .int .i64 0, .string (⟨#[]⟩ : ByteArray), .bool false, .int .u64 0, .int .u64 0, .bool false, .int .u64 0, .int .u64 0, .bool false, .int .u64 0, .int .u64 0, .bool false, .slice none 0 0]) (t := 27) ?hr ?_; (case hd => rfl); (case hg => rfl); (case hr => first | (go_simp; done) | (go_simp; rfl))
                      intro gb305 hg w35 hbox hb
                      have n0_ := Aside0.mk (blk_below (bkx BK302.out) hb)
                      have n1_ := Aside0.mk (below_step (hbx HB.out) hb)
                      have n2_ := Aside0.mk (hbox)
                      have n3_ := Aside0.mk ((by rw [hg]; exact (below_size (hbx HB.out)) : w.heap.size ≤ gb305))
                      have n4_ := Aside0.mk ((by rw [hg]; exact (below_size (hbx HB.out)) : w.heap.size ≤ gb305))
                      have n5_ := Aside0.mk ((by rw [hg]; exact Nat.ne_of_lt (blk_lt (bkx BK302.out)) : gb302 ≠ gb305))
                      have n6_ := Aside0.mk ((by rw [hg]; exact Nat.ne_of_gt (blk_lt (bkx BK302.out)) : gb305 ≠ gb302))
                      clear BK302
                      clear HB
                      have BK302 := n0_
                      have HB := n1_
                      have BK305 := n2_
                      have GW305 := n3_
                      have GE305 := n4_
                      have NB302_305 := n5_
                      have NB305_302 := n6_
                      clear n0_ n1_ n2_ n3_ n4_ n5_ n6_
                      clear hb hbox hg
                      refine hK.out _ _ trivial (fun hHeld => ?_)
                      clear hK K
                      refine norm_ (a' := ?_) ?_ ?_
                      rotate_left
                      ·show Act.put _ (some 4) _ = _
                       simp only [Act.put, List.setIfInBounds_toArray, List.set_cons_zero, List.set_cons_succ, i64_w, i32_w]
                       rfl
                      exact norm_ (by simp only [putAll, Act.put, List.setIfInBounds_toArray, List.set_cons_zero, List.set_cons_succ]) (hCont (gb305) _ ⟨(bkx BK302.out), (bkx BK305.out), GW305.out, GE305.out, NB302_305.out, NB305_302.out, (hbx HB.out)⟩)
                     ·skip
                      refine box_step ?hg (N := 4) ?hd (cs := #[.int .i64 0, .int .i64 0, .int .i64 0, .string (⟨#[]⟩ : ByteArray), .bool false, .int .u64 0, .int .u64 0, .bool false, .int .u64 0, .int .u64 0, .bool false, .int .u64 0, .int .u64 0, .bool false, .slice none 0 0]) (t := 27) ?hr ?_; (case hd => rfl); (case hg => rfl); (case hr => first | (go_simp; done) | (go_simp; rfl))
                      intro gb305 hg w35 hbox hb
                      have n0_ := Aside0.mk (blk_below (bkx BK302.out) hb)
                      have n1_ := Aside0.mk (below_step (hbx HB.out) hb)
                      have n2_ := Aside0.mk (hbox)
                      have n3_ := Aside0.mk ((by rw [hg]; exact (below_size (hbx HB.out)) : w.heap.size ≤ gb305))
                      have n4_ := Aside0.mk ((by rw [hg]; exact (below_size (hbx HB.out)) : w.heap.size ≤ gb305))
                      have n5_ := Aside0.mk ((by rw [hg]; exact Nat.ne_of_lt (blk_lt (bkx BK302.out)) : gb302 ≠ gb305))
                      have n6_ := Aside0.mk ((by rw [hg]; exact Nat.ne_of_gt (blk_lt (bkx BK302.out)) : gb305 ≠ gb302))
                      clear BK302
                      clear HB
                      have BK302 := n0_
                      have HB := n1_
                      have BK305 := n2_
                      have GW305 := n3_
                      have GE305 := n4_
                      have NB302_305 := n5_
                      have NB305_302 := n6_
                      clear n0_ n1_ n2_ n3_ n4_ n5_ n6_
                      clear hb hbox hg
                      refine hK.out _ _ trivial (fun hHeld => ?_)
                      clear hK K
                      refine norm_ (a' := ?_) ?_ ?_
                      rotate_left
                      ·show Act.put _ (some 4) _ = _
                       simp only [Act.put, List.setIfInBounds_toArray, List.set_cons_zero, List.set_cons_succ, i64_w, i32_w]
                       rfl
                      refine one_ (i := 8) (N := some 29) #[true, true, true, true, true, true, true, true, true, true, true, true, true, true, true, true, true, true, false, true, false] rfl rfl (one_of HT_.out (by kernel_rfl)) (by decide) (fun K hK => ?_)
                      refine goes_ Tryd.func49 (by kernel_rfl) rfl #[.string (a0.extract 6 8)] (by rfl) rfl rfl (by (try simp only [List.map_toArray, List.map_cons, List.map_nil]); first | done | rfl | (simp only [List.length_drop, List.length_take]; rfl)) ?_
                      with_reducible refine (dhcp_number.calls kj1 (a0.extract 6 8) t304 _ A16.out).mono ?_
                      rintro e w' ⟨rfl, ⟨nd, rfl⟩⟩
                      refine ⟨_, rfl, ?_⟩
                      refine hK.out _ _ trivial (fun hHeld => ?_)
                      clear hK K
                      refine norm_ (a' := ?_) ?_ ?_
                      rotate_left
                      ·show Act.put _ (some 29) _ = _
                       simp only [Act.put, List.setIfInBounds_toArray, List.set_cons_zero, List.set_cons_succ, i64_w, i32_w]
                       rfl
                      refine pu0 (i := 18) (N := some 39) #[true, true, true, true, true, true, true, true, true, true, true, true, true, true, true, true, true, true, true, true, false] rfl rfl (any_of HT_.out (by kernel_rfl)) ?_
                      exact norm_ (by simp only [putAll, Act.put, List.setIfInBounds_toArray, List.set_cons_zero, List.set_cons_succ]) (hCont (gb305) _ ⟨(bkx BK302.out), (bkx BK305.out), GW305.out, GE305.out, NB302_305.out, NB305_302.out, (hbx HB.out)⟩)
                    ·skip
                     refine box_step ?hg (N := 4) ?hd (cs := #[.int .i64 0, .int .i64 0, .int .i64 0, .string (⟨#[]⟩ : ByteArray), .bool false, .int .u64 0, .int .u64 0, .bool false, .int .u64 0, .int .u64 0, .bool false, .int .u64 0, .int .u64 0, .bool false, .slice none 0 0]) (t := 27) ?hr ?_; (case hd => rfl); (case hg => rfl); (case hr => first | (go_simp; done) | (go_simp; rfl))
                     intro gb305 hg w35 hbox hb
                     have n0_ := Aside0.mk (blk_below (bkx BK302.out) hb)
                     have n1_ := Aside0.mk (below_step (hbx HB.out) hb)
                     have n2_ := Aside0.mk (hbox)
                     have n3_ := Aside0.mk ((by rw [hg]; exact (below_size (hbx HB.out)) : w.heap.size ≤ gb305))
                     have n4_ := Aside0.mk ((by rw [hg]; exact (below_size (hbx HB.out)) : w.heap.size ≤ gb305))
                     have n5_ := Aside0.mk ((by rw [hg]; exact Nat.ne_of_lt (blk_lt (bkx BK302.out)) : gb302 ≠ gb305))
                     have n6_ := Aside0.mk ((by rw [hg]; exact Nat.ne_of_gt (blk_lt (bkx BK302.out)) : gb305 ≠ gb302))
                     clear BK302
                     clear HB
                     have BK302 := n0_
                     have HB := n1_
                     have BK305 := n2_
                     have GW305 := n3_
                     have GE305 := n4_
                     have NB302_305 := n5_
                     have NB305_302 := n6_
                     clear n0_ n1_ n2_ n3_ n4_ n5_ n6_
                     clear hb hbox hg
                     refine hK.out _ _ trivial (fun hHeld => ?_)
                     clear hK K
                     refine norm_ (a' := ?_) ?_ ?_
                     rotate_left
                     ·show Act.put _ (some 4) _ = _
                      simp only [Act.put, List.setIfInBounds_toArray, List.set_cons_zero, List.set_cons_succ, i64_w, i32_w]
                      rfl
                     refine one_ (i := 5) (N := some 26) #[true, true, true, true, true, true, true, true, false, true, true, true, true, true, true, true, true, true, false, true, false] rfl rfl (one_of HT_.out (by kernel_rfl)) (by decide) (fun K hK => ?_)
                     refine goes_ Tryd.func49 (by kernel_rfl) rfl #[.string (a0.extract 2 6)] (by rfl) rfl rfl (by (try simp only [List.map_toArray, List.map_cons, List.map_nil]); first | done | rfl | (simp only [List.length_drop, List.length_take]; rfl)) ?_
                     with_reducible refine (dhcp_number.calls kj1 (a0.extract 2 6) t303 _ A13.out).mono ?_
                     rintro e w' ⟨rfl, ⟨nd, rfl⟩⟩
                     refine ⟨_, rfl, ?_⟩
                     refine hK.out _ _ trivial (fun hHeld => ?_)
                     clear hK K
                     refine norm_ (a' := ?_) ?_ ?_
                     rotate_left
                     ·show Act.put _ (some 26) _ = _
                      simp only [Act.put, List.setIfInBounds_toArray, List.set_cons_zero, List.set_cons_succ, i64_w, i32_w]
                      rfl
                     refine one_ (i := 8) (N := some 29) #[true, true, true, true, true, true, true, true, true, true, true, true, true, true, true, true, true, true, false, true, false] rfl rfl (one_of HT_.out (by kernel_rfl)) (by decide) (fun K hK => ?_)
                     refine goes_ Tryd.func49 (by kernel_rfl) rfl #[.string (a0.extract 6 8)] (by rfl) rfl rfl (by (try simp only [List.map_toArray, List.map_cons, List.map_nil]); first | done | rfl | (simp only [List.length_drop, List.length_take]; rfl)) ?_
                     with_reducible refine (dhcp_number.calls kj1 (a0.extract 6 8) t304 _ A16.out).mono ?_
                     rintro e w' ⟨rfl, ⟨nd, rfl⟩⟩
                     refine ⟨_, rfl, ?_⟩
                     refine hK.out _ _ trivial (fun hHeld => ?_)
                     clear hK K
                     refine norm_ (a' := ?_) ?_ ?_
                     rotate_left
                     ·show Act.put _ (some 29) _ = _
                      simp only [Act.put, List.setIfInBounds_toArray, List.set_cons_zero, List.set_cons_succ, i64_w, i32_w]
                      rfl
                     refine pu0 (i := 18) (N := some 39) #[true, true, true, true, true, true, true, true, true, true, true, true, true, true, true, true, true, true, true, true, false] rfl rfl (any_of HT_.out (by kernel_rfl)) ?_
                     exact norm_ (by simp only [putAll, Act.put, List.setIfInBounds_toArray, List.set_cons_zero, List.set_cons_succ]) (hCont (gb305) _ ⟨(bkx BK302.out), (bkx BK305.out), GW305.out, GE305.out, NB302_305.out, NB305_302.out, (hbx HB.out)⟩)
                   rintro gb305 w36 ⟨h0_, h1_, h2_, h3_, h4_, h5_, h6_⟩
                   have n0_ : Aside0 (w36.heap[gb302]? = some (.cells #[.int .i64 0, .int .i64 0, .int .i64 0, .string (⟨#[]⟩ : ByteArray), .bool false, .int .u64 0, .int .u64 0, .bool false, .int .u64 0, .int .u64 0, .bool false, .int .u64 0, .int .u64 0, .bool false, .slice none 0 0] 27 (0, 0))) := ⟨h0_⟩
                   have n1_ : Aside0 (w36.heap[gb305]? = some (.cells #[.int .i64 0, .int .i64 0, .int .i64 0, .string (⟨#[]⟩ : ByteArray), .bool false, .int .u64 0, .int .u64 0, .bool false, .int .u64 0, .int .u64 0, .bool false, .int .u64 0, .int .u64 0, .bool false, .slice none 0 0] 27 (0, 0))) := ⟨h1_⟩
                   have n2_ : Aside0 (w.heap.size ≤ gb305) := ⟨h2_⟩
                   have n3_ : Aside0 (w.heap.size ≤ gb305) := ⟨h3_⟩
                   have n4_ : Aside0 (gb302 ≠ gb305) := ⟨h4_⟩
                   have n5_ : Aside0 (gb305 ≠ gb302) := ⟨h5_⟩
                   have n6_ : Aside0 (Below w.heap.size w w36) := ⟨h6_⟩
                   clear BK302
                   clear HB
                   clear h0_ h1_ h2_ h3_ h4_ h5_ h6_
                   have BK302 := n0_
                   have BK305 := n1_
                   have GW305 := n2_
                   have GE305 := n3_
                   have NB302_305 := n4_
                   have NB305_302 := n5_
                   have HB := n6_
                   clear n0_ n1_ n2_ n3_ n4_ n5_ n6_
                   have hHeld := trivial
                   refine norm_ (a' := ?_) ?_ ?_
                   rotate_left
                   ·simp only [putAll, Act.put, List.setIfInBounds_toArray, List.set_cons_zero, List.set_cons_succ]
                    rfl
                   refine one_ (i := 20) (N := none) #[true, true, true, true, true, true, true, true, true, true, true, true, true, true, true, true, true, true, true, true, true] rfl rfl (one_of HT_.out (by kernel_rfl)) (by decide) (fun K hK => ?_)
                   have hs37 : w36.cell? ⟨gb305, 0, none⟩ = some (.int .i64 0) := (blk_cell BK305.out 0).trans rfl
                   have hfs37 := blk_frozen BK305.out 0
                   have hns37_0 := NB302_305.out
                   have hms37_0 := NB305_302.out
                   have hs38 : w36.cell? ⟨gb305, 1, none⟩ = some (.int .i64 0) := (blk_cell BK305.out 1).trans rfl
                   have hfs38 := blk_frozen BK305.out 1
                   have hns38_0 := NB302_305.out
                   have hms38_0 := NB305_302.out
                   have hs39 : w36.cell? ⟨gb305, 2, none⟩ = some (.int .i64 0) := (blk_cell BK305.out 2).trans rfl
                   have hfs39 := blk_frozen BK305.out 2
                   have hns39_0 := NB302_305.out
                   have hms39_0 := NB305_302.out
                   have hs40 : w36.cell? ⟨gb305, 3, none⟩ = some (.string (⟨#[]⟩ : ByteArray)) := (blk_cell BK305.out 3).trans rfl
                   have hfs40 := blk_frozen BK305.out 3
                   have hns40_0 := NB302_305.out
                   have hms40_0 := NB305_302.out
                   have hs41 : w36.cell? ⟨gb305, 4, none⟩ = some (.bool false) := (blk_cell BK305.out 4).trans rfl
                   have hfs41 := blk_frozen BK305.out 4
                   have hns41_0 := NB302_305.out
                   have hms41_0 := NB305_302.out
                   have hs42 : w36.cell? ⟨gb305, 5, none⟩ = some (.int .u64 0) := (blk_cell BK305.out 5).trans rfl
                   have hfs42 := blk_frozen BK305.out 5
                   have hns42_0 := NB302_305.out
                   have hms42_0 := NB305_302.out
                   have hs43 : w36.cell? ⟨gb305, 6, none⟩ = some (.int .u64 0) := (blk_cell BK305.out 6).trans rfl
                   have hfs43 := blk_frozen BK305.out 6
                   have hns43_0 := NB302_305.out
                   have hms43_0 := NB305_302.out
                   have hs44 : w36.cell? ⟨gb305, 7, none⟩ = some (.bool false) := (blk_cell BK305.out 7).trans rfl
                   have hfs44 := blk_frozen BK305.out 7
                   have hns44_0 := NB302_305.out
                   have hms44_0 := NB305_302.out
                   have hs45 : w36.cell? ⟨gb305, 8, none⟩ = some (.int .u64 0) := (blk_cell BK305.out 8).trans rfl
                   have hfs45 := blk_frozen BK305.out 8
                   have hns45_0 := NB302_305.out
                   have hms45_0 := NB305_302.out
                   have hs46 : w36.cell? ⟨gb305, 9, none⟩ = some (.int .u64 0) := (blk_cell BK305.out 9).trans rfl
                   have hfs46 := blk_frozen BK305.out 9
                   have hns46_0 := NB302_305.out
                   have hms46_0 := NB305_302.out
                   have hs47 : w36.cell? ⟨gb305, 10, none⟩ = some (.bool false) := (blk_cell BK305.out 10).trans rfl
                   have hfs47 := blk_frozen BK305.out 10
                   have hns47_0 := NB302_305.out
                   have hms47_0 := NB305_302.out
                   have hs48 : w36.cell? ⟨gb305, 11, none⟩ = some (.int .u64 0) := (blk_cell BK305.out 11).trans rfl
                   have hfs48 := blk_frozen BK305.out 11
                   have hns48_0 := NB302_305.out
                   have hms48_0 := NB305_302.out
                   have hs49 : w36.cell? ⟨gb305, 12, none⟩ = some (.int .u64 0) := (blk_cell BK305.out 12).trans rfl
                   have hfs49 := blk_frozen BK305.out 12
                   have hns49_0 := NB302_305.out
                   have hms49_0 := NB305_302.out
                   have hs50 : w36.cell? ⟨gb305, 13, none⟩ = some (.bool false) := (blk_cell BK305.out 13).trans rfl
                   have hfs50 := blk_frozen BK305.out 13
                   have hns50_0 := NB302_305.out
                   have hms50_0 := NB305_302.out
                   have hs51 : w36.cell? ⟨gb305, 14, none⟩ = some (.slice none 0 0) := (blk_cell BK305.out 14).trans rfl
                   have hfs51 := blk_frozen BK305.out 14
                   have hns51_0 := NB302_305.out
                   have hms51_0 := NB305_302.out
                   refine skip_ (w1 := ?_) (by rfl) rfl ?_ ?_
                   rotate_left
                   ·go_simp
                    rfl
                   refine hK.out _ _ trivial (fun hHeld => ?_)
                   clear hK K
                   refine done_ (done_of HT_.out (by kernel_rfl)) ?_
                   go_upto_region 8 with (first | ((with_reducible refine gate_callee (f := 50) rfl ?_); refine goesL_ (some 43) rfl rfl Tryd.func50 (by kernel_rfl) rfl #[.string (a0.extract 8 12)] rfl (by (try simp only [List.map_toArray, List.map_cons, List.map_nil]); first | done | rfl | (simp only [List.length_drop, List.length_take]; rfl)) ?_; (with_reducible refine (addr_Read.calls kj1 (a0.extract 8 12) t306 t307 t308 t309 _ A25.out).mono ?_); rintro e w52 ⟨rfl, hb⟩; refine ⟨_, rfl, ?_⟩; have n0_ := Aside0.mk (blk_below (bkx BK302.out) hb); have n1_ := Aside0.mk (blk_below (g := gb305) (o := .cells #[.int .i64 (wrap64 (bt a0 1)), .int .i64 t303, .int .i64 t304, .string (a0.extract 22 ((wrap64 (22 + (wrap64 (bt a0 21)))) : Int).toNat), .bool false, .int .u64 0, .int .u64 0, .bool false, .int .u64 0, .int .u64 0, .bool false, .int .u64 0, .int .u64 0, .bool ((bt a0 20) == 1), .slice none 0 0] 27 (0, 0)) (by (with_reducible repeat (first | refine blk_drewN ?_ _ | refine blk_drew ?_ | refine blk_alloc ?_ _)); refine blk_put (cs := #[.int .i64 (wrap64 (bt a0 1)), .int .i64 t303, .int .i64 t304, .string (a0.extract 22 ((wrap64 (22 + (wrap64 (bt a0 21)))) : Int).toNat), .bool false, .int .u64 0, .int .u64 0, .bool false, .int .u64 0, .int .u64 0, .bool false, .int .u64 0, .int .u64 0, .bool ((bt a0 20) == 1), .slice none 0 0]) ?_ 14 _ rfl; (with_reducible repeat (first | refine blk_drewN ?_ _ | refine blk_drew ?_ | refine blk_alloc ?_ _)); refine blk_put (cs := #[.int .i64 (wrap64 (bt a0 1)), .int .i64 t303, .int .i64 t304, .string (a0.extract 22 ((wrap64 (22 + (wrap64 (bt a0 21)))) : Int).toNat), .bool false, .int .u64 0, .int .u64 0, .bool false, .int .u64 0, .int .u64 0, .bool false, .int .u64 0, .int .u64 0, .bool false, .slice none 0 0]) ?_ 13 _ rfl; (with_reducible repeat (first | refine blk_drewN ?_ _ | refine blk_drew ?_ | refine blk_alloc ?_ _)); refine blk_put (cs := #[.int .i64 (wrap64 (bt a0 1)), .int .i64 t303, .int .i64 t304, .string (a0.extract 22 ((wrap64 (22 + (wrap64 (bt a0 21)))) : Int).toNat), .bool false, .int .u64 0, .int .u64 0, .bool false, .int .u64 0, .int .u64 0, .bool false, .int .u64 0, .int .u64 0, .bool false, .slice none 0 0]) ?_ 12 _ rfl; (with_reducible repeat (first | refine blk_drewN ?_ _ | refine blk_drew ?_ | refine blk_alloc ?_ _)); refine blk_put (cs := #[.int .i64 (wrap64 (bt a0 1)), .int .i64 t303, .int .i64 t304, .string (a0.extract 22 ((wrap64 (22 + (wrap64 (bt a0 21)))) : Int).toNat), .bool false, .int .u64 0, .int .u64 0, .bool false, .int .u64 0, .int .u64 0, .bool false, .int .u64 0, .int .u64 0, .bool false, .slice none 0 0]) ?_ 11 _ rfl; (with_reducible repeat (first | refine blk_drewN ?_ _ | refine blk_drew ?_ | refine blk_alloc ?_ _)); refine blk_put (cs := #[.int .i64 (wrap64 (bt a0 1)), .int .i64 t303, .int .i64 t304, .string (a0.extract 22 ((wrap64 (22 + (wrap64 (bt a0 21)))) : Int).toNat), .bool false, .int .u64 0, .int .u64 0, .bool false, .int .u64 0, .int .u64 0, .bool false, .int .u64 0, .int .u64 0, .bool false, .slice none 0 0]) ?_ 10 _ rfl; (with_reducible repeat (first | refine blk_drewN ?_ _ | refine blk_drew ?_ | refine blk_alloc ?_ _)); refine blk_put (cs := #[.int .i64 (wrap64 (bt a0 1)), .int .i64 t303, .int .i64 t304, .string (a0.extract 22 ((wrap64 (22 + (wrap64 (bt a0 21)))) : Int).toNat), .bool false, .int .u64 0, .int .u64 0, .bool false, .int .u64 0, .int .u64 0, .bool false, .int .u64 0, .int .u64 0, .bool false, .slice none 0 0]) ?_ 9 _ rfl; (with_reducible repeat (first | refine blk_drewN ?_ _ | refine blk_drew ?_ | refine blk_alloc ?_ _)); refine blk_put (cs := #[.int .i64 (wrap64 (bt a0 1)), .int .i64 t303, .int .i64 t304, .string (a0.extract 22 ((wrap64 (22 + (wrap64 (bt a0 21)))) : Int).toNat), .bool false, .int .u64 0, .int .u64 0, .bool false, .int .u64 0, .int .u64 0, .bool false, .int .u64 0, .int .u64 0, .bool false, .slice none 0 0]) ?_ 8 _ rfl; (with_reducible repeat (first | refine blk_drewN ?_ _ | refine blk_drew ?_ | refine blk_alloc ?_ _)); refine blk_put (cs := #[.int .i64 (wrap64 (bt a0 1)), .int .i64 t303, .int .i64 t304, .string (a0.extract 22 ((wrap64 (22 + (wrap64 (bt a0 21)))) : Int).toNat), .bool false, .int .u64 0, .int .u64 0, .bool false, .int .u64 0, .int .u64 0, .bool false, .int .u64 0, .int .u64 0, .bool false, .slice none 0 0]) ?_ 7 _ rfl; (with_reducible repeat (first | refine blk_drewN ?_ _ | refine blk_drew ?_ | refine blk_alloc ?_ _)); refine blk_put (cs := #[.int .i64 (wrap64 (bt a0 1)), .int .i64 t303, .int .i64 t304, .string (a0.extract 22 ((wrap64 (22 + (wrap64 (bt a0 21)))) : Int).toNat), .bool false, .int .u64 0, .int .u64 0, .bool false, .int .u64 0, .int .u64 0, .bool false, .int .u64 0, .int .u64 0, .bool false, .slice none 0 0]) ?_ 6 _ rfl; (with_reducible repeat (first | refine blk_drewN ?_ _ | refine blk_drew ?_ | refine blk_alloc ?_ _)); refine blk_put (cs := #[.int .i64 (wrap64 (bt a0 1)), .int .i64 t303, .int .i64 t304, .string (a0.extract 22 ((wrap64 (22 + (wrap64 (bt a0 21)))) : Int).toNat), .bool false, .int .u64 0, .int .u64 0, .bool false, .int .u64 0, .int .u64 0, .bool false, .int .u64 0, .int .u64 0, .bool false, .slice none 0 0]) ?_ 5 _ rfl; (with_reducible repeat (first | refine blk_drewN ?_ _ | refine blk_drew ?_ | refine blk_alloc ?_ _)); refine blk_put (cs := #[.int .i64 (wrap64 (bt a0 1)), .int .i64 t303, .int .i64 t304, .string (a0.extract 22 ((wrap64 (22 + (wrap64 (bt a0 21)))) : Int).toNat), .bool false, .int .u64 0, .int .u64 0, .bool false, .int .u64 0, .int .u64 0, .bool false, .int .u64 0, .int .u64 0, .bool false, .slice none 0 0]) ?_ 4 _ rfl; (with_reducible repeat (first | refine blk_drewN ?_ _ | refine blk_drew ?_ | refine blk_alloc ?_ _)); refine blk_put (cs := #[.int .i64 (wrap64 (bt a0 1)), .int .i64 t303, .int .i64 t304, .string (⟨#[]⟩ : ByteArray), .bool false, .int .u64 0, .int .u64 0, .bool false, .int .u64 0, .int .u64 0, .bool false, .int .u64 0, .int .u64 0, .bool false, .slice none 0 0]) ?_ 3 _ rfl; (with_reducible repeat (first | refine blk_drewN ?_ _ | refine blk_drew ?_ | refine blk_alloc ?_ _)); refine blk_put (cs := #[.int .i64 (wrap64 (bt a0 1)), .int .i64 t303, .int .i64 0, .string (⟨#[]⟩ : ByteArray), .bool false, .int .u64 0, .int .u64 0, .bool false, .int .u64 0, .int .u64 0, .bool false, .int .u64 0, .int .u64 0, .bool false, .slice none 0 0]) ?_ 2 _ rfl; (with_reducible repeat (first | refine blk_drewN ?_ _ | refine blk_drew ?_ | refine blk_alloc ?_ _)); refine blk_put (cs := #[.int .i64 (wrap64 (bt a0 1)), .int .i64 0, .int .i64 0, .string (⟨#[]⟩ : ByteArray), .bool false, .int .u64 0, .int .u64 0, .bool false, .int .u64 0, .int .u64 0, .bool false, .int .u64 0, .int .u64 0, .bool false, .slice none 0 0]) ?_ 1 _ rfl; (with_reducible repeat (first | refine blk_drewN ?_ _ | refine blk_drew ?_ | refine blk_alloc ?_ _)); refine blk_put (cs := #[.int .i64 0, .int .i64 0, .int .i64 0, .string (⟨#[]⟩ : ByteArray), .bool false, .int .u64 0, .int .u64 0, .bool false, .int .u64 0, .int .u64 0, .bool false, .int .u64 0, .int .u64 0, .bool false, .slice none 0 0]) ?_ 0 _ rfl; (with_reducible repeat (first | refine blk_drewN ?_ _ | refine blk_drew ?_ | refine blk_alloc ?_ _)); exact BK305.out) hb); have n2_ := Aside0.mk (below_step (hbx HB.out) hb); clear BK302; clear BK305; clear HB; have BK302 := n0_; have BK305 := n1_; have HB := n2_; clear n0_ n1_ n2_; (try clear hb); (try clear hb2); (try clear hk); (try clear hi); have hnb53 := NB305_302.out; have hnc53 := NB302_305.out; obtain ⟨⟨hcz54_0, hcz54_1, hcz54_2, hcz54_3, hcz54_4, hcz54_5, hcz54_6, hcz54_7, hcz54_8, hcz54_9, hcz54_10, hcz54_11, hcz54_12, hcz54_13, hcz54_14⟩, hfz54_0, hfz54_1, hfz54_2, hfz54_3, hfz54_4, hfz54_5, hfz54_6, hfz54_7, hfz54_8, hfz54_9, hfz54_10, hfz54_11, hfz54_12, hfz54_13, hfz54_14⟩ := cf15 BK305.out) | ((with_reducible refine gate_callee (f := 50) rfl ?_); refine goesL_ (some 50) rfl rfl Tryd.func50 (by kernel_rfl) rfl #[.string (a0.extract 12 16)] rfl (by (try simp only [List.map_toArray, List.map_cons, List.map_nil]); first | done | rfl | (simp only [List.length_drop, List.length_take]; rfl)) ?_; (with_reducible refine (addr_Read.calls kj1 (a0.extract 12 16) t310 t311 t312 t313 _ A28.out).mono ?_); rintro e w55 ⟨rfl, hb⟩; refine ⟨_, rfl, ?_⟩; have n0_ := Aside0.mk (blk_below (bkx BK302.out) hb); have n1_ := Aside0.mk (blk_below (g := gb305) (o := .cells #[.int .i64 (wrap64 (bt a0 1)), .int .i64 t303, .int .i64 t304, .string (a0.extract 22 ((wrap64 (22 + (wrap64 (bt a0 21)))) : Int).toNat), .bool t306, .int .u64 t307, .int .u64 t308, .bool false, .int .u64 0, .int .u64 0, .bool false, .int .u64 0, .int .u64 0, .bool ((bt a0 20) == 1), .slice none 0 0] 27 (0, 0)) (by (with_reducible repeat (first | refine blk_drewN ?_ _ | refine blk_drew ?_ | refine blk_alloc ?_ _)); refine blk_put (cs := #[.int .i64 (wrap64 (bt a0 1)), .int .i64 t303, .int .i64 t304, .string (a0.extract 22 ((wrap64 (22 + (wrap64 (bt a0 21)))) : Int).toNat), .bool t306, .int .u64 t307, .int .u64 0, .bool false, .int .u64 0, .int .u64 0, .bool false, .int .u64 0, .int .u64 0, .bool ((bt a0 20) == 1), .slice none 0 0]) ?_ 6 _ rfl; (with_reducible repeat (first | refine blk_drewN ?_ _ | refine blk_drew ?_ | refine blk_alloc ?_ _)); refine blk_put (cs := #[.int .i64 (wrap64 (bt a0 1)), .int .i64 t303, .int .i64 t304, .string (a0.extract 22 ((wrap64 (22 + (wrap64 (bt a0 21)))) : Int).toNat), .bool t306, .int .u64 0, .int .u64 0, .bool false, .int .u64 0, .int .u64 0, .bool false, .int .u64 0, .int .u64 0, .bool ((bt a0 20) == 1), .slice none 0 0]) ?_ 5 _ rfl; (with_reducible repeat (first | refine blk_drewN ?_ _ | refine blk_drew ?_ | refine blk_alloc ?_ _)); refine blk_put (cs := #[.int .i64 (wrap64 (bt a0 1)), .int .i64 t303, .int .i64 t304, .string (a0.extract 22 ((wrap64 (22 + (wrap64 (bt a0 21)))) : Int).toNat), .bool false, .int .u64 0, .int .u64 0, .bool false, .int .u64 0, .int .u64 0, .bool false, .int .u64 0, .int .u64 0, .bool ((bt a0 20) == 1), .slice none 0 0]) ?_ 4 _ rfl; (with_reducible repeat (first | refine blk_drewN ?_ _ | refine blk_drew ?_ | refine blk_alloc ?_ _)); exact BK305.out) hb); have n2_ := Aside0.mk (below_step (hbx HB.out) hb); clear BK302; clear BK305; clear HB; have BK302 := n0_; have BK305 := n1_; have HB := n2_; clear n0_ n1_ n2_; (try clear hb); (try clear hb2); (try clear hk); (try clear hi); obtain ⟨⟨hcz56_0, hcz56_1, hcz56_2, hcz56_3, hcz56_4, hcz56_5, hcz56_6, hcz56_7, hcz56_8, hcz56_9, hcz56_10, hcz56_11, hcz56_12, hcz56_13, hcz56_14⟩, hfz56_0, hfz56_1, hfz56_2, hfz56_3, hfz56_4, hfz56_5, hfz56_6, hfz56_7, hfz56_8, hfz56_9, hfz56_10, hfz56_11, hfz56_12, hfz56_13, hfz56_14⟩ := cf15 BK305.out) | ((with_reducible refine gate_callee (f := 50) rfl ?_); refine goesL_ (some 57) rfl rfl Tryd.func50 (by kernel_rfl) rfl #[.string (a0.extract 16 20)] rfl (by (try simp only [List.map_toArray, List.map_cons, List.map_nil]); first | done | rfl | (simp only [List.length_drop, List.length_take]; rfl)) ?_; (with_reducible refine (addr_Read.calls kj1 (a0.extract 16 20) t314 t315 t316 t317 _ A31.out).mono ?_); rintro e w57 ⟨rfl, hb⟩; refine ⟨_, rfl, ?_⟩; have n0_ := Aside0.mk (blk_below (bkx BK302.out) hb); have n1_ := Aside0.mk (blk_below (g := gb305) (o := .cells #[.int .i64 (wrap64 (bt a0 1)), .int .i64 t303, .int .i64 t304, .string (a0.extract 22 ((wrap64 (22 + (wrap64 (bt a0 21)))) : Int).toNat), .bool t306, .int .u64 t307, .int .u64 t308, .bool t310, .int .u64 t311, .int .u64 t312, .bool false, .int .u64 0, .int .u64 0, .bool ((bt a0 20) == 1), .slice none 0 0] 27 (0, 0)) (by (with_reducible repeat (first | refine blk_drewN ?_ _ | refine blk_drew ?_ | refine blk_alloc ?_ _)); refine blk_put (cs := #[.int .i64 (wrap64 (bt a0 1)), .int .i64 t303, .int .i64 t304, .string (a0.extract 22 ((wrap64 (22 + (wrap64 (bt a0 21)))) : Int).toNat), .bool t306, .int .u64 t307, .int .u64 t308, .bool t310, .int .u64 t311, .int .u64 0, .bool false, .int .u64 0, .int .u64 0, .bool ((bt a0 20) == 1), .slice none 0 0]) ?_ 9 _ rfl; (with_reducible repeat (first | refine blk_drewN ?_ _ | refine blk_drew ?_ | refine blk_alloc ?_ _)); refine blk_put (cs := #[.int .i64 (wrap64 (bt a0 1)), .int .i64 t303, .int .i64 t304, .string (a0.extract 22 ((wrap64 (22 + (wrap64 (bt a0 21)))) : Int).toNat), .bool t306, .int .u64 t307, .int .u64 t308, .bool t310, .int .u64 0, .int .u64 0, .bool false, .int .u64 0, .int .u64 0, .bool ((bt a0 20) == 1), .slice none 0 0]) ?_ 8 _ rfl; (with_reducible repeat (first | refine blk_drewN ?_ _ | refine blk_drew ?_ | refine blk_alloc ?_ _)); refine blk_put (cs := #[.int .i64 (wrap64 (bt a0 1)), .int .i64 t303, .int .i64 t304, .string (a0.extract 22 ((wrap64 (22 + (wrap64 (bt a0 21)))) : Int).toNat), .bool t306, .int .u64 t307, .int .u64 t308, .bool false, .int .u64 0, .int .u64 0, .bool false, .int .u64 0, .int .u64 0, .bool ((bt a0 20) == 1), .slice none 0 0]) ?_ 7 _ rfl; (with_reducible repeat (first | refine blk_drewN ?_ _ | refine blk_drew ?_ | refine blk_alloc ?_ _)); exact BK305.out) hb); have n2_ := Aside0.mk (below_step (hbx HB.out) hb); clear BK302; clear BK305; clear HB; have BK302 := n0_; have BK305 := n1_; have HB := n2_; clear n0_ n1_ n2_; (try clear hb); (try clear hb2); (try clear hk); (try clear hi); obtain ⟨⟨hcz58_0, hcz58_1, hcz58_2, hcz58_3, hcz58_4, hcz58_5, hcz58_6, hcz58_7, hcz58_8, hcz58_9, hcz58_10, hcz58_11, hcz58_12, hcz58_13, hcz58_14⟩, hfz58_0, hfz58_1, hfz58_2, hfz58_3, hfz58_4, hfz58_5, hfz58_6, hfz58_7, hfz58_8, hfz58_9, hfz58_10, hfz58_11, hfz58_12, hfz58_13, hfz58_14⟩ := cf15 BK305.out) | ((with_reducible refine gate_callee (f := 38) rfl ?_); refine goesL_ (some 63) rfl rfl Tryd.func38 (by kernel_rfl) rfl #[.int .i64 (wrap64 (bt a0 1))] rfl (by (try simp only [List.map_toArray, List.map_cons, List.map_nil]); first | done | rfl | (simp only [List.length_drop, List.length_take]; rfl)) ?_; (with_reducible refine (dhcp_operation.calls kj1 (wrap64 (bt a0 1)) t318 _ A32.out).mono ?_); rintro e w' ⟨rfl, ⟨nd, rfl⟩⟩; refine ⟨_, rfl, ?_⟩))
                   (try simp only [Act.put, List.setIfInBounds_toArray, List.set_cons_zero, List.set_cons_succ])
                   go_cut [93] (fun v93 wc => ∃ (kq : Nat) (x93_32 : Bool), v93 = .bool x93_32 ∧ Aside0 (dhcp_Decode.j1 kq a0 x93_32 (wrap64 (bt a0 1)) t303 t304 (a0.extract 22 ((wrap64 (22 + (wrap64 (bt a0 21)))) : Int).toNat) t306 t307 t308 t310 t311 t312 t314 t315 t316 ((bt a0 20) == 1) = some (r1, r2, r3, r4, r5, r6, r7, r8, r9, r10, r11, r12, r13, r14, r15, r16)) ∧ Aside0 (kq ≤ kj1) ∧ Aside0 (wc.heap[gb302]? = some (.cells #[.int .i64 0, .int .i64 0, .int .i64 0, .string (⟨#[]⟩ : ByteArray), .bool false, .int .u64 0, .int .u64 0, .bool false, .int .u64 0, .int .u64 0, .bool false, .int .u64 0, .int .u64 0, .bool false, (.slice none 0 0)] 27 (0, 0))) ∧ Aside0 (wc.heap[gb305]? = some (.cells #[.int .i64 (wrap64 (bt a0 1)), .int .i64 t303, .int .i64 t304, .string (a0.extract 22 ((wrap64 (22 + (wrap64 (bt a0 21)))) : Int).toNat), .bool t306, .int .u64 t307, .int .u64 t308, .bool t310, .int .u64 t311, .int .u64 t312, .bool t314, .int .u64 t315, .int .u64 t316, .bool ((bt a0 20) == 1), (.slice none 0 0)] 27 (0, 0))) ∧ Aside0 (Below w.heap.size w wc))
                   case first =>
                    have H := HC33.out
                    clear HC33
                    by_cases c59 : t318 = 0
                    ·rw [if_pos c59] at H
                     have c59b0 : (t318 == 0) = true := beq_iff_eq.mpr c59
                     have c59b1 : (t318 != 0) = false := bne_eq_false_iff_eq.mpr c59
                     clear c59
                     (first | rw [c59b0] | (simp only [i64_w, i32_w]; rw [c59b0]) | skip)
                     have H' := Aside0.mk H
                     clear H
                     go_wp2
                     go_meet
                     case rel => exact ⟨_, (true), (by first | rfl | (simp; done) | (simp [*]; done)), H', ⟨by have := HJ1.out; first | omega | exact Nat.le_refl _⟩, ⟨bkx BK302.out⟩, ⟨by (with_reducible repeat (first | refine blk_drewN ?_ _ | refine blk_drew ?_ | refine blk_alloc ?_ _)); refine blk_put (cs := #[.int .i64 (wrap64 (bt a0 1)), .int .i64 t303, .int .i64 t304, .string (a0.extract 22 ((wrap64 (22 + (wrap64 (bt a0 21)))) : Int).toNat), .bool t306, .int .u64 t307, .int .u64 t308, .bool t310, .int .u64 t311, .int .u64 t312, .bool t314, .int .u64 t315, .int .u64 0, .bool ((bt a0 20) == 1), .slice none 0 0]) ?_ 12 _ rfl; (with_reducible repeat (first | refine blk_drewN ?_ _ | refine blk_drew ?_ | refine blk_alloc ?_ _)); refine blk_put (cs := #[.int .i64 (wrap64 (bt a0 1)), .int .i64 t303, .int .i64 t304, .string (a0.extract 22 ((wrap64 (22 + (wrap64 (bt a0 21)))) : Int).toNat), .bool t306, .int .u64 t307, .int .u64 t308, .bool t310, .int .u64 t311, .int .u64 t312, .bool t314, .int .u64 0, .int .u64 0, .bool ((bt a0 20) == 1), .slice none 0 0]) ?_ 11 _ rfl; (with_reducible repeat (first | refine blk_drewN ?_ _ | refine blk_drew ?_ | refine blk_alloc ?_ _)); refine blk_put (cs := #[.int .i64 (wrap64 (bt a0 1)), .int .i64 t303, .int .i64 t304, .string (a0.extract 22 ((wrap64 (22 + (wrap64 (bt a0 21)))) : Int).toNat), .bool t306, .int .u64 t307, .int .u64 t308, .bool t310, .int .u64 t311, .int .u64 t312, .bool false, .int .u64 0, .int .u64 0, .bool ((bt a0 20) == 1), .slice none 0 0]) ?_ 10 _ rfl; (with_reducible repeat (first | refine blk_drewN ?_ _ | refine blk_drew ?_ | refine blk_alloc ?_ _)); exact BK305.out⟩, ⟨hbx HB.out⟩⟩
                    ·rw [if_neg c59] at H
                     have c59b0 : (t318 == 0) = false := beq_eq_false_iff_ne.mpr c59
                     have c59b1 : (t318 != 0) = true := bne_iff_ne.mpr c59
                     (first | rw [c59b0] | (simp only [i64_w, i32_w]; rw [c59b0]) | skip)
                     by_cases c60 : 0 < (a0.size : Int)
                     ·rw [if_pos c60] at H
                      have c60b0 : decide (0 < (a0.size : Int)) = true := decide_eq_true c60
                      have c60b1 : decide (0 < a0.size) = true := decide_eq_true (by omega)
                      clear c60
                      by_cases c62 : (bt a0 0) = t318
                      ·rw [if_pos c62] at H
                       have c62b0 : ((bt a0 0) == t318) = true := beq_iff_eq.mpr c62
                       have c62b1 : ((bt a0 0) != t318) = false := bne_eq_false_iff_eq.mpr c62
                       clear c62
                       by_cases c64 : (bt a0 20) > 1
                       ·rw [if_pos c64] at H
                        have c64b0 : decide (1 < (bt a0 20)) = true := decide_eq_true c64
                        clear c64
                        have H' := Aside0.mk H
                        clear H
                        have p61 : 0 ≤ (0 : Int) := (by omega)
                        have q61 : 0 < a0.size := (by have : (0 : Int) < (a0.size : Int) := of_decide_eq_true (by first | (with_reducible assumption) | assumption); omega)
                        have hx61 : ∀ h : 0 < a0.size, ((a0[0]'h).toNat : Int) = bt a0 0 := bt_at a0 0
                        clear p61
                        have qi61 : (0 < (a0.size : Int)) = True := eq_true (of_decide_eq_true (by first | (with_reducible assumption) | assumption))
                        replace q61 := eq_true q61
                        have p63 : 0 ≤ (20 : Int) := (by omega)
                        have q63 : 20 < a0.size := (by have : (20 : Int) < (a0.size : Int) := of_decide_eq_true (by first | (with_reducible assumption) | assumption); omega)
                        have hx63 : ∀ h : 20 < a0.size, ((a0[20]'h).toNat : Int) = bt a0 20 := bt_at a0 20
                        clear p63
                        have qi63 : (20 < (a0.size : Int)) = True := eq_true (of_decide_eq_true (by first | (with_reducible assumption) | assumption))
                        replace q63 := eq_true q63
                        go_wp2
                        go_meet
                        case rel => exact ⟨_, (true), (by first | rfl | (simp; done) | (simp [*]; done)), H', ⟨by have := HJ1.out; first | omega | exact Nat.le_refl _⟩, ⟨bkx BK302.out⟩, ⟨by (with_reducible repeat (first | refine blk_drewN ?_ _ | refine blk_drew ?_ | refine blk_alloc ?_ _)); refine blk_put (cs := #[.int .i64 (wrap64 (bt a0 1)), .int .i64 t303, .int .i64 t304, .string (a0.extract 22 ((wrap64 (22 + (wrap64 (bt a0 21)))) : Int).toNat), .bool t306, .int .u64 t307, .int .u64 t308, .bool t310, .int .u64 t311, .int .u64 t312, .bool t314, .int .u64 t315, .int .u64 0, .bool ((bt a0 20) == 1), .slice none 0 0]) ?_ 12 _ rfl; (with_reducible repeat (first | refine blk_drewN ?_ _ | refine blk_drew ?_ | refine blk_alloc ?_ _)); refine blk_put (cs := #[.int .i64 (wrap64 (bt a0 1)), .int .i64 t303, .int .i64 t304, .string (a0.extract 22 ((wrap64 (22 + (wrap64 (bt a0 21)))) : Int).toNat), .bool t306, .int .u64 t307, .int .u64 t308, .bool t310, .int .u64 t311, .int .u64 t312, .bool t314, .int .u64 0, .int .u64 0, .bool ((bt a0 20) == 1), .slice none 0 0]) ?_ 11 _ rfl; (with_reducible repeat (first | refine blk_drewN ?_ _ | refine blk_drew ?_ | refine blk_alloc ?_ _)); refine blk_put (cs := #[.int .i64 (wrap64 (bt a0 1)), .int .i64 t303, .int .i64 t304, .string (a0.extract 22 ((wrap64 (22 + (wrap64 (bt a0 21)))) : Int).toNat), .bool t306, .int .u64 t307, .int .u64 t308, .bool t310, .int .u64 t311, .int .u64 t312, .bool false, .int .u64 0, .int .u64 0, .bool ((bt a0 20) == 1), .slice none 0 0]) ?_ 10 _ rfl; (with_reducible repeat (first | refine blk_drewN ?_ _ | refine blk_drew ?_ | refine blk_alloc ?_ _)); exact BK305.out⟩, ⟨hbx HB.out⟩⟩
                       ·rw [if_neg c64] at H
                        have c64b0 : decide (1 < (bt a0 20)) = false := decide_eq_false c64
                        clear c64
                        by_cases c65 : ((bt a0 20) = 1)
                        ·rw [if_pos c65] at H
                         have c65b0 : ((bt a0 20) == 1) = true := beq_iff_eq.mpr c65
                         have c65b1 : ((bt a0 20) != 1) = false := bne_eq_false_iff_eq.mpr c65
                         clear c65
                         replace H := Option.bind_eq_some_iff.mp H
                         obtain ⟨t319, A660, H⟩ := H
                         (try dsimp only at H)
                         have A66 := Aside0.mk A660
                         clear A660
                         have H' := Aside0.mk H
                         clear H
                         have p61 : 0 ≤ (0 : Int) := (by omega)
                         have q61 : 0 < a0.size := (by have : (0 : Int) < (a0.size : Int) := of_decide_eq_true (by first | (with_reducible assumption) | assumption); omega)
                         have hx61 : ∀ h : 0 < a0.size, ((a0[0]'h).toNat : Int) = bt a0 0 := bt_at a0 0
                         clear p61
                         have qi61 : (0 < (a0.size : Int)) = True := eq_true (of_decide_eq_true (by first | (with_reducible assumption) | assumption))
                         replace q61 := eq_true q61
                         have p63 : 0 ≤ (20 : Int) := (by omega)
                         have q63 : 20 < a0.size := (by have : (20 : Int) < (a0.size : Int) := of_decide_eq_true (by first | (with_reducible assumption) | assumption); omega)
                         have hx63 : ∀ h : 20 < a0.size, ((a0[20]'h).toNat : Int) = bt a0 20 := bt_at a0 20
                         clear p63
                         have qi63 : (20 < (a0.size : Int)) = True := eq_true (of_decide_eq_true (by first | (with_reducible assumption) | assumption))
                         replace q63 := eq_true q63
                         have hnb67 := NB305_302.out
                         have hnc67 := NB302_305.out
                         obtain ⟨⟨hcz68_0, hcz68_1, hcz68_2, hcz68_3, hcz68_4, hcz68_5, hcz68_6, hcz68_7, hcz68_8, hcz68_9, hcz68_10, hcz68_11, hcz68_12, hcz68_13, hcz68_14⟩, hfz68_0, hfz68_1, hfz68_2, hfz68_3, hfz68_4, hfz68_5, hfz68_6, hfz68_7, hfz68_8, hfz68_9, hfz68_10, hfz68_11, hfz68_12, hfz68_13, hfz68_14⟩ := cf15 BK305.out
                         go_wp2_with (first | (go_at_call 39; (with_reducible refine (dhcp_client.calls kj1 (a0.extract 22 ((wrap64 (22 + (wrap64 (bt a0 21)))) : Int).toNat) t319 _ A66.out).mono ?_); rintro e w' ⟨rfl, ⟨nd, rfl⟩⟩))
                         go_meet
                         case rel => exact ⟨_, (!t319), (by first | rfl | (simp; done) | (simp [*]; done)), H', ⟨by have := HJ1.out; first | omega | exact Nat.le_refl _⟩, ⟨bkx BK302.out⟩, ⟨by (with_reducible repeat (first | refine blk_drewN ?_ _ | refine blk_drew ?_ | refine blk_alloc ?_ _)); refine blk_put (cs := #[.int .i64 (wrap64 (bt a0 1)), .int .i64 t303, .int .i64 t304, .string (a0.extract 22 ((wrap64 (22 + (wrap64 (bt a0 21)))) : Int).toNat), .bool t306, .int .u64 t307, .int .u64 t308, .bool t310, .int .u64 t311, .int .u64 t312, .bool t314, .int .u64 t315, .int .u64 0, .bool ((bt a0 20) == 1), .slice none 0 0]) ?_ 12 _ rfl; (with_reducible repeat (first | refine blk_drewN ?_ _ | refine blk_drew ?_ | refine blk_alloc ?_ _)); refine blk_put (cs := #[.int .i64 (wrap64 (bt a0 1)), .int .i64 t303, .int .i64 t304, .string (a0.extract 22 ((wrap64 (22 + (wrap64 (bt a0 21)))) : Int).toNat), .bool t306, .int .u64 t307, .int .u64 t308, .bool t310, .int .u64 t311, .int .u64 t312, .bool t314, .int .u64 0, .int .u64 0, .bool ((bt a0 20) == 1), .slice none 0 0]) ?_ 11 _ rfl; (with_reducible repeat (first | refine blk_drewN ?_ _ | refine blk_drew ?_ | refine blk_alloc ?_ _)); refine blk_put (cs := #[.int .i64 (wrap64 (bt a0 1)), .int .i64 t303, .int .i64 t304, .string (a0.extract 22 ((wrap64 (22 + (wrap64 (bt a0 21)))) : Int).toNat), .bool t306, .int .u64 t307, .int .u64 t308, .bool t310, .int .u64 t311, .int .u64 t312, .bool false, .int .u64 0, .int .u64 0, .bool ((bt a0 20) == 1), .slice none 0 0]) ?_ 10 _ rfl; (with_reducible repeat (first | refine blk_drewN ?_ _ | refine blk_drew ?_ | refine blk_alloc ?_ _)); exact BK305.out⟩, ⟨hbx HB.out⟩⟩
                        ·rw [if_neg c65] at H
                         have c65b0 : ((bt a0 20) == 1) = false := beq_eq_false_iff_ne.mpr c65
                         have c65b1 : ((bt a0 20) != 1) = true := bne_iff_ne.mpr c65
                         by_cases c69 : (t314 || (!(t315 == 0) || (!(t316 == 0)))) = true
                         ·rw [if_pos c69] at H
                          have c69b0 : (t314 || (!(t315 == 0) || (!(t316 == 0)))) = true := c69
                          clear c69
                          have H' := Aside0.mk H
                          clear H
                          have p61 : 0 ≤ (0 : Int) := (by omega)
                          have q61 : 0 < a0.size := (by have : (0 : Int) < (a0.size : Int) := of_decide_eq_true (by first | (with_reducible assumption) | assumption); omega)
                          have hx61 : ∀ h : 0 < a0.size, ((a0[0]'h).toNat : Int) = bt a0 0 := bt_at a0 0
                          clear p61
                          have qi61 : (0 < (a0.size : Int)) = True := eq_true (of_decide_eq_true (by first | (with_reducible assumption) | assumption))
                          replace q61 := eq_true q61
                          have p63 : 0 ≤ (20 : Int) := (by omega)
                          have q63 : 20 < a0.size := (by have : (20 : Int) < (a0.size : Int) := of_decide_eq_true (by first | (with_reducible assumption) | assumption); omega)
                          have hx63 : ∀ h : 20 < a0.size, ((a0[20]'h).toNat : Int) = bt a0 20 := bt_at a0 20
                          clear p63
                          have qi63 : (20 < (a0.size : Int)) = True := eq_true (of_decide_eq_true (by first | (with_reducible assumption) | assumption))
                          replace q63 := eq_true q63
                          have hnb70 := NB305_302.out
                          have hnc70 := NB302_305.out
                          obtain ⟨⟨hcz71_0, hcz71_1, hcz71_2, hcz71_3, hcz71_4, hcz71_5, hcz71_6, hcz71_7, hcz71_8, hcz71_9, hcz71_10, hcz71_11, hcz71_12, hcz71_13, hcz71_14⟩, hfz71_0, hfz71_1, hfz71_2, hfz71_3, hfz71_4, hfz71_5, hfz71_6, hfz71_7, hfz71_8, hfz71_9, hfz71_10, hfz71_11, hfz71_12, hfz71_13, hfz71_14⟩ := cf15 BK305.out
                          go_wp2
                          go_meet
                          case rel => exact ⟨_, (true), (by first | rfl | (simp; done) | (simp [*]; done)), H', ⟨by have := HJ1.out; first | omega | exact Nat.le_refl _⟩, ⟨bkx BK302.out⟩, ⟨by (with_reducible repeat (first | refine blk_drewN ?_ _ | refine blk_drew ?_ | refine blk_alloc ?_ _)); refine blk_put (cs := #[.int .i64 (wrap64 (bt a0 1)), .int .i64 t303, .int .i64 t304, .string (a0.extract 22 ((wrap64 (22 + (wrap64 (bt a0 21)))) : Int).toNat), .bool t306, .int .u64 t307, .int .u64 t308, .bool t310, .int .u64 t311, .int .u64 t312, .bool t314, .int .u64 t315, .int .u64 0, .bool ((bt a0 20) == 1), .slice none 0 0]) ?_ 12 _ rfl; (with_reducible repeat (first | refine blk_drewN ?_ _ | refine blk_drew ?_ | refine blk_alloc ?_ _)); refine blk_put (cs := #[.int .i64 (wrap64 (bt a0 1)), .int .i64 t303, .int .i64 t304, .string (a0.extract 22 ((wrap64 (22 + (wrap64 (bt a0 21)))) : Int).toNat), .bool t306, .int .u64 t307, .int .u64 t308, .bool t310, .int .u64 t311, .int .u64 t312, .bool t314, .int .u64 0, .int .u64 0, .bool ((bt a0 20) == 1), .slice none 0 0]) ?_ 11 _ rfl; (with_reducible repeat (first | refine blk_drewN ?_ _ | refine blk_drew ?_ | refine blk_alloc ?_ _)); refine blk_put (cs := #[.int .i64 (wrap64 (bt a0 1)), .int .i64 t303, .int .i64 t304, .string (a0.extract 22 ((wrap64 (22 + (wrap64 (bt a0 21)))) : Int).toNat), .bool t306, .int .u64 t307, .int .u64 t308, .bool t310, .int .u64 t311, .int .u64 t312, .bool false, .int .u64 0, .int .u64 0, .bool ((bt a0 20) == 1), .slice none 0 0]) ?_ 10 _ rfl; (with_reducible repeat (first | refine blk_drewN ?_ _ | refine blk_drew ?_ | refine blk_alloc ?_ _)); exact BK305.out⟩, ⟨hbx HB.out⟩⟩
                         ·rw [if_neg c69] at H
                          have c69b0 : (t314 || (!(t315 == 0) || (!(t316 == 0)))) = false := by simpa using c69
                          clear c69
                          replace H := Option.bind_eq_some_iff.mp H
                          obtain ⟨t320, A720, H⟩ := H
                          (try dsimp only at H)
                          have A72 := Aside0.mk A720
                          clear A720
                          have H' := Aside0.mk H
                          clear H
                          have p61 : 0 ≤ (0 : Int) := (by omega)
                          have q61 : 0 < a0.size := (by have : (0 : Int) < (a0.size : Int) := of_decide_eq_true (by first | (with_reducible assumption) | assumption); omega)
                          have hx61 : ∀ h : 0 < a0.size, ((a0[0]'h).toNat : Int) = bt a0 0 := bt_at a0 0
                          clear p61
                          have qi61 : (0 < (a0.size : Int)) = True := eq_true (of_decide_eq_true (by first | (with_reducible assumption) | assumption))
                          replace q61 := eq_true q61
                          have p63 : 0 ≤ (20 : Int) := (by omega)
                          have q63 : 20 < a0.size := (by have : (20 : Int) < (a0.size : Int) := of_decide_eq_true (by first | (with_reducible assumption) | assumption); omega)
                          have hx63 : ∀ h : 20 < a0.size, ((a0[20]'h).toNat : Int) = bt a0 20 := bt_at a0 20
                          clear p63
                          have qi63 : (20 < (a0.size : Int)) = True := eq_true (of_decide_eq_true (by first | (with_reducible assumption) | assumption))
                          replace q63 := eq_true q63
                          have hnb73 := NB305_302.out
                          have hnc73 := NB302_305.out
                          obtain ⟨⟨hcz74_0, hcz74_1, hcz74_2, hcz74_3, hcz74_4, hcz74_5, hcz74_6, hcz74_7, hcz74_8, hcz74_9, hcz74_10, hcz74_11, hcz74_12, hcz74_13, hcz74_14⟩, hfz74_0, hfz74_1, hfz74_2, hfz74_3, hfz74_4, hfz74_5, hfz74_6, hfz74_7, hfz74_8, hfz74_9, hfz74_10, hfz74_11, hfz74_12, hfz74_13, hfz74_14⟩ := cf15 BK305.out
                          go_wp2_with (first | (go_at_call 39; (with_reducible refine (dhcp_client.calls kj1 (a0.extract 22 ((wrap64 (22 + (wrap64 (bt a0 21)))) : Int).toNat) t320 _ A72.out).mono ?_); rintro e w' ⟨rfl, ⟨nd, rfl⟩⟩))
                          go_meet
                          case rel => exact ⟨_, (!t320), (by first | rfl | (simp; done) | (simp [*]; done)), H', ⟨by have := HJ1.out; first | omega | exact Nat.le_refl _⟩, ⟨bkx BK302.out⟩, ⟨by (with_reducible repeat (first | refine blk_drewN ?_ _ | refine blk_drew ?_ | refine blk_alloc ?_ _)); refine blk_put (cs := #[.int .i64 (wrap64 (bt a0 1)), .int .i64 t303, .int .i64 t304, .string (a0.extract 22 ((wrap64 (22 + (wrap64 (bt a0 21)))) : Int).toNat), .bool t306, .int .u64 t307, .int .u64 t308, .bool t310, .int .u64 t311, .int .u64 t312, .bool t314, .int .u64 t315, .int .u64 0, .bool ((bt a0 20) == 1), .slice none 0 0]) ?_ 12 _ rfl; (with_reducible repeat (first | refine blk_drewN ?_ _ | refine blk_drew ?_ | refine blk_alloc ?_ _)); refine blk_put (cs := #[.int .i64 (wrap64 (bt a0 1)), .int .i64 t303, .int .i64 t304, .string (a0.extract 22 ((wrap64 (22 + (wrap64 (bt a0 21)))) : Int).toNat), .bool t306, .int .u64 t307, .int .u64 t308, .bool t310, .int .u64 t311, .int .u64 t312, .bool t314, .int .u64 0, .int .u64 0, .bool ((bt a0 20) == 1), .slice none 0 0]) ?_ 11 _ rfl; (with_reducible repeat (first | refine blk_drewN ?_ _ | refine blk_drew ?_ | refine blk_alloc ?_ _)); refine blk_put (cs := #[.int .i64 (wrap64 (bt a0 1)), .int .i64 t303, .int .i64 t304, .string (a0.extract 22 ((wrap64 (22 + (wrap64 (bt a0 21)))) : Int).toNat), .bool t306, .int .u64 t307, .int .u64 t308, .bool t310, .int .u64 t311, .int .u64 t312, .bool false, .int .u64 0, .int .u64 0, .bool ((bt a0 20) == 1), .slice none 0 0]) ?_ 10 _ rfl; (with_reducible repeat (first | refine blk_drewN ?_ _ | refine blk_drew ?_ | refine blk_alloc ?_ _)); exact BK305.out⟩, ⟨hbx HB.out⟩⟩
                      ·rw [if_neg c62] at H
                       have c62b0 : ((bt a0 0) == t318) = false := beq_eq_false_iff_ne.mpr c62
                       have c62b1 : ((bt a0 0) != t318) = true := bne_iff_ne.mpr c62
                       have H' := Aside0.mk H
                       clear H
                       have p61 : 0 ≤ (0 : Int) := (by omega)
                       have q61 : 0 < a0.size := (by have : (0 : Int) < (a0.size : Int) := of_decide_eq_true (by first | (with_reducible assumption) | assumption); omega)
                       have hx61 : ∀ h : 0 < a0.size, ((a0[0]'h).toNat : Int) = bt a0 0 := bt_at a0 0
                       clear p61
                       have qi61 : (0 < (a0.size : Int)) = True := eq_true (of_decide_eq_true (by first | (with_reducible assumption) | assumption))
                       replace q61 := eq_true q61
                       go_wp2
                       go_meet
                       case rel => exact ⟨_, (true), (by first | rfl | (simp; done) | (simp [*]; done)), H', ⟨by have := HJ1.out; first | omega | exact Nat.le_refl _⟩, ⟨bkx BK302.out⟩, ⟨by (with_reducible repeat (first | refine blk_drewN ?_ _ | refine blk_drew ?_ | refine blk_alloc ?_ _)); refine blk_put (cs := #[.int .i64 (wrap64 (bt a0 1)), .int .i64 t303, .int .i64 t304, .string (a0.extract 22 ((wrap64 (22 + (wrap64 (bt a0 21)))) : Int).toNat), .bool t306, .int .u64 t307, .int .u64 t308, .bool t310, .int .u64 t311, .int .u64 t312, .bool t314, .int .u64 t315, .int .u64 0, .bool ((bt a0 20) == 1), .slice none 0 0]) ?_ 12 _ rfl; (with_reducible repeat (first | refine blk_drewN ?_ _ | refine blk_drew ?_ | refine blk_alloc ?_ _)); refine blk_put (cs := #[.int .i64 (wrap64 (bt a0 1)), .int .i64 t303, .int .i64 t304, .string (a0.extract 22 ((wrap64 (22 + (wrap64 (bt a0 21)))) : Int).toNat), .bool t306, .int .u64 t307, .int .u64 t308, .bool t310, .int .u64 t311, .int .u64 t312, .bool t314, .int .u64 0, .int .u64 0, .bool ((bt a0 20) == 1), .slice none 0 0]) ?_ 11 _ rfl; (with_reducible repeat (first | refine blk_drewN ?_ _ | refine blk_drew ?_ | refine blk_alloc ?_ _)); refine blk_put (cs := #[.int .i64 (wrap64 (bt a0 1)), .int .i64 t303, .int .i64 t304, .string (a0.extract 22 ((wrap64 (22 + (wrap64 (bt a0 21)))) : Int).toNat), .bool t306, .int .u64 t307, .int .u64 t308, .bool t310, .int .u64 t311, .int .u64 t312, .bool false, .int .u64 0, .int .u64 0, .bool ((bt a0 20) == 1), .slice none 0 0]) ?_ 10 _ rfl; (with_reducible repeat (first | refine blk_drewN ?_ _ | refine blk_drew ?_ | refine blk_alloc ?_ _)); exact BK305.out⟩, ⟨hbx HB.out⟩⟩
                     ·rw [if_neg c60] at H
                      exact absurd H (by simp)
                   case rest =>
                    clear HC33
                    try clear p2
                    try clear c3
                    try clear c4
                    try clear c5
                    try clear c6
                    try clear p6
                    try clear q6
                    try clear hx6
                    try clear qi6
                    try clear c7
                    try clear c38
                    try clear c49
                    try clear c50
                    try clear c53
                    try clear c59
                    try clear c59b0
                    try clear c59b1
                    try clear c60
                    try clear c60b0
                    try clear c60b1
                    try clear p61
                    try clear q61
                    try clear hx61
                    try clear qi61
                    try clear c62
                    try clear c62b0
                    try clear c62b1
                    try clear p63
                    try clear q63
                    try clear hx63
                    try clear qi63
                    try clear c64
                    try clear c64b0
                    try clear p64
                    try clear c65
                    try clear c65b0
                    try clear c65b1
                    try clear c67
                    try clear c69
                    try clear c69b0
                    try clear c70
                    try clear c73
                    try clear hcz54_0 hcz54_1 hcz54_10 hcz54_11 hcz54_12 hcz54_13 hcz54_14 hcz54_2 hcz54_3 hcz54_4 hcz54_5 hcz54_6 hcz54_7 hcz54_8 hcz54_9
                    try clear hcz56_0 hcz56_1 hcz56_10 hcz56_11 hcz56_12 hcz56_13 hcz56_14 hcz56_2 hcz56_3 hcz56_4 hcz56_5 hcz56_6 hcz56_7 hcz56_8 hcz56_9
                    try clear hcz58_0 hcz58_1 hcz58_10 hcz58_11 hcz58_12 hcz58_13 hcz58_14 hcz58_2 hcz58_3 hcz58_4 hcz58_5 hcz58_6 hcz58_7 hcz58_8 hcz58_9
                    try clear hcz68_0 hcz68_1 hcz68_10 hcz68_11 hcz68_12 hcz68_13 hcz68_14 hcz68_2 hcz68_3 hcz68_4 hcz68_5 hcz68_6 hcz68_7 hcz68_8 hcz68_9
                    try clear hcz71_0 hcz71_1 hcz71_10 hcz71_11 hcz71_12 hcz71_13 hcz71_14 hcz71_2 hcz71_3 hcz71_4 hcz71_5 hcz71_6 hcz71_7 hcz71_8 hcz71_9
                    try clear hcz74_0 hcz74_1 hcz74_10 hcz74_11 hcz74_12 hcz74_13 hcz74_14 hcz74_2 hcz74_3 hcz74_4 hcz74_5 hcz74_6 hcz74_7 hcz74_8 hcz74_9
                    try clear hfz54_0 hfz54_1 hfz54_10 hfz54_11 hfz54_12 hfz54_13 hfz54_14 hfz54_2 hfz54_3 hfz54_4 hfz54_5 hfz54_6 hfz54_7 hfz54_8 hfz54_9
                    try clear hfz56_0 hfz56_1 hfz56_10 hfz56_11 hfz56_12 hfz56_13 hfz56_14 hfz56_2 hfz56_3 hfz56_4 hfz56_5 hfz56_6 hfz56_7 hfz56_8 hfz56_9
                    try clear hfz58_0 hfz58_1 hfz58_10 hfz58_11 hfz58_12 hfz58_13 hfz58_14 hfz58_2 hfz58_3 hfz58_4 hfz58_5 hfz58_6 hfz58_7 hfz58_8 hfz58_9
                    try clear hfz68_0 hfz68_1 hfz68_10 hfz68_11 hfz68_12 hfz68_13 hfz68_14 hfz68_2 hfz68_3 hfz68_4 hfz68_5 hfz68_6 hfz68_7 hfz68_8 hfz68_9
                    try clear hfz71_0 hfz71_1 hfz71_10 hfz71_11 hfz71_12 hfz71_13 hfz71_14 hfz71_2 hfz71_3 hfz71_4 hfz71_5 hfz71_6 hfz71_7 hfz71_8 hfz71_9
                    try clear hfz74_0 hfz74_1 hfz74_10 hfz74_11 hfz74_12 hfz74_13 hfz74_14 hfz74_2 hfz74_3 hfz74_4 hfz74_5 hfz74_6 hfz74_7 hfz74_8 hfz74_9
                    try clear p61
                    try clear p63
                    try clear q61
                    try clear q63
                    obtain ⟨kq, x93_32, rfl, HA, HJ32, BK302, BK305, HB⟩ := hcut
                    cases kq with
                    | zero => exact absurd HA.out (by simp [dhcp_Decode.j1])
                    | succ kj32 =>
                     have H := HA.out
                     clear HA
                     simp only [dhcp_Decode.j1] at H
                     generalize hcl : a0.extract 22 ((wrap64 (22 + (wrap64 (bt a0 21)))) : Int).toNat = cl at H BK305 ⊢
                     clear hcl
                     by_cases c75 : x93_32 = true
                     ·subst c75
                      rw [if_pos rfl] at H
                      simp only [Option.some.injEq, Prod.mk.injEq] at H
                      obtain ⟨rfl, rfl, rfl, rfl, rfl, rfl, rfl, rfl, rfl, rfl, rfl, rfl, rfl, rfl, rfl, rfl⟩ := H
                      have hnb76 := NB302_305.out
                      have hnc76 := NB305_302.out
                      obtain ⟨⟨hcz77_0, hcz77_1, hcz77_2, hcz77_3, hcz77_4, hcz77_5, hcz77_6, hcz77_7, hcz77_8, hcz77_9, hcz77_10, hcz77_11, hcz77_12, hcz77_13, hcz77_14⟩, hfz77_0, hfz77_1, hfz77_2, hfz77_3, hfz77_4, hfz77_5, hfz77_6, hfz77_7, hfz77_8, hfz77_9, hfz77_10, hfz77_11, hfz77_12, hfz77_13, hfz77_14⟩ := cf15 BK302.out
                      go_wp2
                      refine bodyPost_ret (results_ct rfl _ _ gb302 27 #[.int .i64 0, .int .i64 0, .int .i64 0, .string (⟨#[]⟩ : ByteArray), .bool false, .int .u64 0, .int .u64 0, .bool false, .int .u64 0, .int .u64 0, .bool false, .int .u64 0, .int .u64 0, .bool false, .slice none 0 0] (0, 0) _ rfl (by (with_reducible repeat (first | refine blk_drewN ?_ _ | refine blk_drew ?_ | refine blk_alloc ?_ _)); refine blk_put (cs := #[.int .i64 0, .int .i64 0, .int .i64 0, .string (⟨#[]⟩ : ByteArray), .bool false, .int .u64 0, .int .u64 0, .bool false, .int .u64 0, .int .u64 0, .bool false, .int .u64 0, .int .u64 0, .bool false, .slice none 0 0]) ?_ 14 _ rfl; (with_reducible repeat (first | refine blk_drewN ?_ _ | refine blk_drew ?_ | refine blk_alloc ?_ _)); refine blk_put (cs := #[.int .i64 0, .int .i64 0, .int .i64 0, .string (⟨#[]⟩ : ByteArray), .bool false, .int .u64 0, .int .u64 0, .bool false, .int .u64 0, .int .u64 0, .bool false, .int .u64 0, .int .u64 0, .bool false, .slice none 0 0]) ?_ 13 _ rfl; (with_reducible repeat (first | refine blk_drewN ?_ _ | refine blk_drew ?_ | refine blk_alloc ?_ _)); refine blk_put (cs := #[.int .i64 0, .int .i64 0, .int .i64 0, .string (⟨#[]⟩ : ByteArray), .bool false, .int .u64 0, .int .u64 0, .bool false, .int .u64 0, .int .u64 0, .bool false, .int .u64 0, .int .u64 0, .bool false, .slice none 0 0]) ?_ 12 _ rfl; (with_reducible repeat (first | refine blk_drewN ?_ _ | refine blk_drew ?_ | refine blk_alloc ?_ _)); refine blk_put (cs := #[.int .i64 0, .int .i64 0, .int .i64 0, .string (⟨#[]⟩ : ByteArray), .bool false, .int .u64 0, .int .u64 0, .bool false, .int .u64 0, .int .u64 0, .bool false, .int .u64 0, .int .u64 0, .bool false, .slice none 0 0]) ?_ 11 _ rfl; (with_reducible repeat (first | refine blk_drewN ?_ _ | refine blk_drew ?_ | refine blk_alloc ?_ _)); refine blk_put (cs := #[.int .i64 0, .int .i64 0, .int .i64 0, .string (⟨#[]⟩ : ByteArray), .bool false, .int .u64 0, .int .u64 0, .bool false, .int .u64 0, .int .u64 0, .bool false, .int .u64 0, .int .u64 0, .bool false, .slice none 0 0]) ?_ 10 _ rfl; (with_reducible repeat (first | refine blk_drewN ?_ _ | refine blk_drew ?_ | refine blk_alloc ?_ _)); refine blk_put (cs := #[.int .i64 0, .int .i64 0, .int .i64 0, .string (⟨#[]⟩ : ByteArray), .bool false, .int .u64 0, .int .u64 0, .bool false, .int .u64 0, .int .u64 0, .bool false, .int .u64 0, .int .u64 0, .bool false, .slice none 0 0]) ?_ 9 _ rfl; (with_reducible repeat (first | refine blk_drewN ?_ _ | refine blk_drew ?_ | refine blk_alloc ?_ _)); refine blk_put (cs := #[.int .i64 0, .int .i64 0, .int .i64 0, .string (⟨#[]⟩ : ByteArray), .bool false, .int .u64 0, .int .u64 0, .bool false, .int .u64 0, .int .u64 0, .bool false, .int .u64 0, .int .u64 0, .bool false, .slice none 0 0]) ?_ 8 _ rfl; (with_reducible repeat (first | refine blk_drewN ?_ _ | refine blk_drew ?_ | refine blk_alloc ?_ _)); refine blk_put (cs := #[.int .i64 0, .int .i64 0, .int .i64 0, .string (⟨#[]⟩ : ByteArray), .bool false, .int .u64 0, .int .u64 0, .bool false, .int .u64 0, .int .u64 0, .bool false, .int .u64 0, .int .u64 0, .bool false, .slice none 0 0]) ?_ 7 _ rfl; (with_reducible repeat (first | refine blk_drewN ?_ _ | refine blk_drew ?_ | refine blk_alloc ?_ _)); refine blk_put (cs := #[.int .i64 0, .int .i64 0, .int .i64 0, .string (⟨#[]⟩ : ByteArray), .bool false, .int .u64 0, .int .u64 0, .bool false, .int .u64 0, .int .u64 0, .bool false, .int .u64 0, .int .u64 0, .bool false, .slice none 0 0]) ?_ 6 _ rfl; (with_reducible repeat (first | refine blk_drewN ?_ _ | refine blk_drew ?_ | refine blk_alloc ?_ _)); refine blk_put (cs := #[.int .i64 0, .int .i64 0, .int .i64 0, .string (⟨#[]⟩ : ByteArray), .bool false, .int .u64 0, .int .u64 0, .bool false, .int .u64 0, .int .u64 0, .bool false, .int .u64 0, .int .u64 0, .bool false, .slice none 0 0]) ?_ 5 _ rfl; (with_reducible repeat (first | refine blk_drewN ?_ _ | refine blk_drew ?_ | refine blk_alloc ?_ _)); refine blk_put (cs := #[.int .i64 0, .int .i64 0, .int .i64 0, .string (⟨#[]⟩ : ByteArray), .bool false, .int .u64 0, .int .u64 0, .bool false, .int .u64 0, .int .u64 0, .bool false, .int .u64 0, .int .u64 0, .bool false, .slice none 0 0]) ?_ 4 _ rfl; (with_reducible repeat (first | refine blk_drewN ?_ _ | refine blk_drew ?_ | refine blk_alloc ?_ _)); refine blk_put (cs := #[.int .i64 0, .int .i64 0, .int .i64 0, .string (⟨#[]⟩ : ByteArray), .bool false, .int .u64 0, .int .u64 0, .bool false, .int .u64 0, .int .u64 0, .bool false, .int .u64 0, .int .u64 0, .bool false, .slice none 0 0]) ?_ 3 _ rfl; (with_reducible repeat (first | refine blk_drewN ?_ _ | refine blk_drew ?_ | refine blk_alloc ?_ _)); refine blk_put (cs := #[.int .i64 0, .int .i64 0, .int .i64 0, .string (⟨#[]⟩ : ByteArray), .bool false, .int .u64 0, .int .u64 0, .bool false, .int .u64 0, .int .u64 0, .bool false, .int .u64 0, .int .u64 0, .bool false, .slice none 0 0]) ?_ 2 _ rfl; (with_reducible repeat (first | refine blk_drewN ?_ _ | refine blk_drew ?_ | refine blk_alloc ?_ _)); refine blk_put (cs := #[.int .i64 0, .int .i64 0, .int .i64 0, .string (⟨#[]⟩ : ByteArray), .bool false, .int .u64 0, .int .u64 0, .bool false, .int .u64 0, .int .u64 0, .bool false, .int .u64 0, .int .u64 0, .bool false, .slice none 0 0]) ?_ 1 _ rfl; (with_reducible repeat (first | refine blk_drewN ?_ _ | refine blk_drew ?_ | refine blk_alloc ?_ _)); refine blk_put (cs := #[.int .i64 0, .int .i64 0, .int .i64 0, .string (⟨#[]⟩ : ByteArray), .bool false, .int .u64 0, .int .u64 0, .bool false, .int .u64 0, .int .u64 0, .bool false, .int .u64 0, .int .u64 0, .bool false, .slice none 0 0]) ?_ 0 _ rfl; (with_reducible repeat (first | refine blk_drewN ?_ _ | refine blk_drew ?_ | refine blk_alloc ?_ _)); exact BK302.out) Tryd.underlying27 rfl (by kernel_rfl)) rfl ?_
                      exact ⟨_, by first | rfl | (simp [errW_none, errW_some] <;> rfl) | (simp [*, errW_none, errW_some] <;> rfl), by first | exact Kd.R_nil _ _ _ _ _ | exact Kd.N_nil _ _ _ _ _ | exact Kd.V_nil _ _ _ _ _ | exact Kd.Q_nil _ _ _ _ _ | exact Kd.S_nil _ _ _ _ _, hbx HB.out⟩
                     ·replace c75 := Bool.eq_false_iff.mpr c75
                      subst c75
                      rw [if_neg (show ¬ (false = true) by decide)] at H
                      obtain ⟨ji78, hji78⟩ : ∃ j_ : Int, (wrap64 (22 + (cl.size : Int))) = j_ := ⟨_, rfl⟩
                      replace H : (if 0 ≤ (ji78) then (if (ji78) ≤ (a0.size : Int) then ((option_Decode.f kj32 (a0.extract ((ji78) : Int).toNat a0.size)).bind fun bt321 => (if bt321.2 = 0 then ((option_Valid.f kj32 bt321.1).bind fun t325 => (if t325 = true then (some ((wrap64 (bt a0 1)), t303, t304, cl, t306, t307, t308, t310, t311, t312, t314, t315, t316, ((bt a0 20) == 1), bt321.1, 0)) else (some (0, 0, 0, (⟨#[]⟩ : ByteArray), false, 0, 0, false, 0, 0, false, 0, 0, false, ([] : List (S61)), 7)))) else (some (0, 0, 0, (⟨#[]⟩ : ByteArray), false, 0, 0, false, 0, 0, false, 0, 0, false, ([] : List (S61)), bt321.2)))) else (none)) else (none)) = some (r1, r2, r3, r4, r5, r6, r7, r8, r9, r10, r11, r12, r13, r14, r15, r16) := by first | (rw [hji78] at H; exact H) | (simp only [hji78] at H ⊢; exact H)
                      have hji78w : (IntKind.i64.wrap (22 + (cl.size : Int))) = ji78 := (i64_w _).trans hji78
                      by_cases c79 : 0 ≤ (ji78)
                      ·rw [if_pos c79] at H
                       have c79b0 := eq_true c79
                       have c79b1 : decide (0 ≤ (ji78)) = true := decide_eq_true c79
                       clear c79
                       by_cases c80 : (ji78) ≤ (a0.size : Int)
                       ·rw [if_pos c80] at H
                        have c80b0 := eq_true c80
                        have c80b1 : decide ((ji78) ≤ (a0.size : Int)) = true := decide_eq_true c80
                        clear c80
                        replace H := Option.bind_eq_some_iff.mp H
                        obtain ⟨⟨t321, t322⟩, A810, H⟩ := H
                        (try dsimp only at H)
                        have A81 := Aside0.mk A810
                        clear A810
                        by_cases c82 : t322 = 0
                        ·rw [if_pos c82] at H
                         have c82b0 : (t322 == 0) = true := beq_iff_eq.mpr c82
                         have c82b1 : (t322 != 0) = false := bne_eq_false_iff_eq.mpr c82
                         clear c82
                         replace H := Option.bind_eq_some_iff.mp H
                         obtain ⟨t325, A830, H⟩ := H
                         (try dsimp only at H)
                         have A83 := Aside0.mk A830
                         clear A830
                         by_cases c84 : t325 = true
                         ·subst c84
                          rw [if_pos rfl] at H
                          simp only [Option.some.injEq, Prod.mk.injEq] at H
                          obtain ⟨rfl, rfl, rfl, rfl, rfl, rfl, rfl, rfl, rfl, rfl, rfl, rfl, rfl, rfl, rfl, rfl⟩ := H
                          have hnb85 := NB305_302.out
                          have hnc85 := NB302_305.out
                          obtain ⟨⟨hcz86_0, hcz86_1, hcz86_2, hcz86_3, hcz86_4, hcz86_5, hcz86_6, hcz86_7, hcz86_8, hcz86_9, hcz86_10, hcz86_11, hcz86_12, hcz86_13, hcz86_14⟩, hfz86_0, hfz86_1, hfz86_2, hfz86_3, hfz86_4, hfz86_5, hfz86_6, hfz86_7, hfz86_8, hfz86_9, hfz86_10, hfz86_11, hfz86_12, hfz86_13, hfz86_14⟩ := cf15 BK305.out
                          go_wp2_with (first | ((with_reducible refine gate_callee (f := 51) rfl ?_); refine goesL_ (some 102) rfl rfl Tryd.func51 (by kernel_rfl) rfl #[.string (a0.extract ((ji78) : Int).toNat a0.size)] rfl (by (try simp only [List.map_toArray, List.map_cons, List.map_nil]); first | done | (simp only [hji78]; rfl) | rfl | (simp only [List.length_drop, List.length_take]; rfl)) ?_; (with_reducible refine (option_Decode.calls kj32 (a0.extract ((ji78) : Int).toNat a0.size) t321 t322 _ A81.out).mono ?_); rintro e w87 ⟨v323, rfl, ho0, hb⟩; refine ⟨_, rfl, ?_⟩; have n0_ := Aside0.mk (Kd.R_lower ho0 (below_size (hbx HB.out))); have n1_ := Aside0.mk (blk_below (bkx BK302.out) hb); have n2_ := Aside0.mk (blk_below (bkx BK305.out) hb); have n3_ := Aside0.mk (below_step (hbx HB.out) hb); clear BK302; clear BK305; clear HB; have HO324 := n0_; have BK302 := n1_; have BK305 := n2_; have HB := n3_; clear n0_ n1_ n2_ n3_; (try clear hb); (try clear hb2); (try clear hk); (try clear hi); (try clear ho0); obtain ⟨Ao88, co88, eo88⟩ := Kd.R_slice HO324.out; subst eo88) | ((with_reducible refine gate_callee (f := 28) rfl ?_); refine goesL_ (some 110) rfl rfl Tryd.func28 (by kernel_rfl) rfl #[.slice Ao88 t321.length co88] rfl (by (try simp only [List.map_toArray, List.map_cons, List.map_nil]); first | done | rfl | (simp only [List.length_drop, List.length_take]; rfl)) ?_; (with_reducible refine (option_Valid.calls kj32 _ _ t321 true _ ?side1 ?side2 A83.out).mono ?_); (case side1 => repeat (first | exact (Kd.R_reads' HO324.out).2.2 | (with_reducible refine Kd.C_alloc ?_ _) | (with_reducible refine Kd.C_drewN ?_ _) | (with_reducible refine Kd.C_drew ?_))); (case side2 => exact (Kd.R_reads' HO324.out).2.1); rintro e w89 ⟨rfl, hb⟩; refine ⟨_, rfl, ?_⟩; have n0_ := Aside0.mk (Kd.R_below (by (with_reducible repeat (first | apply Kd.R_alloc | apply Kd.R_drewN | apply Kd.R_drew)); exact HO324.out) hb); have n1_ := Aside0.mk (blk_below (bkx BK302.out) hb); have n2_ := Aside0.mk (blk_below (bkx BK305.out) hb); have n3_ := Aside0.mk (below_step (hbx HB.out) hb); clear HO324; clear BK302; clear BK305; clear HB; have HO324 := n0_; have BK302 := n1_; have BK305 := n2_; have HB := n3_; clear n0_ n1_ n2_ n3_; (try clear hb); (try clear hb2); (try clear hk); (try clear hi); obtain ⟨⟨hcz90_0, hcz90_1, hcz90_2, hcz90_3, hcz90_4, hcz90_5, hcz90_6, hcz90_7, hcz90_8, hcz90_9, hcz90_10, hcz90_11, hcz90_12, hcz90_13, hcz90_14⟩, hfz90_0, hfz90_1, hfz90_2, hfz90_3, hfz90_4, hfz90_5, hfz90_6, hfz90_7, hfz90_8, hfz90_9, hfz90_10, hfz90_11, hfz90_12, hfz90_13, hfz90_14⟩ := cf15 BK305.out; obtain ⟨⟨hcz91_0, hcz91_1, hcz91_2, hcz91_3, hcz91_4, hcz91_5, hcz91_6, hcz91_7, hcz91_8, hcz91_9, hcz91_10, hcz91_11, hcz91_12, hcz91_13, hcz91_14⟩, hfz91_0, hfz91_1, hfz91_2, hfz91_3, hfz91_4, hfz91_5, hfz91_6, hfz91_7, hfz91_8, hfz91_9, hfz91_10, hfz91_11, hfz91_12, hfz91_13, hfz91_14⟩ := cf15 BK302.out))
                          refine bodyPost_ret (results_ct rfl _ _ gb302 27 #[.int .i64 (wrap64 (bt a0 1)), .int .i64 t303, .int .i64 t304, .string cl, .bool t306, .int .u64 t307, .int .u64 t308, .bool t310, .int .u64 t311, .int .u64 t312, .bool t314, .int .u64 t315, .int .u64 t316, .bool ((bt a0 20) == 1), .slice Ao88 t321.length co88] (0, 0) _ rfl (by (with_reducible repeat (first | refine blk_drewN ?_ _ | refine blk_drew ?_ | refine blk_alloc ?_ _)); refine blk_put (cs := #[.int .i64 (wrap64 (bt a0 1)), .int .i64 t303, .int .i64 t304, .string cl, .bool t306, .int .u64 t307, .int .u64 t308, .bool t310, .int .u64 t311, .int .u64 t312, .bool t314, .int .u64 t315, .int .u64 t316, .bool ((bt a0 20) == 1), .slice none 0 0]) ?_ 14 _ rfl; (with_reducible repeat (first | refine blk_drewN ?_ _ | refine blk_drew ?_ | refine blk_alloc ?_ _)); refine blk_put (cs := #[.int .i64 (wrap64 (bt a0 1)), .int .i64 t303, .int .i64 t304, .string cl, .bool t306, .int .u64 t307, .int .u64 t308, .bool t310, .int .u64 t311, .int .u64 t312, .bool t314, .int .u64 t315, .int .u64 t316, .bool false, .slice none 0 0]) ?_ 13 _ rfl; (with_reducible repeat (first | refine blk_drewN ?_ _ | refine blk_drew ?_ | refine blk_alloc ?_ _)); refine blk_put (cs := #[.int .i64 (wrap64 (bt a0 1)), .int .i64 t303, .int .i64 t304, .string cl, .bool t306, .int .u64 t307, .int .u64 t308, .bool t310, .int .u64 t311, .int .u64 t312, .bool t314, .int .u64 t315, .int .u64 0, .bool false, .slice none 0 0]) ?_ 12 _ rfl; (with_reducible repeat (first | refine blk_drewN ?_ _ | refine blk_drew ?_ | refine blk_alloc ?_ _)); refine blk_put (cs := #[.int .i64 (wrap64 (bt a0 1)), .int .i64 t303, .int .i64 t304, .string cl, .bool t306, .int .u64 t307, .int .u64 t308, .bool t310, .int .u64 t311, .int .u64 t312, .bool t314, .int .u64 0, .int .u64 0, .bool false, .slice none 0 0]) ?_ 11 _ rfl; (with_reducible repeat (first | refine blk_drewN ?_ _ | refine blk_drew ?_ | refine blk_alloc ?_ _)); refine blk_put (cs := #[.int .i64 (wrap64 (bt a0 1)), .int .i64 t303, .int .i64 t304, .string cl, .bool t306, .int .u64 t307, .int .u64 t308, .bool t310, .int .u64 t311, .int .u64 t312, .bool false, .int .u64 0, .int .u64 0, .bool false, .slice none 0 0]) ?_ 10 _ rfl; (with_reducible repeat (first | refine blk_drewN ?_ _ | refine blk_drew ?_ | refine blk_alloc ?_ _)); refine blk_put (cs := #[.int .i64 (wrap64 (bt a0 1)), .int .i64 t303, .int .i64 t304, .string cl, .bool t306, .int .u64 t307, .int .u64 t308, .bool t310, .int .u64 t311, .int .u64 0, .bool false, .int .u64 0, .int .u64 0, .bool false, .slice none 0 0]) ?_ 9 _ rfl; (with_reducible repeat (first | refine blk_drewN ?_ _ | refine blk_drew ?_ | refine blk_alloc ?_ _)); refine blk_put (cs := #[.int .i64 (wrap64 (bt a0 1)), .int .i64 t303, .int .i64 t304, .string cl, .bool t306, .int .u64 t307, .int .u64 t308, .bool t310, .int .u64 0, .int .u64 0, .bool false, .int .u64 0, .int .u64 0, .bool false, .slice none 0 0]) ?_ 8 _ rfl; (with_reducible repeat (first | refine blk_drewN ?_ _ | refine blk_drew ?_ | refine blk_alloc ?_ _)); refine blk_put (cs := #[.int .i64 (wrap64 (bt a0 1)), .int .i64 t303, .int .i64 t304, .string cl, .bool t306, .int .u64 t307, .int .u64 t308, .bool false, .int .u64 0, .int .u64 0, .bool false, .int .u64 0, .int .u64 0, .bool false, .slice none 0 0]) ?_ 7 _ rfl; (with_reducible repeat (first | refine blk_drewN ?_ _ | refine blk_drew ?_ | refine blk_alloc ?_ _)); refine blk_put (cs := #[.int .i64 (wrap64 (bt a0 1)), .int .i64 t303, .int .i64 t304, .string cl, .bool t306, .int .u64 t307, .int .u64 0, .bool false, .int .u64 0, .int .u64 0, .bool false, .int .u64 0, .int .u64 0, .bool false, .slice none 0 0]) ?_ 6 _ rfl; (with_reducible repeat (first | refine blk_drewN ?_ _ | refine blk_drew ?_ | refine blk_alloc ?_ _)); refine blk_put (cs := #[.int .i64 (wrap64 (bt a0 1)), .int .i64 t303, .int .i64 t304, .string cl, .bool t306, .int .u64 0, .int .u64 0, .bool false, .int .u64 0, .int .u64 0, .bool false, .int .u64 0, .int .u64 0, .bool false, .slice none 0 0]) ?_ 5 _ rfl; (with_reducible repeat (first | refine blk_drewN ?_ _ | refine blk_drew ?_ | refine blk_alloc ?_ _)); refine blk_put (cs := #[.int .i64 (wrap64 (bt a0 1)), .int .i64 t303, .int .i64 t304, .string cl, .bool false, .int .u64 0, .int .u64 0, .bool false, .int .u64 0, .int .u64 0, .bool false, .int .u64 0, .int .u64 0, .bool false, .slice none 0 0]) ?_ 4 _ rfl; (with_reducible repeat (first | refine blk_drewN ?_ _ | refine blk_drew ?_ | refine blk_alloc ?_ _)); refine blk_put (cs := #[.int .i64 (wrap64 (bt a0 1)), .int .i64 t303, .int .i64 t304, .string (⟨#[]⟩ : ByteArray), .bool false, .int .u64 0, .int .u64 0, .bool false, .int .u64 0, .int .u64 0, .bool false, .int .u64 0, .int .u64 0, .bool false, .slice none 0 0]) ?_ 3 _ rfl; (with_reducible repeat (first | refine blk_drewN ?_ _ | refine blk_drew ?_ | refine blk_alloc ?_ _)); refine blk_put (cs := #[.int .i64 (wrap64 (bt a0 1)), .int .i64 t303, .int .i64 0, .string (⟨#[]⟩ : ByteArray), .bool false, .int .u64 0, .int .u64 0, .bool false, .int .u64 0, .int .u64 0, .bool false, .int .u64 0, .int .u64 0, .bool false, .slice none 0 0]) ?_ 2 _ rfl; (with_reducible repeat (first | refine blk_drewN ?_ _ | refine blk_drew ?_ | refine blk_alloc ?_ _)); refine blk_put (cs := #[.int .i64 (wrap64 (bt a0 1)), .int .i64 0, .int .i64 0, .string (⟨#[]⟩ : ByteArray), .bool false, .int .u64 0, .int .u64 0, .bool false, .int .u64 0, .int .u64 0, .bool false, .int .u64 0, .int .u64 0, .bool false, .slice none 0 0]) ?_ 1 _ rfl; (with_reducible repeat (first | refine blk_drewN ?_ _ | refine blk_drew ?_ | refine blk_alloc ?_ _)); refine blk_put (cs := #[.int .i64 0, .int .i64 0, .int .i64 0, .string (⟨#[]⟩ : ByteArray), .bool false, .int .u64 0, .int .u64 0, .bool false, .int .u64 0, .int .u64 0, .bool false, .int .u64 0, .int .u64 0, .bool false, .slice none 0 0]) ?_ 0 _ rfl; (with_reducible repeat (first | refine blk_drewN ?_ _ | refine blk_drew ?_ | refine blk_alloc ?_ _)); refine blk_far ?_ NB302_305.out _; (with_reducible repeat (first | refine blk_drewN ?_ _ | refine blk_drew ?_ | refine blk_alloc ?_ _)); exact BK302.out) Tryd.underlying27 rfl (by kernel_rfl)) rfl ?_
                          exact ⟨_, by first | rfl | (simp [errW_none, errW_some] <;> rfl) | (simp only [← hji78]; first | rfl | (simp [errW_none, errW_some] <;> rfl)) | (simp [*, errW_none, errW_some] <;> rfl), by (with_reducible repeat (first | apply Kd.R_alloc | apply Kd.R_drewN | apply Kd.R_drew)); exact Kd.R_mono (Kd.R_far (p := ⟨gb302, 14, none⟩) (Kd.R_far (p := ⟨gb302, 13, none⟩) (Kd.R_far (p := ⟨gb302, 12, none⟩) (Kd.R_far (p := ⟨gb302, 11, none⟩) (Kd.R_far (p := ⟨gb302, 10, none⟩) (Kd.R_far (p := ⟨gb302, 9, none⟩) (Kd.R_far (p := ⟨gb302, 8, none⟩) (Kd.R_far (p := ⟨gb302, 7, none⟩) (Kd.R_far (p := ⟨gb302, 6, none⟩) (Kd.R_far (p := ⟨gb302, 5, none⟩) (Kd.R_far (p := ⟨gb302, 4, none⟩) (Kd.R_far (p := ⟨gb302, 3, none⟩) (Kd.R_far (p := ⟨gb302, 2, none⟩) (Kd.R_far (p := ⟨gb302, 1, none⟩) (Kd.R_far (p := ⟨gb302, 0, none⟩) (Kd.R_far (p := ⟨gb305, 14, none⟩) (Kd.R_types (Kd.R_types HO324.out BK305.out (by decide)) BK302.out (by decide)) (fun _ hk => hk.1.2) (.slice Ao88 t321.length co88)) (fun _ hk => hk.2) (.int .i64 (wrap64 (bt a0 1)))) (fun _ hk => hk.2) (.int .i64 t303)) (fun _ hk => hk.2) (.int .i64 t304)) (fun _ hk => hk.2) (.string cl)) (fun _ hk => hk.2) (.bool t306)) (fun _ hk => hk.2) (.int .u64 t307)) (fun _ hk => hk.2) (.int .u64 t308)) (fun _ hk => hk.2) (.bool t310)) (fun _ hk => hk.2) (.int .u64 t311)) (fun _ hk => hk.2) (.int .u64 t312)) (fun _ hk => hk.2) (.bool t314)) (fun _ hk => hk.2) (.int .u64 t315)) (fun _ hk => hk.2) (.int .u64 t316)) (fun _ hk => hk.2) (.bool ((bt a0 20) == 1))) (fun _ hk => hk.2) (.slice Ao88 t321.length co88)) (fun _ hk => trivial), hbx HB.out⟩
                         ·replace c84 := Bool.eq_false_iff.mpr c84
                          subst c84
                          rw [if_neg (show ¬ (false = true) by decide)] at H
                          simp only [Option.some.injEq, Prod.mk.injEq] at H
                          obtain ⟨rfl, rfl, rfl, rfl, rfl, rfl, rfl, rfl, rfl, rfl, rfl, rfl, rfl, rfl, rfl, rfl⟩ := H
                          have hnb92 := NB305_302.out
                          have hnc92 := NB302_305.out
                          obtain ⟨⟨hcz93_0, hcz93_1, hcz93_2, hcz93_3, hcz93_4, hcz93_5, hcz93_6, hcz93_7, hcz93_8, hcz93_9, hcz93_10, hcz93_11, hcz93_12, hcz93_13, hcz93_14⟩, hfz93_0, hfz93_1, hfz93_2, hfz93_3, hfz93_4, hfz93_5, hfz93_6, hfz93_7, hfz93_8, hfz93_9, hfz93_10, hfz93_11, hfz93_12, hfz93_13, hfz93_14⟩ := cf15 BK305.out
                          go_wp2_with (first | ((with_reducible refine gate_callee (f := 51) rfl ?_); refine goesL_ (some 102) rfl rfl Tryd.func51 (by kernel_rfl) rfl #[.string (a0.extract ((ji78) : Int).toNat a0.size)] rfl (by (try simp only [List.map_toArray, List.map_cons, List.map_nil]); first | done | (simp only [hji78]; rfl) | rfl | (simp only [List.length_drop, List.length_take]; rfl)) ?_; (with_reducible refine (option_Decode.calls kj32 (a0.extract ((ji78) : Int).toNat a0.size) t321 t322 _ A81.out).mono ?_); rintro e w94 ⟨v323, rfl, ho0, hb⟩; refine ⟨_, rfl, ?_⟩; have n0_ := Aside0.mk (Kd.R_lower ho0 (below_size (hbx HB.out))); have n1_ := Aside0.mk (blk_below (bkx BK302.out) hb); have n2_ := Aside0.mk (blk_below (bkx BK305.out) hb); have n3_ := Aside0.mk (below_step (hbx HB.out) hb); clear BK302; clear BK305; clear HB; have HO324 := n0_; have BK302 := n1_; have BK305 := n2_; have HB := n3_; clear n0_ n1_ n2_ n3_; (try clear hb); (try clear hb2); (try clear hk); (try clear hi); (try clear ho0); obtain ⟨Ao95, co95, eo95⟩ := Kd.R_slice HO324.out; subst eo95) | ((with_reducible refine gate_callee (f := 28) rfl ?_); refine goesL_ (some 110) rfl rfl Tryd.func28 (by kernel_rfl) rfl #[.slice Ao95 t321.length co95] rfl (by (try simp only [List.map_toArray, List.map_cons, List.map_nil]); first | done | rfl | (simp only [List.length_drop, List.length_take]; rfl)) ?_; (with_reducible refine (option_Valid.calls kj32 _ _ t321 false _ ?side1 ?side2 A83.out).mono ?_); (case side1 => repeat (first | exact (Kd.R_reads' HO324.out).2.2 | (with_reducible refine Kd.C_alloc ?_ _) | (with_reducible refine Kd.C_drewN ?_ _) | (with_reducible refine Kd.C_drew ?_))); (case side2 => exact (Kd.R_reads' HO324.out).2.1); rintro e w96 ⟨rfl, hb⟩; refine ⟨_, rfl, ?_⟩; have n0_ := Aside0.mk (Kd.R_below (by (with_reducible repeat (first | apply Kd.R_alloc | apply Kd.R_drewN | apply Kd.R_drew)); exact HO324.out) hb); have n1_ := Aside0.mk (blk_below (bkx BK302.out) hb); have n2_ := Aside0.mk (blk_below (bkx BK305.out) hb); have n3_ := Aside0.mk (below_step (hbx HB.out) hb); clear HO324; clear BK302; clear BK305; clear HB; have HO324 := n0_; have BK302 := n1_; have BK305 := n2_; have HB := n3_; clear n0_ n1_ n2_ n3_; (try clear hb); (try clear hb2); (try clear hk); (try clear hi); obtain ⟨⟨hcz97_0, hcz97_1, hcz97_2, hcz97_3, hcz97_4, hcz97_5, hcz97_6, hcz97_7, hcz97_8, hcz97_9, hcz97_10, hcz97_11, hcz97_12, hcz97_13, hcz97_14⟩, hfz97_0, hfz97_1, hfz97_2, hfz97_3, hfz97_4, hfz97_5, hfz97_6, hfz97_7, hfz97_8, hfz97_9, hfz97_10, hfz97_11, hfz97_12, hfz97_13, hfz97_14⟩ := cf15 BK302.out))
                          refine bodyPost_ret (results_ct rfl _ _ gb302 27 #[.int .i64 0, .int .i64 0, .int .i64 0, .string (⟨#[]⟩ : ByteArray), .bool false, .int .u64 0, .int .u64 0, .bool false, .int .u64 0, .int .u64 0, .bool false, .int .u64 0, .int .u64 0, .bool false, .slice none 0 0] (0, 0) _ rfl (by (with_reducible repeat (first | refine blk_drewN ?_ _ | refine blk_drew ?_ | refine blk_alloc ?_ _)); refine blk_put (cs := #[.int .i64 0, .int .i64 0, .int .i64 0, .string (⟨#[]⟩ : ByteArray), .bool false, .int .u64 0, .int .u64 0, .bool false, .int .u64 0, .int .u64 0, .bool false, .int .u64 0, .int .u64 0, .bool false, .slice none 0 0]) ?_ 14 _ rfl; (with_reducible repeat (first | refine blk_drewN ?_ _ | refine blk_drew ?_ | refine blk_alloc ?_ _)); refine blk_put (cs := #[.int .i64 0, .int .i64 0, .int .i64 0, .string (⟨#[]⟩ : ByteArray), .bool false, .int .u64 0, .int .u64 0, .bool false, .int .u64 0, .int .u64 0, .bool false, .int .u64 0, .int .u64 0, .bool false, .slice none 0 0]) ?_ 13 _ rfl; (with_reducible repeat (first | refine blk_drewN ?_ _ | refine blk_drew ?_ | refine blk_alloc ?_ _)); refine blk_put (cs := #[.int .i64 0, .int .i64 0, .int .i64 0, .string (⟨#[]⟩ : ByteArray), .bool false, .int .u64 0, .int .u64 0, .bool false, .int .u64 0, .int .u64 0, .bool false, .int .u64 0, .int .u64 0, .bool false, .slice none 0 0]) ?_ 12 _ rfl; (with_reducible repeat (first | refine blk_drewN ?_ _ | refine blk_drew ?_ | refine blk_alloc ?_ _)); refine blk_put (cs := #[.int .i64 0, .int .i64 0, .int .i64 0, .string (⟨#[]⟩ : ByteArray), .bool false, .int .u64 0, .int .u64 0, .bool false, .int .u64 0, .int .u64 0, .bool false, .int .u64 0, .int .u64 0, .bool false, .slice none 0 0]) ?_ 11 _ rfl; (with_reducible repeat (first | refine blk_drewN ?_ _ | refine blk_drew ?_ | refine blk_alloc ?_ _)); refine blk_put (cs := #[.int .i64 0, .int .i64 0, .int .i64 0, .string (⟨#[]⟩ : ByteArray), .bool false, .int .u64 0, .int .u64 0, .bool false, .int .u64 0, .int .u64 0, .bool false, .int .u64 0, .int .u64 0, .bool false, .slice none 0 0]) ?_ 10 _ rfl; (with_reducible repeat (first | refine blk_drewN ?_ _ | refine blk_drew ?_ | refine blk_alloc ?_ _)); refine blk_put (cs := #[.int .i64 0, .int .i64 0, .int .i64 0, .string (⟨#[]⟩ : ByteArray), .bool false, .int .u64 0, .int .u64 0, .bool false, .int .u64 0, .int .u64 0, .bool false, .int .u64 0, .int .u64 0, .bool false, .slice none 0 0]) ?_ 9 _ rfl; (with_reducible repeat (first | refine blk_drewN ?_ _ | refine blk_drew ?_ | refine blk_alloc ?_ _)); refine blk_put (cs := #[.int .i64 0, .int .i64 0, .int .i64 0, .string (⟨#[]⟩ : ByteArray), .bool false, .int .u64 0, .int .u64 0, .bool false, .int .u64 0, .int .u64 0, .bool false, .int .u64 0, .int .u64 0, .bool false, .slice none 0 0]) ?_ 8 _ rfl; (with_reducible repeat (first | refine blk_drewN ?_ _ | refine blk_drew ?_ | refine blk_alloc ?_ _)); refine blk_put (cs := #[.int .i64 0, .int .i64 0, .int .i64 0, .string (⟨#[]⟩ : ByteArray), .bool false, .int .u64 0, .int .u64 0, .bool false, .int .u64 0, .int .u64 0, .bool false, .int .u64 0, .int .u64 0, .bool false, .slice none 0 0]) ?_ 7 _ rfl; (with_reducible repeat (first | refine blk_drewN ?_ _ | refine blk_drew ?_ | refine blk_alloc ?_ _)); refine blk_put (cs := #[.int .i64 0, .int .i64 0, .int .i64 0, .string (⟨#[]⟩ : ByteArray), .bool false, .int .u64 0, .int .u64 0, .bool false, .int .u64 0, .int .u64 0, .bool false, .int .u64 0, .int .u64 0, .bool false, .slice none 0 0]) ?_ 6 _ rfl; (with_reducible repeat (first | refine blk_drewN ?_ _ | refine blk_drew ?_ | refine blk_alloc ?_ _)); refine blk_put (cs := #[.int .i64 0, .int .i64 0, .int .i64 0, .string (⟨#[]⟩ : ByteArray), .bool false, .int .u64 0, .int .u64 0, .bool false, .int .u64 0, .int .u64 0, .bool false, .int .u64 0, .int .u64 0, .bool false, .slice none 0 0]) ?_ 5 _ rfl; (with_reducible repeat (first | refine blk_drewN ?_ _ | refine blk_drew ?_ | refine blk_alloc ?_ _)); refine blk_put (cs := #[.int .i64 0, .int .i64 0, .int .i64 0, .string (⟨#[]⟩ : ByteArray), .bool false, .int .u64 0, .int .u64 0, .bool false, .int .u64 0, .int .u64 0, .bool false, .int .u64 0, .int .u64 0, .bool false, .slice none 0 0]) ?_ 4 _ rfl; (with_reducible repeat (first | refine blk_drewN ?_ _ | refine blk_drew ?_ | refine blk_alloc ?_ _)); refine blk_put (cs := #[.int .i64 0, .int .i64 0, .int .i64 0, .string (⟨#[]⟩ : ByteArray), .bool false, .int .u64 0, .int .u64 0, .bool false, .int .u64 0, .int .u64 0, .bool false, .int .u64 0, .int .u64 0, .bool false, .slice none 0 0]) ?_ 3 _ rfl; (with_reducible repeat (first | refine blk_drewN ?_ _ | refine blk_drew ?_ | refine blk_alloc ?_ _)); refine blk_put (cs := #[.int .i64 0, .int .i64 0, .int .i64 0, .string (⟨#[]⟩ : ByteArray), .bool false, .int .u64 0, .int .u64 0, .bool false, .int .u64 0, .int .u64 0, .bool false, .int .u64 0, .int .u64 0, .bool false, .slice none 0 0]) ?_ 2 _ rfl; (with_reducible repeat (first | refine blk_drewN ?_ _ | refine blk_drew ?_ | refine blk_alloc ?_ _)); refine blk_put (cs := #[.int .i64 0, .int .i64 0, .int .i64 0, .string (⟨#[]⟩ : ByteArray), .bool false, .int .u64 0, .int .u64 0, .bool false, .int .u64 0, .int .u64 0, .bool false, .int .u64 0, .int .u64 0, .bool false, .slice none 0 0]) ?_ 1 _ rfl; (with_reducible repeat (first | refine blk_drewN ?_ _ | refine blk_drew ?_ | refine blk_alloc ?_ _)); refine blk_put (cs := #[.int .i64 0, .int .i64 0, .int .i64 0, .string (⟨#[]⟩ : ByteArray), .bool false, .int .u64 0, .int .u64 0, .bool false, .int .u64 0, .int .u64 0, .bool false, .int .u64 0, .int .u64 0, .bool false, .slice none 0 0]) ?_ 0 _ rfl; (with_reducible repeat (first | refine blk_drewN ?_ _ | refine blk_drew ?_ | refine blk_alloc ?_ _)); exact BK302.out) Tryd.underlying27 rfl (by kernel_rfl)) rfl ?_
                          exact ⟨_, by first | rfl | (simp [errW_none, errW_some] <;> rfl) | (simp only [← hji78]; first | rfl | (simp [errW_none, errW_some] <;> rfl)) | (simp [*, errW_none, errW_some] <;> rfl), by first | exact Kd.R_nil _ _ _ _ _ | exact Kd.N_nil _ _ _ _ _ | exact Kd.V_nil _ _ _ _ _ | exact Kd.Q_nil _ _ _ _ _ | exact Kd.S_nil _ _ _ _ _, hbx HB.out⟩
                        ·rw [if_neg c82] at H
                         have c82b0 : (t322 == 0) = false := beq_eq_false_iff_ne.mpr c82
                         have c82b1 : (t322 != 0) = true := bne_iff_ne.mpr c82
                         simp only [Option.some.injEq, Prod.mk.injEq] at H
                         obtain ⟨rfl, rfl, rfl, rfl, rfl, rfl, rfl, rfl, rfl, rfl, rfl, rfl, rfl, rfl, rfl, rfl⟩ := H
                         have hnb98 := NB305_302.out
                         have hnc98 := NB302_305.out
                         obtain ⟨⟨hcz99_0, hcz99_1, hcz99_2, hcz99_3, hcz99_4, hcz99_5, hcz99_6, hcz99_7, hcz99_8, hcz99_9, hcz99_10, hcz99_11, hcz99_12, hcz99_13, hcz99_14⟩, hfz99_0, hfz99_1, hfz99_2, hfz99_3, hfz99_4, hfz99_5, hfz99_6, hfz99_7, hfz99_8, hfz99_9, hfz99_10, hfz99_11, hfz99_12, hfz99_13, hfz99_14⟩ := cf15 BK305.out
                         go_wp2_with (first | ((with_reducible refine gate_callee (f := 51) rfl ?_); refine goesL_ (some 102) rfl rfl Tryd.func51 (by kernel_rfl) rfl #[.string (a0.extract ((ji78) : Int).toNat a0.size)] rfl (by (try simp only [List.map_toArray, List.map_cons, List.map_nil]); first | done | (simp only [hji78]; rfl) | rfl | (simp only [List.length_drop, List.length_take]; rfl)) ?_; (with_reducible refine (option_Decode.calls kj32 (a0.extract ((ji78) : Int).toNat a0.size) t321 t322 _ A81.out).mono ?_); rintro e w100 ⟨v323, rfl, ho0, hb⟩; refine ⟨_, rfl, ?_⟩; have n0_ := Aside0.mk (Kd.R_lower ho0 (below_size (hbx HB.out))); have n1_ := Aside0.mk (blk_below (bkx BK302.out) hb); have n2_ := Aside0.mk (blk_below (bkx BK305.out) hb); have n3_ := Aside0.mk (below_step (hbx HB.out) hb); clear BK302; clear BK305; clear HB; have HO324 := n0_; have BK302 := n1_; have BK305 := n2_; have HB := n3_; clear n0_ n1_ n2_ n3_; (try clear hb); (try clear hb2); (try clear hk); (try clear hi); (try clear ho0); obtain ⟨⟨hcz101_0, hcz101_1, hcz101_2, hcz101_3, hcz101_4, hcz101_5, hcz101_6, hcz101_7, hcz101_8, hcz101_9, hcz101_10, hcz101_11, hcz101_12, hcz101_13, hcz101_14⟩, hfz101_0, hfz101_1, hfz101_2, hfz101_3, hfz101_4, hfz101_5, hfz101_6, hfz101_7, hfz101_8, hfz101_9, hfz101_10, hfz101_11, hfz101_12, hfz101_13, hfz101_14⟩ := cf15 BK302.out))
                         refine bodyPost_ret (results_ct rfl _ _ gb302 27 #[.int .i64 0, .int .i64 0, .int .i64 0, .string (⟨#[]⟩ : ByteArray), .bool false, .int .u64 0, .int .u64 0, .bool false, .int .u64 0, .int .u64 0, .bool false, .int .u64 0, .int .u64 0, .bool false, .slice none 0 0] (0, 0) _ rfl (by (with_reducible repeat (first | refine blk_drewN ?_ _ | refine blk_drew ?_ | refine blk_alloc ?_ _)); refine blk_put (cs := #[.int .i64 0, .int .i64 0, .int .i64 0, .string (⟨#[]⟩ : ByteArray), .bool false, .int .u64 0, .int .u64 0, .bool false, .int .u64 0, .int .u64 0, .bool false, .int .u64 0, .int .u64 0, .bool false, .slice none 0 0]) ?_ 14 _ rfl; (with_reducible repeat (first | refine blk_drewN ?_ _ | refine blk_drew ?_ | refine blk_alloc ?_ _)); refine blk_put (cs := #[.int .i64 0, .int .i64 0, .int .i64 0, .string (⟨#[]⟩ : ByteArray), .bool false, .int .u64 0, .int .u64 0, .bool false, .int .u64 0, .int .u64 0, .bool false, .int .u64 0, .int .u64 0, .bool false, .slice none 0 0]) ?_ 13 _ rfl; (with_reducible repeat (first | refine blk_drewN ?_ _ | refine blk_drew ?_ | refine blk_alloc ?_ _)); refine blk_put (cs := #[.int .i64 0, .int .i64 0, .int .i64 0, .string (⟨#[]⟩ : ByteArray), .bool false, .int .u64 0, .int .u64 0, .bool false, .int .u64 0, .int .u64 0, .bool false, .int .u64 0, .int .u64 0, .bool false, .slice none 0 0]) ?_ 12 _ rfl; (with_reducible repeat (first | refine blk_drewN ?_ _ | refine blk_drew ?_ | refine blk_alloc ?_ _)); refine blk_put (cs := #[.int .i64 0, .int .i64 0, .int .i64 0, .string (⟨#[]⟩ : ByteArray), .bool false, .int .u64 0, .int .u64 0, .bool false, .int .u64 0, .int .u64 0, .bool false, .int .u64 0, .int .u64 0, .bool false, .slice none 0 0]) ?_ 11 _ rfl; (with_reducible repeat (first | refine blk_drewN ?_ _ | refine blk_drew ?_ | refine blk_alloc ?_ _)); refine blk_put (cs := #[.int .i64 0, .int .i64 0, .int .i64 0, .string (⟨#[]⟩ : ByteArray), .bool false, .int .u64 0, .int .u64 0, .bool false, .int .u64 0, .int .u64 0, .bool false, .int .u64 0, .int .u64 0, .bool false, .slice none 0 0]) ?_ 10 _ rfl; (with_reducible repeat (first | refine blk_drewN ?_ _ | refine blk_drew ?_ | refine blk_alloc ?_ _)); refine blk_put (cs := #[.int .i64 0, .int .i64 0, .int .i64 0, .string (⟨#[]⟩ : ByteArray), .bool false, .int .u64 0, .int .u64 0, .bool false, .int .u64 0, .int .u64 0, .bool false, .int .u64 0, .int .u64 0, .bool false, .slice none 0 0]) ?_ 9 _ rfl; (with_reducible repeat (first | refine blk_drewN ?_ _ | refine blk_drew ?_ | refine blk_alloc ?_ _)); refine blk_put (cs := #[.int .i64 0, .int .i64 0, .int .i64 0, .string (⟨#[]⟩ : ByteArray), .bool false, .int .u64 0, .int .u64 0, .bool false, .int .u64 0, .int .u64 0, .bool false, .int .u64 0, .int .u64 0, .bool false, .slice none 0 0]) ?_ 8 _ rfl; (with_reducible repeat (first | refine blk_drewN ?_ _ | refine blk_drew ?_ | refine blk_alloc ?_ _)); refine blk_put (cs := #[.int .i64 0, .int .i64 0, .int .i64 0, .string (⟨#[]⟩ : ByteArray), .bool false, .int .u64 0, .int .u64 0, .bool false, .int .u64 0, .int .u64 0, .bool false, .int .u64 0, .int .u64 0, .bool false, .slice none 0 0]) ?_ 7 _ rfl; (with_reducible repeat (first | refine blk_drewN ?_ _ | refine blk_drew ?_ | refine blk_alloc ?_ _)); refine blk_put (cs := #[.int .i64 0, .int .i64 0, .int .i64 0, .string (⟨#[]⟩ : ByteArray), .bool false, .int .u64 0, .int .u64 0, .bool false, .int .u64 0, .int .u64 0, .bool false, .int .u64 0, .int .u64 0, .bool false, .slice none 0 0]) ?_ 6 _ rfl; (with_reducible repeat (first | refine blk_drewN ?_ _ | refine blk_drew ?_ | refine blk_alloc ?_ _)); refine blk_put (cs := #[.int .i64 0, .int .i64 0, .int .i64 0, .string (⟨#[]⟩ : ByteArray), .bool false, .int .u64 0, .int .u64 0, .bool false, .int .u64 0, .int .u64 0, .bool false, .int .u64 0, .int .u64 0, .bool false, .slice none 0 0]) ?_ 5 _ rfl; (with_reducible repeat (first | refine blk_drewN ?_ _ | refine blk_drew ?_ | refine blk_alloc ?_ _)); refine blk_put (cs := #[.int .i64 0, .int .i64 0, .int .i64 0, .string (⟨#[]⟩ : ByteArray), .bool false, .int .u64 0, .int .u64 0, .bool false, .int .u64 0, .int .u64 0, .bool false, .int .u64 0, .int .u64 0, .bool false, .slice none 0 0]) ?_ 4 _ rfl; (with_reducible repeat (first | refine blk_drewN ?_ _ | refine blk_drew ?_ | refine blk_alloc ?_ _)); refine blk_put (cs := #[.int .i64 0, .int .i64 0, .int .i64 0, .string (⟨#[]⟩ : ByteArray), .bool false, .int .u64 0, .int .u64 0, .bool false, .int .u64 0, .int .u64 0, .bool false, .int .u64 0, .int .u64 0, .bool false, .slice none 0 0]) ?_ 3 _ rfl; (with_reducible repeat (first | refine blk_drewN ?_ _ | refine blk_drew ?_ | refine blk_alloc ?_ _)); refine blk_put (cs := #[.int .i64 0, .int .i64 0, .int .i64 0, .string (⟨#[]⟩ : ByteArray), .bool false, .int .u64 0, .int .u64 0, .bool false, .int .u64 0, .int .u64 0, .bool false, .int .u64 0, .int .u64 0, .bool false, .slice none 0 0]) ?_ 2 _ rfl; (with_reducible repeat (first | refine blk_drewN ?_ _ | refine blk_drew ?_ | refine blk_alloc ?_ _)); refine blk_put (cs := #[.int .i64 0, .int .i64 0, .int .i64 0, .string (⟨#[]⟩ : ByteArray), .bool false, .int .u64 0, .int .u64 0, .bool false, .int .u64 0, .int .u64 0, .bool false, .int .u64 0, .int .u64 0, .bool false, .slice none 0 0]) ?_ 1 _ rfl; (with_reducible repeat (first | refine blk_drewN ?_ _ | refine blk_drew ?_ | refine blk_alloc ?_ _)); refine blk_put (cs := #[.int .i64 0, .int .i64 0, .int .i64 0, .string (⟨#[]⟩ : ByteArray), .bool false, .int .u64 0, .int .u64 0, .bool false, .int .u64 0, .int .u64 0, .bool false, .int .u64 0, .int .u64 0, .bool false, .slice none 0 0]) ?_ 0 _ rfl; (with_reducible repeat (first | refine blk_drewN ?_ _ | refine blk_drew ?_ | refine blk_alloc ?_ _)); exact BK302.out) Tryd.underlying27 rfl (by kernel_rfl)) rfl ?_
                         exact ⟨_, by first | rfl | (simp [errW_none, errW_some] <;> rfl) | (simp only [← hji78]; first | rfl | (simp [errW_none, errW_some] <;> rfl)) | (simp [*, errW_none, errW_some] <;> rfl), by first | exact Kd.R_nil _ _ _ _ _ | exact Kd.N_nil _ _ _ _ _ | exact Kd.V_nil _ _ _ _ _ | exact Kd.Q_nil _ _ _ _ _ | exact Kd.S_nil _ _ _ _ _, hbx HB.out⟩
                       ·rw [if_neg c80] at H
                        exact absurd H (by simp)
                      ·rw [if_neg c79] at H
                       exact absurd H (by simp)
                  ·rw [if_neg c30] at H
                   exact absurd H (by simp)
                 ·rw [if_neg c29] at H
                  exact absurd H (by simp)
                ·rw [if_neg c27] at H
                 exact absurd H (by simp)
               ·rw [if_neg c26] at H
                exact absurd H (by simp)
              ·rw [if_neg c24] at H
               exact absurd H (by simp)
             ·rw [if_neg c23] at H
              exact absurd H (by simp)
            ·rw [if_neg c22] at H
             exact absurd H (by simp)
           ·rw [if_neg c21] at H
            exact absurd H (by simp)
          ·rw [if_neg c19] at H
           exact absurd H (by simp)
         ·rw [if_neg c17] at H
          exact absurd H (by simp)
        ·rw [if_neg c15] at H
         exact absurd H (by simp)
       ·rw [if_neg c14] at H
        exact absurd H (by simp)
      ·rw [if_neg c12] at H
       exact absurd H (by simp)
     ·rw [if_neg c11] at H
      exact absurd H (by simp)
    ·rw [if_neg c9] at H
     exact absurd H (by simp)

end Go.Proofs.YtcoekgnbncocnaaDoor.Pa


namespace Go.Proofs.YtcoekgnbncocnaaDoor.Pa
open Go.RowKit Go.Proofs.YtcoekgnbncocnaaDoorW.PrintWords Go.Proofs.YtcoekgnbncocnaaDoorW.PrintLast Go.Proofs.YtcoekgnbncocnaaDoorW.PrintMore
attribute [local go_sem] max2_int min2_int max_two min_two max_three min_three max_four min_four   -- for this text's walks alone
set_option linter.unusedVariables false
set_option linter.unusedSimpArgs false

attribute [local go_sem high] eqA24
def ddilaw36_awake.f (k : Nat)  : Option (Bool) := (dhcp_Encode.f k 1 0 0 (⟨#[99]⟩ : ByteArray) false 0 0 false 0 0 false 0 0 false ([] : List (S61))).bind fun bt378 => ((dhcp_Decode.f k bt378.1).bind fun bt380 => ((dhcp_Encode.f k 1 0 0 (⟨#[]⟩ : ByteArray) false 0 0 false 0 0 false 0 0 false ([] : List (S61))).bind fun bt399 => ((dhcp_Lease.f k 0 0 0 (⟨#[]⟩ : ByteArray) false 0 0 false 0 0 false 0 0 false (([(⟨51, (⟨#[0, 0, 0, 100]⟩ : ByteArray)⟩ : S61)] : List (S61)))).bind fun bt404 => ((dhcp_Grant.f k 1 0 0 (⟨#[99]⟩ : ByteArray) false 0 0 false 0 0 false 0 0 false ([] : List (S61)) false 0 7 false 0 0 24 (⟨#[]⟩ : ByteArray) ([] : List (S139)) ([] : List (S141)) ([] : List (S61)) 80).bind fun bt408 => ((dhcp_Wanted.f k 0 0 0 (⟨#[]⟩ : ByteArray) false 0 9 false 0 0 false 0 0 false (([(⟨50, (⟨#[49, 50, 51, 52, 53, 54, 55, 56]⟩ : ByteArray)⟩ : S61)] : List (S61)))).bind fun bt429 => (if bt378.2 = 0 then (if (bt378.1.size : Int) = 24 then (if bt380.2.2.2.2.2.2.2.2.2.2.2.2.2.2.2 = 0 then ((ddiref36_Same.f k 1 0 0 (⟨#[99]⟩ : ByteArray) false 0 0 false 0 0 false 0 0 false ([] : List (S61)) bt380.1 bt380.2.1 bt380.2.2.1 bt380.2.2.2.1 bt380.2.2.2.2.1 bt380.2.2.2.2.2.1 bt380.2.2.2.2.2.2.1 bt380.2.2.2.2.2.2.2.1 bt380.2.2.2.2.2.2.2.2.1 bt380.2.2.2.2.2.2.2.2.2.1 bt380.2.2.2.2.2.2.2.2.2.2.1 bt380.2.2.2.2.2.2.2.2.2.2.2.1 bt380.2.2.2.2.2.2.2.2.2.2.2.2.1 bt380.2.2.2.2.2.2.2.2.2.2.2.2.2.1 bt380.2.2.2.2.2.2.2.2.2.2.2.2.2.2.1).bind fun t434 => (if t434 = true then (if bt399.2 = 1 then (if bt404.1 = 100 then (if bt404.2.1 = 50 then (if bt404.2.2.1 = 87 then (if bt404.2.2.2 = true then (if (!bt408.2.2.2.2.2.2.2.1 && (bt408.2.2.2.2.2.2.2.2.1 == 0 && (bt408.2.2.2.2.2.2.2.2.2.1 == 7))) = true then (if (bt408.2.2.2.2.2.2.2.2.2.2.2.2.2.2.length : Int) = 4 then (if 0 < (bt408.2.2.2.2.2.2.2.2.2.2.2.2.2.2.length : Int) then (if ((rd_T61 bt408.2.2.2.2.2.2.2.2.2.2.2.2.2.2 0).f1).toList = ([255, 255, 255, 0] : List UInt8) then (if (!bt429.1 && (bt429.2.1 == 0 && (bt429.2.2.1 == 9))) = true then (if bt429.2.2.2 = true then ((dhcp_Valid.f k 1 0 0 (⟨#[]⟩ : ByteArray) false 0 0 false 0 0 false 0 0 false ([] : List (S61))).bind fun t436 => (some (!t436))) else (none)) else (none)) else (none)) else (none)) else (none)) else (none)) else (none)) else (none)) else (none)) else (none)) else (none)) else (none))) else (none)) else (none)) else (none)))))))
theorem ddilaw36_awake.mono : ∀ k, LeO (ddilaw36_awake.f k ) (ddilaw36_awake.f (k + 1) ) := by
 intro  k
 unfold ddilaw36_awake.f
 repeat' first
   | (with_reducible exact ddiref36_Same.mono _ _ _ _ _ _ _ _ _ _ _ _ _ _ _ _ _ _ _ _ _ _ _ _ _ _ _ _ _ _ _)
   | (with_reducible exact dhcp_Decode.mono _ _)
   | (with_reducible exact dhcp_Encode.mono _ _ _ _ _ _ _ _ _ _ _ _ _ _ _ _)
   | (with_reducible exact dhcp_Grant.mono _ _ _ _ _ _ _ _ _ _ _ _ _ _ _ _ _ _ _ _ _ _ _ _ _ _ _ _)
   | (with_reducible exact dhcp_Lease.mono _ _ _ _ _ _ _ _ _ _ _ _ _ _ _ _)
   | (with_reducible exact dhcp_Valid.mono _ _ _ _ _ _ _ _ _ _ _ _ _ _ _ _)
   | (with_reducible exact dhcp_Wanted.mono _ _ _ _ _ _ _ _ _ _ _ _ _ _ _ _)
   | (with_reducible exact LeO.refl _)
   | (with_reducible exact LeO.none _)
   | (with_reducible refine LeO.ite ?_ ?_)
   | (with_reducible refine LeO.bind ?_ (fun _ => ?_))
   | exact ddiref36_Same.mono _ _ _ _ _ _ _ _ _ _ _ _ _ _ _ _ _ _ _ _ _ _ _ _ _ _ _ _ _ _ _
   | exact dhcp_Decode.mono _ _
   | exact dhcp_Encode.mono _ _ _ _ _ _ _ _ _ _ _ _ _ _ _ _
   | exact dhcp_Grant.mono _ _ _ _ _ _ _ _ _ _ _ _ _ _ _ _ _ _ _ _ _ _ _ _ _ _ _ _
   | exact dhcp_Lease.mono _ _ _ _ _ _ _ _ _ _ _ _ _ _ _ _
   | exact dhcp_Valid.mono _ _ _ _ _ _ _ _ _ _ _ _ _ _ _ _
   | exact dhcp_Wanted.mono _ _ _ _ _ _ _ _ _ _ _ _ _ _ _ _
   | exact LeO.none _
   | refine LeO.ite ?_ ?_
   | refine LeO.bind ?_ (fun _ => ?_)
set_option maxHeartbeats 8000000 in
set_option maxRecDepth 100000 in
theorem ddilaw36_awake.calls (k : Nat)  (r : Bool) (w : World) (h : ddilaw36_awake.f k  = some r) :
  Calls Tryd.prog 18 #[] w fun e w' => e = .returned (.bool r) ∧ Below w.heap.size w w' := by
 have hu27 := Tryd.underlying27
 have hu61 := Tryd.underlying61
 have hu24 := Tryd.underlying24
 have hu49 := Tryd.underlying49
 have hu53 := Tryd.underlying53
 have HB := Aside0.mk (Below.refl w.heap.size w)
 have H : ((dhcp_Encode.f k 1 0 0 (⟨#[99]⟩ : ByteArray) false 0 0 false 0 0 false 0 0 false ([] : List (S61))).bind fun bt378 => ((dhcp_Decode.f k bt378.1).bind fun bt380 => ((dhcp_Encode.f k 1 0 0 (⟨#[]⟩ : ByteArray) false 0 0 false 0 0 false 0 0 false ([] : List (S61))).bind fun bt399 => ((dhcp_Lease.f k 0 0 0 (⟨#[]⟩ : ByteArray) false 0 0 false 0 0 false 0 0 false (([(⟨51, (⟨#[0, 0, 0, 100]⟩ : ByteArray)⟩ : S61)] : List (S61)))).bind fun bt404 => ((dhcp_Grant.f k 1 0 0 (⟨#[99]⟩ : ByteArray) false 0 0 false 0 0 false 0 0 false ([] : List (S61)) false 0 7 false 0 0 24 (⟨#[]⟩ : ByteArray) ([] : List (S139)) ([] : List (S141)) ([] : List (S61)) 80).bind fun bt408 => ((dhcp_Wanted.f k 0 0 0 (⟨#[]⟩ : ByteArray) false 0 9 false 0 0 false 0 0 false (([(⟨50, (⟨#[49, 50, 51, 52, 53, 54, 55, 56]⟩ : ByteArray)⟩ : S61)] : List (S61)))).bind fun bt429 => (if bt378.2 = 0 then (if (bt378.1.size : Int) = 24 then (if bt380.2.2.2.2.2.2.2.2.2.2.2.2.2.2.2 = 0 then ((ddiref36_Same.f k 1 0 0 (⟨#[99]⟩ : ByteArray) false 0 0 false 0 0 false 0 0 false ([] : List (S61)) bt380.1 bt380.2.1 bt380.2.2.1 bt380.2.2.2.1 bt380.2.2.2.2.1 bt380.2.2.2.2.2.1 bt380.2.2.2.2.2.2.1 bt380.2.2.2.2.2.2.2.1 bt380.2.2.2.2.2.2.2.2.1 bt380.2.2.2.2.2.2.2.2.2.1 bt380.2.2.2.2.2.2.2.2.2.2.1 bt380.2.2.2.2.2.2.2.2.2.2.2.1 bt380.2.2.2.2.2.2.2.2.2.2.2.2.1 bt380.2.2.2.2.2.2.2.2.2.2.2.2.2.1 bt380.2.2.2.2.2.2.2.2.2.2.2.2.2.2.1).bind fun t434 => (if t434 = true then (if bt399.2 = 1 then (if bt404.1 = 100 then (if bt404.2.1 = 50 then (if bt404.2.2.1 = 87 then (if bt404.2.2.2 = true then (if (!bt408.2.2.2.2.2.2.2.1 && (bt408.2.2.2.2.2.2.2.2.1 == 0 && (bt408.2.2.2.2.2.2.2.2.2.1 == 7))) = true then (if (bt408.2.2.2.2.2.2.2.2.2.2.2.2.2.2.length : Int) = 4 then (if 0 < (bt408.2.2.2.2.2.2.2.2.2.2.2.2.2.2.length : Int) then (if ((rd_T61 bt408.2.2.2.2.2.2.2.2.2.2.2.2.2.2 0).f1).toList = ([255, 255, 255, 0] : List UInt8) then (if (!bt429.1 && (bt429.2.1 == 0 && (bt429.2.2.1 == 9))) = true then (if bt429.2.2.2 = true then ((dhcp_Valid.f k 1 0 0 (⟨#[]⟩ : ByteArray) false 0 0 false 0 0 false 0 0 false ([] : List (S61))).bind fun t436 => (some (!t436))) else (none)) else (none)) else (none)) else (none)) else (none)) else (none)) else (none)) else (none)) else (none)) else (none)) else (none)) else (none))) else (none)) else (none)) else (none)))))))) = some r := h
 clear h
 replace H := Option.bind_eq_some_iff.mp H
 obtain ⟨⟨t378, t379⟩, A10, H⟩ := H
 (try dsimp only at H)
 have A1 := Aside0.mk A10
 clear A10
 replace H := Option.bind_eq_some_iff.mp H
 obtain ⟨⟨t380, t381, t382, t383, t384, t385, t386, t387, t388, t389, t390, t391, t392, t393, t394, t397⟩, A20, H⟩ := H
 (try dsimp only at H)
 have A2 := Aside0.mk A20
 clear A20
 replace H := Option.bind_eq_some_iff.mp H
 obtain ⟨⟨t399, t400⟩, A30, H⟩ := H
 (try dsimp only at H)
 have A3 := Aside0.mk A30
 clear A30
 obtain ⟨y401, hy401⟩ : ∃ y_ : List (S61), y_ = (([(⟨51, (⟨#[0, 0, 0, 100]⟩ : ByteArray)⟩ : S61)] : List (S61))) := ⟨_, rfl⟩
 replace H : ((dhcp_Lease.f k 0 0 0 (⟨#[]⟩ : ByteArray) false 0 0 false 0 0 false 0 0 false y401).bind fun bt404 => ((dhcp_Grant.f k 1 0 0 (⟨#[99]⟩ : ByteArray) false 0 0 false 0 0 false 0 0 false ([] : List (S61)) false 0 7 false 0 0 24 (⟨#[]⟩ : ByteArray) ([] : List (S139)) ([] : List (S141)) ([] : List (S61)) 80).bind fun bt408 => ((dhcp_Wanted.f k 0 0 0 (⟨#[]⟩ : ByteArray) false 0 9 false 0 0 false 0 0 false (([(⟨50, (⟨#[49, 50, 51, 52, 53, 54, 55, 56]⟩ : ByteArray)⟩ : S61)] : List (S61)))).bind fun bt429 => (if t379 = 0 then (if (t378.size : Int) = 24 then (if t397 = 0 then ((ddiref36_Same.f k 1 0 0 (⟨#[99]⟩ : ByteArray) false 0 0 false 0 0 false 0 0 false ([] : List (S61)) t380 t381 t382 t383 t384 t385 t386 t387 t388 t389 t390 t391 t392 t393 t394).bind fun t434 => (if t434 = true then (if t400 = 1 then (if bt404.1 = 100 then (if bt404.2.1 = 50 then (if bt404.2.2.1 = 87 then (if bt404.2.2.2 = true then (if (!bt408.2.2.2.2.2.2.2.1 && (bt408.2.2.2.2.2.2.2.2.1 == 0 && (bt408.2.2.2.2.2.2.2.2.2.1 == 7))) = true then (if (bt408.2.2.2.2.2.2.2.2.2.2.2.2.2.2.length : Int) = 4 then (if 0 < (bt408.2.2.2.2.2.2.2.2.2.2.2.2.2.2.length : Int) then (if ((rd_T61 bt408.2.2.2.2.2.2.2.2.2.2.2.2.2.2 0).f1).toList = ([255, 255, 255, 0] : List UInt8) then (if (!bt429.1 && (bt429.2.1 == 0 && (bt429.2.2.1 == 9))) = true then (if bt429.2.2.2 = true then ((dhcp_Valid.f k 1 0 0 (⟨#[]⟩ : ByteArray) false 0 0 false 0 0 false 0 0 false ([] : List (S61))).bind fun t436 => (some (!t436))) else (none)) else (none)) else (none)) else (none)) else (none)) else (none)) else (none)) else (none)) else (none)) else (none)) else (none)) else (none))) else (none)) else (none)) else (none))))) = some r := by first | (rw [hy401]; with_reducible exact H) | (have H2_ := (Option.bind_some _ _).symm.trans H; rw [hy401]; with_reducible exact H2_) | (have H2_ := (Option.bind_some _ _).symm.trans H; with_reducible exact H2_) | with_reducible exact H | (rw [hy401]; exact H) | exact H
 have Ny401 := Aside0.mk hy401
 clear hy401
 replace H := Option.bind_eq_some_iff.mp H
 obtain ⟨⟨t404, t405, t406, t407⟩, A40, H⟩ := H
 (try dsimp only at H)
 have A4 := Aside0.mk A40
 clear A40
 replace H := Option.bind_eq_some_iff.mp H
 obtain ⟨⟨t408, t409, t410, t411, t412, t413, t414, t415, t416, t417, t418, t419, t420, t421, t422⟩, A50, H⟩ := H
 (try dsimp only at H)
 have A5 := Aside0.mk A50
 clear A50
 obtain ⟨y426, hy426⟩ : ∃ y_ : List (S61), y_ = (([(⟨50, (⟨#[49, 50, 51, 52, 53, 54, 55, 56]⟩ : ByteArray)⟩ : S61)] : List (S61))) := ⟨_, rfl⟩
 replace H : ((dhcp_Wanted.f k 0 0 0 (⟨#[]⟩ : ByteArray) false 0 9 false 0 0 false 0 0 false y426).bind fun bt429 => (if t379 = 0 then (if (t378.size : Int) = 24 then (if t397 = 0 then ((ddiref36_Same.f k 1 0 0 (⟨#[99]⟩ : ByteArray) false 0 0 false 0 0 false 0 0 false ([] : List (S61)) t380 t381 t382 t383 t384 t385 t386 t387 t388 t389 t390 t391 t392 t393 t394).bind fun t434 => (if t434 = true then (if t400 = 1 then (if t404 = 100 then (if t405 = 50 then (if t406 = 87 then (if t407 = true then (if (!t415 && (t416 == 0 && (t417 == 7))) = true then (if (t422.length : Int) = 4 then (if 0 < (t422.length : Int) then (if ((rd_T61 t422 0).f1).toList = ([255, 255, 255, 0] : List UInt8) then (if (!bt429.1 && (bt429.2.1 == 0 && (bt429.2.2.1 == 9))) = true then (if bt429.2.2.2 = true then ((dhcp_Valid.f k 1 0 0 (⟨#[]⟩ : ByteArray) false 0 0 false 0 0 false 0 0 false ([] : List (S61))).bind fun t436 => (some (!t436))) else (none)) else (none)) else (none)) else (none)) else (none)) else (none)) else (none)) else (none)) else (none)) else (none)) else (none)) else (none))) else (none)) else (none)) else (none))) = some r := by first | (rw [hy426]; with_reducible exact H) | (have H2_ := (Option.bind_some _ _).symm.trans H; rw [hy426]; with_reducible exact H2_) | (have H2_ := (Option.bind_some _ _).symm.trans H; with_reducible exact H2_) | with_reducible exact H | (rw [hy426]; exact H) | exact H
 have Ny426 := Aside0.mk hy426
 clear hy426
 replace H := Option.bind_eq_some_iff.mp H
 obtain ⟨⟨t429, t430, t431, t432⟩, A60, H⟩ := H
 (try dsimp only at H)
 have A6 := Aside0.mk A60
 clear A60
 by_cases c7 : t379 = 0
 ·rw [if_pos c7] at H
  have c7b0 : (t379 == 0) = true := beq_iff_eq.mpr c7
  have c7b1 : (t379 != 0) = false := bne_eq_false_iff_eq.mpr c7
  clear c7
  by_cases c8 : (t378.size : Int) = 24
  ·rw [if_pos c8] at H
   have c8b0 : ((t378.size : Int) == 24) = true := beq_iff_eq.mpr c8
   have c8b1 : ((t378.size : Int) != 24) = false := bne_eq_false_iff_eq.mpr c8
   clear c8
   by_cases c9 : t397 = 0
   ·rw [if_pos c9] at H
    have c9b0 : (t397 == 0) = true := beq_iff_eq.mpr c9
    have c9b1 : (t397 != 0) = false := bne_eq_false_iff_eq.mpr c9
    clear c9
    replace H := Option.bind_eq_some_iff.mp H
    obtain ⟨t434, A100, H⟩ := H
    (try dsimp only at H)
    have A10 := Aside0.mk A100
    clear A100
    by_cases c11 : t434 = true
    ·subst c11
     rw [if_pos rfl] at H
     by_cases c12 : t400 = 1
     ·rw [if_pos c12] at H
      have c12b0 : (t400 == 1) = true := beq_iff_eq.mpr c12
      have c12b1 : (t400 != 1) = false := bne_eq_false_iff_eq.mpr c12
      clear c12
      by_cases c13 : t404 = 100
      ·rw [if_pos c13] at H
       have c13b0 : (t404 == 100) = true := beq_iff_eq.mpr c13
       have c13b1 : (t404 != 100) = false := bne_eq_false_iff_eq.mpr c13
       clear c13
       by_cases c14 : t405 = 50
       ·rw [if_pos c14] at H
        have c14b0 : (t405 == 50) = true := beq_iff_eq.mpr c14
        have c14b1 : (t405 != 50) = false := bne_eq_false_iff_eq.mpr c14
        clear c14
        by_cases c15 : t406 = 87
        ·rw [if_pos c15] at H
         have c15b0 : (t406 == 87) = true := beq_iff_eq.mpr c15
         have c15b1 : (t406 != 87) = false := bne_eq_false_iff_eq.mpr c15
         clear c15
         by_cases c16 : t407 = true
         ·subst c16
          rw [if_pos rfl] at H
          by_cases c17 : (!t415 && (t416 == 0 && (t417 == 7))) = true
          ·rw [if_pos c17] at H
           (try (have c17b7 : (!t415) = true := (Bool.and_eq_true_iff.1 c17).1))
           (try (have c17b8 : (t416 == 0 && (t417 == 7)) = true := (Bool.and_eq_true_iff.1 c17).2))
           have c17b0 : (!t415 && (t416 == 0 && (t417 == 7))) = true := c17
           clear c17
           by_cases c18 : (t422.length : Int) = 4
           ·rw [if_pos c18] at H
            have c18b0 : ((t422.length : Int) == 4) = true := beq_iff_eq.mpr c18
            have c18b1 : ((t422.length : Int) != 4) = false := bne_eq_false_iff_eq.mpr c18
            clear c18
            by_cases c19 : 0 < (t422.length : Int)
            ·rw [if_pos c19] at H
             have c19b0 : decide (0 < (t422.length : Int)) = true := decide_eq_true c19
             have c19b1 : decide (0 < t422.length) = true := decide_eq_true (by omega)
             clear c19
             by_cases c20 : ((rd_T61 t422 0).f1).toList = ([255, 255, 255, 0] : List UInt8)
             ·rw [if_pos c20] at H
              have c20b0 : (((rd_T61 t422 0).f1).toList == ([255, 255, 255, 0] : List UInt8)) = true := beq_iff_eq.mpr c20
              have c20b1 : (((rd_T61 t422 0).f1).toList != ([255, 255, 255, 0] : List UInt8)) = false := bne_eq_false_iff_eq.mpr c20
              clear c20
              by_cases c21 : (!t429 && (t430 == 0 && (t431 == 9))) = true
              ·rw [if_pos c21] at H
               (try (have c21b7 : (!t429) = true := (Bool.and_eq_true_iff.1 c21).1))
               (try (have c21b8 : (t430 == 0 && (t431 == 9)) = true := (Bool.and_eq_true_iff.1 c21).2))
               have c21b0 : (!t429 && (t430 == 0 && (t431 == 9))) = true := c21
               clear c21
               by_cases c22 : t432 = true
               ·subst c22
                rw [if_pos rfl] at H
                replace H := Option.bind_eq_some_iff.mp H
                obtain ⟨t436, A230, H⟩ := H
                replace H : (some (!t436)) = some r := H
                have A23 := Aside0.mk A230
                clear A230
                obtain rfl := Option.some.inj H
                go_enter Tryd.func18, Tryd.ntmps18
                go_wp2_with (first | ((with_reducible refine gate_dst (N := 1) rfl ?_); (try (refine gate_guard (by rfl) ?_; dsimp only)); refine box_event ?hg (N := 1) ?hd (cs := #[.int .i64 0, .int .i64 0, .int .i64 0, .string (⟨#[]⟩ : ByteArray), .bool false, .int .u64 0, .int .u64 0, .bool false, .int .u64 0, .int .u64 0, .bool false, .int .u64 0, .int .u64 0, .bool false, .slice none 0 0]) (t := 27) ?hr ?_; (case hd => rfl); (case hg => rfl); (case hr => first | (go_simp; done) | (go_simp; rfl)); intro gb377 hg w24 hbox hb; have n0_ := Aside0.mk (below_step (hbx HB.out) hb); have n1_ := Aside0.mk (hbox); have n2_ := Aside0.mk ((by rw [hg]; exact (below_size (hbx HB.out)) : w.heap.size ≤ gb377)); have n3_ := Aside0.mk ((by rw [hg]; exact (below_size (hbx HB.out)) : w.heap.size ≤ gb377)); clear HB; have HB := n0_; have BK377 := n1_; have GW377 := n2_; have GE377 := n3_; clear n0_ n1_ n2_ n3_; clear hb hbox hg; obtain ⟨⟨hcz25_0, hcz25_1, hcz25_2, hcz25_3, hcz25_4, hcz25_5, hcz25_6, hcz25_7, hcz25_8, hcz25_9, hcz25_10, hcz25_11, hcz25_12, hcz25_13, hcz25_14⟩, hfz25_0, hfz25_1, hfz25_2, hfz25_3, hfz25_4, hfz25_5, hfz25_6, hfz25_7, hfz25_8, hfz25_9, hfz25_10, hfz25_11, hfz25_12, hfz25_13, hfz25_14⟩ := cf15 BK377.out) | ((with_reducible refine gate_callee (f := 21) rfl ?_); refine goesL_ (some 18) rfl rfl Tryd.func21 (by kernel_rfl) rfl #[.agg #[.int .i64 1, .int .i64 0, .int .i64 0, .string (⟨#[99]⟩ : ByteArray), .bool false, .int .u64 0, .int .u64 0, .bool false, .int .u64 0, .int .u64 0, .bool false, .int .u64 0, .int .u64 0, .bool false, .slice none 0 0]] rfl (by (try simp only [List.map_toArray, List.map_cons, List.map_nil]); first | done | rfl | (simp only [List.length_drop, List.length_take]; rfl)) ?_; (refine (dhcp_Encode.calls k 1 0 0 (⟨#[99]⟩ : ByteArray) false 0 0 false 0 0 false 0 0 false _ _ ([] : List (S61)) t378 t379 _ ?side1 ?side2 A1.out).mono ?_); (case side1 => exact Kd.C_nil _ _); (case side2 => exact Nat.le_refl _); rintro e w26 ⟨rfl, hb⟩; refine ⟨_, rfl, ?_⟩; have n0_ := Aside0.mk (blk_below (g := gb377) (o := .cells #[.int .i64 1, .int .i64 0, .int .i64 0, .string (⟨#[99]⟩ : ByteArray), .bool false, .int .u64 0, .int .u64 0, .bool false, .int .u64 0, .int .u64 0, .bool false, .int .u64 0, .int .u64 0, .bool false, .slice none 0 0] 27 (0, 0)) (by (with_reducible repeat (first | refine blk_drewN ?_ _ | refine blk_drew ?_ | refine blk_alloc ?_ _)); refine blk_put (cs := #[.int .i64 1, .int .i64 0, .int .i64 0, .string (⟨#[99]⟩ : ByteArray), .bool false, .int .u64 0, .int .u64 0, .bool false, .int .u64 0, .int .u64 0, .bool false, .int .u64 0, .int .u64 0, .bool false, .slice none 0 0]) ?_ 14 _ rfl; (with_reducible repeat (first | refine blk_drewN ?_ _ | refine blk_drew ?_ | refine blk_alloc ?_ _)); refine blk_put (cs := #[.int .i64 1, .int .i64 0, .int .i64 0, .string (⟨#[99]⟩ : ByteArray), .bool false, .int .u64 0, .int .u64 0, .bool false, .int .u64 0, .int .u64 0, .bool false, .int .u64 0, .int .u64 0, .bool false, .slice none 0 0]) ?_ 13 _ rfl; (with_reducible repeat (first | refine blk_drewN ?_ _ | refine blk_drew ?_ | refine blk_alloc ?_ _)); refine blk_put (cs := #[.int .i64 1, .int .i64 0, .int .i64 0, .string (⟨#[99]⟩ : ByteArray), .bool false, .int .u64 0, .int .u64 0, .bool false, .int .u64 0, .int .u64 0, .bool false, .int .u64 0, .int .u64 0, .bool false, .slice none 0 0]) ?_ 12 _ rfl; (with_reducible repeat (first | refine blk_drewN ?_ _ | refine blk_drew ?_ | refine blk_alloc ?_ _)); refine blk_put (cs := #[.int .i64 1, .int .i64 0, .int .i64 0, .string (⟨#[99]⟩ : ByteArray), .bool false, .int .u64 0, .int .u64 0, .bool false, .int .u64 0, .int .u64 0, .bool false, .int .u64 0, .int .u64 0, .bool false, .slice none 0 0]) ?_ 11 _ rfl; (with_reducible repeat (first | refine blk_drewN ?_ _ | refine blk_drew ?_ | refine blk_alloc ?_ _)); refine blk_put (cs := #[.int .i64 1, .int .i64 0, .int .i64 0, .string (⟨#[99]⟩ : ByteArray), .bool false, .int .u64 0, .int .u64 0, .bool false, .int .u64 0, .int .u64 0, .bool false, .int .u64 0, .int .u64 0, .bool false, .slice none 0 0]) ?_ 10 _ rfl; (with_reducible repeat (first | refine blk_drewN ?_ _ | refine blk_drew ?_ | refine blk_alloc ?_ _)); refine blk_put (cs := #[.int .i64 1, .int .i64 0, .int .i64 0, .string (⟨#[99]⟩ : ByteArray), .bool false, .int .u64 0, .int .u64 0, .bool false, .int .u64 0, .int .u64 0, .bool false, .int .u64 0, .int .u64 0, .bool false, .slice none 0 0]) ?_ 9 _ rfl; (with_reducible repeat (first | refine blk_drewN ?_ _ | refine blk_drew ?_ | refine blk_alloc ?_ _)); refine blk_put (cs := #[.int .i64 1, .int .i64 0, .int .i64 0, .string (⟨#[99]⟩ : ByteArray), .bool false, .int .u64 0, .int .u64 0, .bool false, .int .u64 0, .int .u64 0, .bool false, .int .u64 0, .int .u64 0, .bool false, .slice none 0 0]) ?_ 8 _ rfl; (with_reducible repeat (first | refine blk_drewN ?_ _ | refine blk_drew ?_ | refine blk_alloc ?_ _)); refine blk_put (cs := #[.int .i64 1, .int .i64 0, .int .i64 0, .string (⟨#[99]⟩ : ByteArray), .bool false, .int .u64 0, .int .u64 0, .bool false, .int .u64 0, .int .u64 0, .bool false, .int .u64 0, .int .u64 0, .bool false, .slice none 0 0]) ?_ 7 _ rfl; (with_reducible repeat (first | refine blk_drewN ?_ _ | refine blk_drew ?_ | refine blk_alloc ?_ _)); refine blk_put (cs := #[.int .i64 1, .int .i64 0, .int .i64 0, .string (⟨#[99]⟩ : ByteArray), .bool false, .int .u64 0, .int .u64 0, .bool false, .int .u64 0, .int .u64 0, .bool false, .int .u64 0, .int .u64 0, .bool false, .slice none 0 0]) ?_ 6 _ rfl; (with_reducible repeat (first | refine blk_drewN ?_ _ | refine blk_drew ?_ | refine blk_alloc ?_ _)); refine blk_put (cs := #[.int .i64 1, .int .i64 0, .int .i64 0, .string (⟨#[99]⟩ : ByteArray), .bool false, .int .u64 0, .int .u64 0, .bool false, .int .u64 0, .int .u64 0, .bool false, .int .u64 0, .int .u64 0, .bool false, .slice none 0 0]) ?_ 5 _ rfl; (with_reducible repeat (first | refine blk_drewN ?_ _ | refine blk_drew ?_ | refine blk_alloc ?_ _)); refine blk_put (cs := #[.int .i64 1, .int .i64 0, .int .i64 0, .string (⟨#[99]⟩ : ByteArray), .bool false, .int .u64 0, .int .u64 0, .bool false, .int .u64 0, .int .u64 0, .bool false, .int .u64 0, .int .u64 0, .bool false, .slice none 0 0]) ?_ 4 _ rfl; (with_reducible repeat (first | refine blk_drewN ?_ _ | refine blk_drew ?_ | refine blk_alloc ?_ _)); refine blk_put (cs := #[.int .i64 1, .int .i64 0, .int .i64 0, .string (⟨#[]⟩ : ByteArray), .bool false, .int .u64 0, .int .u64 0, .bool false, .int .u64 0, .int .u64 0, .bool false, .int .u64 0, .int .u64 0, .bool false, .slice none 0 0]) ?_ 3 _ rfl; (with_reducible repeat (first | refine blk_drewN ?_ _ | refine blk_drew ?_ | refine blk_alloc ?_ _)); refine blk_put (cs := #[.int .i64 1, .int .i64 0, .int .i64 0, .string (⟨#[]⟩ : ByteArray), .bool false, .int .u64 0, .int .u64 0, .bool false, .int .u64 0, .int .u64 0, .bool false, .int .u64 0, .int .u64 0, .bool false, .slice none 0 0]) ?_ 2 _ rfl; (with_reducible repeat (first | refine blk_drewN ?_ _ | refine blk_drew ?_ | refine blk_alloc ?_ _)); refine blk_put (cs := #[.int .i64 1, .int .i64 0, .int .i64 0, .string (⟨#[]⟩ : ByteArray), .bool false, .int .u64 0, .int .u64 0, .bool false, .int .u64 0, .int .u64 0, .bool false, .int .u64 0, .int .u64 0, .bool false, .slice none 0 0]) ?_ 1 _ rfl; (with_reducible repeat (first | refine blk_drewN ?_ _ | refine blk_drew ?_ | refine blk_alloc ?_ _)); refine blk_put (cs := #[.int .i64 0, .int .i64 0, .int .i64 0, .string (⟨#[]⟩ : ByteArray), .bool false, .int .u64 0, .int .u64 0, .bool false, .int .u64 0, .int .u64 0, .bool false, .int .u64 0, .int .u64 0, .bool false, .slice none 0 0]) ?_ 0 _ rfl; (with_reducible repeat (first | refine blk_drewN ?_ _ | refine blk_drew ?_ | refine blk_alloc ?_ _)); exact BK377.out) hb); have n1_ := Aside0.mk (below_step (hbx HB.out) hb); clear BK377; clear HB; have BK377 := n0_; have HB := n1_; clear n0_ n1_; (try clear hb); (try clear hb2); (try clear hk); (try clear hi)) | ((with_reducible refine gate_callee (f := 24) rfl ?_); refine goesL_ (some 23) rfl rfl Tryd.func24 (by kernel_rfl) rfl #[.string t378] rfl (by (try simp only [List.map_toArray, List.map_cons, List.map_nil]); first | done | rfl | (simp only [List.length_drop, List.length_take]; rfl)) ?_; (with_reducible refine (dhcp_Decode.calls k t378 t380 t381 t382 t383 t384 t385 t386 t387 t388 t389 t390 t391 t392 t393 t394 t397 _ A2.out).mono ?_); rintro e w27 ⟨v395, rfl, ho0, hb⟩; refine ⟨_, rfl, ?_⟩; have n0_ := Aside0.mk (Kd.R_lower ho0 (below_size (hbx HB.out))); have n1_ := Aside0.mk (blk_below (bkx BK377.out) hb); have n2_ := Aside0.mk (below_step (hbx HB.out) hb); clear BK377; clear HB; have HO396 := n0_; have BK377 := n1_; have HB := n2_; clear n0_ n1_ n2_; (try clear hb); (try clear hb2); (try clear hk); (try clear hi); (try clear ho0)) | ((with_reducible refine gate_dst (N := 4) rfl ?_); (try (refine gate_guard (by rfl) ?_; dsimp only)); refine box_event ?hg (N := 4) ?hd (cs := #[.int .i64 0, .int .i64 0, .int .i64 0, .string (⟨#[]⟩ : ByteArray), .bool false, .int .u64 0, .int .u64 0, .bool false, .int .u64 0, .int .u64 0, .bool false, .int .u64 0, .int .u64 0, .bool false, .slice none 0 0]) (t := 27) ?hr ?_; (case hd => rfl); (case hg => rfl); (case hr => first | (go_simp; done) | (go_simp; rfl)); intro gb398 hg w28 hbox hb; have n0_ := Aside0.mk (Kd.R_below (by (with_reducible repeat (first | apply Kd.R_alloc | apply Kd.R_drewN | apply Kd.R_drew)); exact HO396.out) hb); have n1_ := Aside0.mk (blk_below (bkx BK377.out) hb); have n2_ := Aside0.mk (below_step (hbx HB.out) hb); have n3_ := Aside0.mk (hbox); have n4_ := Aside0.mk ((by rw [hg]; exact (below_size (hbx HB.out)) : w.heap.size ≤ gb398)); have n5_ := Aside0.mk ((by rw [hg]; exact (below_size (hbx HB.out)) : w.heap.size ≤ gb398)); have n6_ := Aside0.mk ((by rw [hg]; exact Nat.ne_of_lt (blk_lt (bkx BK377.out)) : gb377 ≠ gb398)); have n7_ := Aside0.mk ((by rw [hg]; exact Nat.ne_of_gt (blk_lt (bkx BK377.out)) : gb398 ≠ gb377)); clear HO396; clear BK377; clear HB; have HO396 := n0_; have BK377 := n1_; have HB := n2_; have BK398 := n3_; have GW398 := n4_; have GE398 := n5_; have NB377_398 := n6_; have NB398_377 := n7_; clear n0_ n1_ n2_ n3_ n4_ n5_ n6_ n7_; clear hb hbox hg; have hnb29 := NB398_377.out; have hnc29 := NB377_398.out; obtain ⟨⟨hcz30_0, hcz30_1, hcz30_2, hcz30_3, hcz30_4, hcz30_5, hcz30_6, hcz30_7, hcz30_8, hcz30_9, hcz30_10, hcz30_11, hcz30_12, hcz30_13, hcz30_14⟩, hfz30_0, hfz30_1, hfz30_2, hfz30_3, hfz30_4, hfz30_5, hfz30_6, hfz30_7, hfz30_8, hfz30_9, hfz30_10, hfz30_11, hfz30_12, hfz30_13, hfz30_14⟩ := cf15 BK398.out; obtain ⟨Ao31, co31, eo31⟩ := Kd.R_slice HO396.out; subst eo31) | ((with_reducible refine gate_callee (f := 21) rfl ?_); refine goesL_ (some 28) rfl rfl Tryd.func21 (by kernel_rfl) rfl #[.agg #[.int .i64 1, .int .i64 0, .int .i64 0, .string (⟨#[]⟩ : ByteArray), .bool false, .int .u64 0, .int .u64 0, .bool false, .int .u64 0, .int .u64 0, .bool false, .int .u64 0, .int .u64 0, .bool false, .slice none 0 0]] rfl (by (try simp only [List.map_toArray, List.map_cons, List.map_nil]); first | done | rfl | (simp only [List.length_drop, List.length_take]; rfl)) ?_; (refine (dhcp_Encode.calls k 1 0 0 (⟨#[]⟩ : ByteArray) false 0 0 false 0 0 false 0 0 false _ _ ([] : List (S61)) t399 t400 _ ?side1 ?side2 A3.out).mono ?_); (case side1 => exact Kd.C_nil _ _); (case side2 => exact Nat.le_refl _); rintro e w32 ⟨rfl, hb⟩; refine ⟨_, rfl, ?_⟩; have n0_ := Aside0.mk (Kd.R_below (by (with_reducible repeat (first | apply Kd.R_alloc | apply Kd.R_drewN | apply Kd.R_drew)); exact (Kd.R_mono (Kd.R_far (p := ⟨gb398, 14, none⟩) (Kd.R_far (p := ⟨gb398, 13, none⟩) (Kd.R_far (p := ⟨gb398, 12, none⟩) (Kd.R_far (p := ⟨gb398, 11, none⟩) (Kd.R_far (p := ⟨gb398, 10, none⟩) (Kd.R_far (p := ⟨gb398, 9, none⟩) (Kd.R_far (p := ⟨gb398, 8, none⟩) (Kd.R_far (p := ⟨gb398, 7, none⟩) (Kd.R_far (p := ⟨gb398, 6, none⟩) (Kd.R_far (p := ⟨gb398, 5, none⟩) (Kd.R_far (p := ⟨gb398, 4, none⟩) (Kd.R_far (p := ⟨gb398, 3, none⟩) (Kd.R_far (p := ⟨gb398, 2, none⟩) (Kd.R_far (p := ⟨gb398, 1, none⟩) (Kd.R_far (p := ⟨gb398, 0, none⟩) (Kd.R_types HO396.out BK398.out (by decide)) (fun _ hk => hk.2) (.int .i64 t380)) (fun _ hk => hk.2) (.int .i64 t381)) (fun _ hk => hk.2) (.int .i64 t382)) (fun _ hk => hk.2) (.string t383)) (fun _ hk => hk.2) (.bool t384)) (fun _ hk => hk.2) (.int .u64 t385)) (fun _ hk => hk.2) (.int .u64 t386)) (fun _ hk => hk.2) (.bool t387)) (fun _ hk => hk.2) (.int .u64 t388)) (fun _ hk => hk.2) (.int .u64 t389)) (fun _ hk => hk.2) (.bool t390)) (fun _ hk => hk.2) (.int .u64 t391)) (fun _ hk => hk.2) (.int .u64 t392)) (fun _ hk => hk.2) (.bool t393)) (fun _ hk => hk.2) (.slice Ao31 t394.length co31)) (fun _ h_ => h_.1))) hb); have n1_ := Aside0.mk (blk_below (bkx BK377.out) hb); have n2_ := Aside0.mk (blk_below (g := gb398) (o := .cells #[.int .i64 t380, .int .i64 t381, .int .i64 t382, .string t383, .bool t384, .int .u64 t385, .int .u64 t386, .bool t387, .int .u64 t388, .int .u64 t389, .bool t390, .int .u64 t391, .int .u64 t392, .bool t393, .slice Ao31 t394.length co31] 27 (0, 0)) (by (with_reducible repeat (first | refine blk_drewN ?_ _ | refine blk_drew ?_ | refine blk_alloc ?_ _)); refine blk_put (cs := #[.int .i64 t380, .int .i64 t381, .int .i64 t382, .string t383, .bool t384, .int .u64 t385, .int .u64 t386, .bool t387, .int .u64 t388, .int .u64 t389, .bool t390, .int .u64 t391, .int .u64 t392, .bool t393, .slice none 0 0]) ?_ 14 _ rfl; (with_reducible repeat (first | refine blk_drewN ?_ _ | refine blk_drew ?_ | refine blk_alloc ?_ _)); refine blk_put (cs := #[.int .i64 t380, .int .i64 t381, .int .i64 t382, .string t383, .bool t384, .int .u64 t385, .int .u64 t386, .bool t387, .int .u64 t388, .int .u64 t389, .bool t390, .int .u64 t391, .int .u64 t392, .bool false, .slice none 0 0]) ?_ 13 _ rfl; (with_reducible repeat (first | refine blk_drewN ?_ _ | refine blk_drew ?_ | refine blk_alloc ?_ _)); refine blk_put (cs := #[.int .i64 t380, .int .i64 t381, .int .i64 t382, .string t383, .bool t384, .int .u64 t385, .int .u64 t386, .bool t387, .int .u64 t388, .int .u64 t389, .bool t390, .int .u64 t391, .int .u64 0, .bool false, .slice none 0 0]) ?_ 12 _ rfl; (with_reducible repeat (first | refine blk_drewN ?_ _ | refine blk_drew ?_ | refine blk_alloc ?_ _)); refine blk_put (cs := #[.int .i64 t380, .int .i64 t381, .int .i64 t382, .string t383, .bool t384, .int .u64 t385, .int .u64 t386, .bool t387, .int .u64 t388, .int .u64 t389, .bool t390, .int .u64 0, .int .u64 0, .bool false, .slice none 0 0]) ?_ 11 _ rfl; (with_reducible repeat (first | refine blk_drewN ?_ _ | refine blk_drew ?_ | refine blk_alloc ?_ _)); refine blk_put (cs := #[.int .i64 t380, .int .i64 t381, .int .i64 t382, .string t383, .bool t384, .int .u64 t385, .int .u64 t386, .bool t387, .int .u64 t388, .int .u64 t389, .bool false, .int .u64 0, .int .u64 0, .bool false, .slice none 0 0]) ?_ 10 _ rfl; (with_reducible repeat (first | refine blk_drewN ?_ _ | refine blk_drew ?_ | refine blk_alloc ?_ _)); refine blk_put (cs := #[.int .i64 t380, .int .i64 t381, .int .i64 t382, .string t383, .bool t384, .int .u64 t385, .int .u64 t386, .bool t387, .int .u64 t388, .int .u64 0, .bool false, .int .u64 0, .int .u64 0, .bool false, .slice none 0 0]) ?_ 9 _ rfl; (with_reducible repeat (first | refine blk_drewN ?_ _ | refine blk_drew ?_ | refine blk_alloc ?_ _)); refine blk_put (cs := #[.int .i64 t380, .int .i64 t381, .int .i64 t382, .string t383, .bool t384, .int .u64 t385, .int .u64 t386, .bool t387, .int .u64 0, .int .u64 0, .bool false, .int .u64 0, .int .u64 0, .bool false, .slice none 0 0]) ?_ 8 _ rfl; (with_reducible repeat (first | refine blk_drewN ?_ _ | refine blk_drew ?_ | refine blk_alloc ?_ _)); refine blk_put (cs := #[.int .i64 t380, .int .i64 t381, .int .i64 t382, .string t383, .bool t384, .int .u64 t385, .int .u64 t386, .bool false, .int .u64 0, .int .u64 0, .bool false, .int .u64 0, .int .u64 0, .bool false, .slice none 0 0]) ?_ 7 _ rfl; (with_reducible repeat (first | refine blk_drewN ?_ _ | refine blk_drew ?_ | refine blk_alloc ?_ _)); refine blk_put (cs := #[.int .i64 t380, .int .i64 t381, .int .i64 t382, .string t383, .bool t384, .int .u64 t385, .int .u64 0, .bool false, .int .u64 0, .int .u64 0, .bool false, .int .u64 0, .int .u64 0, .bool false, .slice none 0 0]) ?_ 6 _ rfl; (with_reducible repeat (first | refine blk_drewN ?_ _ | refine blk_drew ?_ | refine blk_alloc ?_ _)); refine blk_put (cs := #[.int .i64 t380, .int .i64 t381, .int .i64 t382, .string t383, .bool t384, .int .u64 0, .int .u64 0, .bool false, .int .u64 0, .int .u64 0, .bool false, .int .u64 0, .int .u64 0, .bool false, .slice none 0 0]) ?_ 5 _ rfl; (with_reducible repeat (first | refine blk_drewN ?_ _ | refine blk_drew ?_ | refine blk_alloc ?_ _)); refine blk_put (cs := #[.int .i64 t380, .int .i64 t381, .int .i64 t382, .string t383, .bool false, .int .u64 0, .int .u64 0, .bool false, .int .u64 0, .int .u64 0, .bool false, .int .u64 0, .int .u64 0, .bool false, .slice none 0 0]) ?_ 4 _ rfl; (with_reducible repeat (first | refine blk_drewN ?_ _ | refine blk_drew ?_ | refine blk_alloc ?_ _)); refine blk_put (cs := #[.int .i64 t380, .int .i64 t381, .int .i64 t382, .string (⟨#[]⟩ : ByteArray), .bool false, .int .u64 0, .int .u64 0, .bool false, .int .u64 0, .int .u64 0, .bool false, .int .u64 0, .int .u64 0, .bool false, .slice none 0 0]) ?_ 3 _ rfl; (with_reducible repeat (first | refine blk_drewN ?_ _ | refine blk_drew ?_ | refine blk_alloc ?_ _)); refine blk_put (cs := #[.int .i64 t380, .int .i64 t381, .int .i64 0, .string (⟨#[]⟩ : ByteArray), .bool false, .int .u64 0, .int .u64 0, .bool false, .int .u64 0, .int .u64 0, .bool false, .int .u64 0, .int .u64 0, .bool false, .slice none 0 0]) ?_ 2 _ rfl; (with_reducible repeat (first | refine blk_drewN ?_ _ | refine blk_drew ?_ | refine blk_alloc ?_ _)); refine blk_put (cs := #[.int .i64 t380, .int .i64 0, .int .i64 0, .string (⟨#[]⟩ : ByteArray), .bool false, .int .u64 0, .int .u64 0, .bool false, .int .u64 0, .int .u64 0, .bool false, .int .u64 0, .int .u64 0, .bool false, .slice none 0 0]) ?_ 1 _ rfl; (with_reducible repeat (first | refine blk_drewN ?_ _ | refine blk_drew ?_ | refine blk_alloc ?_ _)); refine blk_put (cs := #[.int .i64 0, .int .i64 0, .int .i64 0, .string (⟨#[]⟩ : ByteArray), .bool false, .int .u64 0, .int .u64 0, .bool false, .int .u64 0, .int .u64 0, .bool false, .int .u64 0, .int .u64 0, .bool false, .slice none 0 0]) ?_ 0 _ rfl; (with_reducible repeat (first | refine blk_drewN ?_ _ | refine blk_drew ?_ | refine blk_alloc ?_ _)); exact BK398.out) hb); have n3_ := Aside0.mk (below_step (hbx HB.out) hb); clear HO396; clear BK377; clear BK398; clear HB; have HO396 := n0_; have BK377 := n1_; have BK398 := n2_; have HB := n3_; clear n0_ n1_ n2_ n3_; (try clear hb); (try clear hb2); (try clear hk); (try clear hi)) | ((with_reducible refine gate_dst (N := 33) rfl ?_); (try (refine gate_guard (by rfl) ?_; dsimp only)); refine Kd.R_lit k61 _ 61 ?hg (N := 33) ?hd (xs := ([(⟨51, (⟨#[0, 0, 0, 100]⟩ : ByteArray)⟩ : S61)] : List (S61))) (inner := [.int .i64 51, .string (⟨#[0, 0, 0, 100]⟩ : ByteArray)]) (ok := fun _ => True) (okp := fun _ => True) ?hr ?hp (fun _ hk => hk) trivial (Below.refl _ _) (Nat.le_refl _) (by simp) ?_; (case hd => rfl); (case hg => rfl); (case hr => first | (go_simp; done) | (go_simp; rfl)); (case hp => exact (Reps.c2 (show Kd.M k61 _ _ _ (⟨51, (⟨#[0, 0, 0, 100]⟩ : ByteArray)⟩ : S61) [.int .i64 51, .string (⟨#[0, 0, 0, 100]⟩ : ByteArray)] from (k61_mkM _ _ _ (⟨51, (⟨#[0, 0, 0, 100]⟩ : ByteArray)⟩ : S61) )) (Reps.none _ _))); intro v402 w33 ho34 hb hg_ hnew_; clear hg_ hnew_; (first | rw [← Ny401.out] at ho34 | (simp only [Int.reduceToNat] at ho34; rw [← Ny401.out] at ho34)); have n0_ := Aside0.mk (Kd.R_elder' (by (with_reducible repeat (first | apply Kd.R_alloc | apply Kd.R_drewN | apply Kd.R_drew)); exact HO396.out) (Kd.R_base ho34) hb); have n1_ := Aside0.mk (Kd.R_lower (Kd.R_new' ho34 (Kd.R_lt (by (with_reducible repeat (first | apply Kd.R_alloc | apply Kd.R_drewN | apply Kd.R_drew)); exact HO396.out))) (below_size (hbx HB.out))); have n2_ := Aside0.mk (blk_below (bkx BK377.out) hb); have n3_ := Aside0.mk (blk_below (bkx BK398.out) hb); have n4_ := Aside0.mk (below_step (hbx HB.out) hb); clear HO396; clear BK377; clear BK398; clear HB; have HO396 := n0_; have HO403 := n1_; have BK377 := n2_; have BK398 := n3_; have HB := n4_; clear n0_ n1_ n2_ n3_ n4_; clear hb ho34; obtain ⟨Ao35, co35, eo35⟩ := Kd.R_slice HO403.out; subst eo35) | ((with_reducible refine gate_callee (f := 13) rfl ?_); refine goesL_ (some 35) rfl rfl Tryd.func13 (by kernel_rfl) rfl #[.agg #[.int .i64 0, .int .i64 0, .int .i64 0, .string (⟨#[]⟩ : ByteArray), .bool false, .int .u64 0, .int .u64 0, .bool false, .int .u64 0, .int .u64 0, .bool false, .int .u64 0, .int .u64 0, .bool false, .slice Ao35 y401.length co35]] rfl (by (try simp only [List.map_toArray, List.map_cons, List.map_nil]); first | done | rfl | (simp only [List.length_drop, List.length_take]; rfl)) ?_; (with_reducible refine (dhcp_Lease.calls k 0 0 0 (⟨#[]⟩ : ByteArray) false 0 0 false 0 0 false 0 0 false _ _ y401 t404 t405 t406 true _ ?side1 ?side2 A4.out).mono ?_); (case side1 => repeat (first | exact (Kd.R_reads' HO403.out).2.2 | (with_reducible refine Kd.C_alloc ?_ _) | (with_reducible refine Kd.C_drewN ?_ _) | (with_reducible refine Kd.C_drew ?_))); (case side2 => exact (Kd.R_reads' HO403.out).2.1); rintro e w36 ⟨rfl, hb⟩; refine ⟨_, rfl, ?_⟩; have n0_ := Aside0.mk (Kd.R_below (by (with_reducible repeat (first | apply Kd.R_alloc | apply Kd.R_drewN | apply Kd.R_drew)); exact HO396.out) hb); have n1_ := Aside0.mk (Kd.R_below (by (with_reducible repeat (first | apply Kd.R_alloc | apply Kd.R_drewN | apply Kd.R_drew)); exact HO403.out) hb); have n2_ := Aside0.mk (blk_below (bkx BK377.out) hb); have n3_ := Aside0.mk (blk_below (bkx BK398.out) hb); have n4_ := Aside0.mk (below_step (hbx HB.out) hb); clear HO396; clear HO403; clear BK377; clear BK398; clear HB; have HO396 := n0_; have HO403 := n1_; have BK377 := n2_; have BK398 := n3_; have HB := n4_; clear n0_ n1_ n2_ n3_ n4_; (try clear hb); (try clear hb2); (try clear hk); (try clear hi); obtain ⟨⟨hcz37_0, hcz37_1, hcz37_2, hcz37_3, hcz37_4, hcz37_5, hcz37_6, hcz37_7, hcz37_8, hcz37_9, hcz37_10, hcz37_11, hcz37_12, hcz37_13, hcz37_14⟩, hfz37_0, hfz37_1, hfz37_2, hfz37_3, hfz37_4, hfz37_5, hfz37_6, hfz37_7, hfz37_8, hfz37_9, hfz37_10, hfz37_11, hfz37_12, hfz37_13, hfz37_14⟩ := cf15 BK377.out) | ((with_reducible refine gate_callee (f := 26) rfl ?_); refine goesL_ (some 44) rfl rfl Tryd.func26 (by kernel_rfl) rfl #[.agg #[.int .i64 1, .int .i64 0, .int .i64 0, .string (⟨#[99]⟩ : ByteArray), .bool false, .int .u64 0, .int .u64 0, .bool false, .int .u64 0, .int .u64 0, .bool false, .int .u64 0, .int .u64 0, .bool false, .slice none 0 0], .agg #[.bool false, .int .u64 0, .int .u64 7], .agg #[.bool false, .int .u64 0, .int .u64 0, .int .i64 24, .string (⟨#[]⟩ : ByteArray), .slice none 0 0, .slice none 0 0, .slice none 0 0, .int .i64 80]] rfl (by (try simp only [List.map_toArray, List.map_cons, List.map_nil]); first | done | rfl | (simp only [List.length_drop, List.length_take]; rfl)) ?_; (refine (dhcp_Grant.calls k 1 0 0 (⟨#[99]⟩ : ByteArray) false 0 0 false 0 0 false 0 0 false _ _ ([] : List (S61)) false 0 7 false 0 0 24 (⟨#[]⟩ : ByteArray) _ _ ([] : List (S139)) _ _ ([] : List (S141)) _ _ ([] : List (S61)) 80 t408 t409 t410 t411 t412 t413 t414 t415 t416 t417 t418 t419 t420 t421 t422 _ ?side1 ?side2 ?side3 ?side4 ?side5 ?side6 ?side7 ?side8 A5.out).mono ?_); (case side1 => exact Kd.C_nil _ _); (case side2 => exact Nat.le_refl _); (case side3 => exact Kd.C_nil _ _); (case side4 => exact Nat.le_refl _); (case side5 => exact Kd.C_nil _ _); (case side6 => exact Nat.le_refl _); (case side7 => exact Kd.C_nil _ _); (case side8 => exact Nat.le_refl _); rintro e w38 ⟨v423, rfl, ho0, hb⟩; refine ⟨_, rfl, ?_⟩; have n0_ := Aside0.mk (Kd.R_elder' (by (with_reducible repeat (first | apply Kd.R_alloc | apply Kd.R_drewN | apply Kd.R_drew)); exact HO396.out) (Kd.R_base ho0) hb); have n1_ := Aside0.mk (Kd.R_elder' (by (with_reducible repeat (first | apply Kd.R_alloc | apply Kd.R_drewN | apply Kd.R_drew)); exact HO403.out) (Kd.R_base ho0) hb); have n2_ := Aside0.mk (Kd.R_lower (Kd.R_new' (Kd.R_new' ho0 (Kd.R_lt (by (with_reducible repeat (first | apply Kd.R_alloc | apply Kd.R_drewN | apply Kd.R_drew)); exact HO396.out))) (Kd.R_lt (by (with_reducible repeat (first | apply Kd.R_alloc | apply Kd.R_drewN | apply Kd.R_drew)); exact HO403.out))) (below_size (hbx HB.out))); have n3_ := Aside0.mk (blk_below (bkx BK377.out) hb); have n4_ := Aside0.mk (blk_below (bkx BK398.out) hb); have n5_ := Aside0.mk (below_step (hbx HB.out) hb); clear HO396; clear HO403; clear BK377; clear BK398; clear HB; have HO396 := n0_; have HO403 := n1_; have HO424 := n2_; have BK377 := n3_; have BK398 := n4_; have HB := n5_; clear n0_ n1_ n2_ n3_ n4_ n5_; (try clear hb); (try clear hb2); (try clear hk); (try clear hi); (try clear ho0)) | ((with_reducible refine gate_dst (N := 12) rfl ?_); (try (refine gate_guard (by rfl) ?_; dsimp only)); refine box_event ?hg (N := 12) ?hd (cs := #[.int .i64 0, .int .i64 0, .int .i64 0, .string (⟨#[]⟩ : ByteArray), .bool false, .int .u64 0, .int .u64 0, .bool false, .int .u64 0, .int .u64 0, .bool false, .int .u64 0, .int .u64 0, .bool false, .slice none 0 0]) (t := 27) ?hr ?_; (case hd => rfl); (case hg => rfl); (case hr => first | (go_simp; done) | (go_simp; rfl)); intro gb425 hg w39 hbox hb; have n0_ := Aside0.mk (Kd.R_below (by (with_reducible repeat (first | apply Kd.R_alloc | apply Kd.R_drewN | apply Kd.R_drew)); exact HO396.out) hb); have n1_ := Aside0.mk (Kd.R_below (by (with_reducible repeat (first | apply Kd.R_alloc | apply Kd.R_drewN | apply Kd.R_drew)); exact HO403.out) hb); have n2_ := Aside0.mk (Kd.R_below (by (with_reducible repeat (first | apply Kd.R_alloc | apply Kd.R_drewN | apply Kd.R_drew)); exact HO424.out) hb); have n3_ := Aside0.mk (blk_below (bkx BK377.out) hb); have n4_ := Aside0.mk (blk_below (bkx BK398.out) hb); have n5_ := Aside0.mk (below_step (hbx HB.out) hb); have n6_ := Aside0.mk (hbox); have n7_ := Aside0.mk ((by rw [hg]; exact (below_size (hbx HB.out)) : w.heap.size ≤ gb425)); have n8_ := Aside0.mk ((by rw [hg]; exact (below_size (hbx HB.out)) : w.heap.size ≤ gb425)); have n9_ := Aside0.mk ((by rw [hg]; exact Nat.ne_of_lt (blk_lt (bkx BK377.out)) : gb377 ≠ gb425)); have n10_ := Aside0.mk ((by rw [hg]; exact Nat.ne_of_gt (blk_lt (bkx BK377.out)) : gb425 ≠ gb377)); have n11_ := Aside0.mk ((by rw [hg]; exact Nat.ne_of_lt (blk_lt (bkx BK398.out)) : gb398 ≠ gb425)); have n12_ := Aside0.mk ((by rw [hg]; exact Nat.ne_of_gt (blk_lt (bkx BK398.out)) : gb425 ≠ gb398)); clear HO396; clear HO403; clear HO424; clear BK377; clear BK398; clear HB; have HO396 := n0_; have HO403 := n1_; have HO424 := n2_; have BK377 := n3_; have BK398 := n4_; have HB := n5_; have BK425 := n6_; have GW425 := n7_; have GE425 := n8_; have NB377_425 := n9_; have NB425_377 := n10_; have NB398_425 := n11_; have NB425_398 := n12_; clear n0_ n1_ n2_ n3_ n4_ n5_ n6_ n7_ n8_ n9_ n10_ n11_ n12_; clear hb hbox hg; have hnb40 := NB425_377.out; have hnc40 := NB377_425.out; have hnb41 := NB425_398.out; have hnc41 := NB398_425.out; obtain ⟨⟨hcz42_0, hcz42_1, hcz42_2, hcz42_3, hcz42_4, hcz42_5, hcz42_6, hcz42_7, hcz42_8, hcz42_9, hcz42_10, hcz42_11, hcz42_12, hcz42_13, hcz42_14⟩, hfz42_0, hfz42_1, hfz42_2, hfz42_3, hfz42_4, hfz42_5, hfz42_6, hfz42_7, hfz42_8, hfz42_9, hfz42_10, hfz42_11, hfz42_12, hfz42_13, hfz42_14⟩ := cf15 BK425.out; obtain ⟨Ao43, co43, eo43⟩ := Kd.R_slice HO424.out; subst eo43) | ((with_reducible refine gate_dst (N := 48) rfl ?_); (try (refine gate_guard (by rfl) ?_; dsimp only)); refine Kd.R_lit k61 _ 61 ?hg (N := 48) ?hd (xs := ([(⟨50, (⟨#[49, 50, 51, 52, 53, 54, 55, 56]⟩ : ByteArray)⟩ : S61)] : List (S61))) (inner := [.int .i64 50, .string (⟨#[49, 50, 51, 52, 53, 54, 55, 56]⟩ : ByteArray)]) (ok := fun _ => True) (okp := fun _ => True) ?hr ?hp (fun _ hk => hk) trivial (Below.refl _ _) (Nat.le_refl _) (by simp) ?_; (case hd => rfl); (case hg => rfl); (case hr => first | (go_simp; done) | (go_simp; rfl)); (case hp => exact (Reps.c2 (show Kd.M k61 _ _ _ (⟨50, (⟨#[49, 50, 51, 52, 53, 54, 55, 56]⟩ : ByteArray)⟩ : S61) [.int .i64 50, .string (⟨#[49, 50, 51, 52, 53, 54, 55, 56]⟩ : ByteArray)] from (k61_mkM _ _ _ (⟨50, (⟨#[49, 50, 51, 52, 53, 54, 55, 56]⟩ : ByteArray)⟩ : S61) )) (Reps.none _ _))); intro v427 w44 ho45 hb hg_ hnew_; clear hg_ hnew_; (first | rw [← Ny426.out] at ho45 | (simp only [Int.reduceToNat] at ho45; rw [← Ny426.out] at ho45)); have n0_ := Aside0.mk (Kd.R_elder' (by (with_reducible repeat (first | apply Kd.R_alloc | apply Kd.R_drewN | apply Kd.R_drew)); exact (Kd.R_mono (Kd.R_far (p := ⟨gb425, 14, none⟩) (Kd.R_far (p := ⟨gb425, 13, none⟩) (Kd.R_far (p := ⟨gb425, 12, none⟩) (Kd.R_far (p := ⟨gb425, 11, none⟩) (Kd.R_far (p := ⟨gb425, 10, none⟩) (Kd.R_far (p := ⟨gb425, 9, none⟩) (Kd.R_far (p := ⟨gb425, 8, none⟩) (Kd.R_far (p := ⟨gb425, 7, none⟩) (Kd.R_far (p := ⟨gb425, 6, none⟩) (Kd.R_far (p := ⟨gb425, 5, none⟩) (Kd.R_far (p := ⟨gb425, 4, none⟩) (Kd.R_far (p := ⟨gb425, 3, none⟩) (Kd.R_far (p := ⟨gb425, 2, none⟩) (Kd.R_far (p := ⟨gb425, 1, none⟩) (Kd.R_far (p := ⟨gb425, 0, none⟩) (Kd.R_types HO396.out BK425.out (by decide)) (fun _ hk => hk.2) (.int .i64 t408)) (fun _ hk => hk.2) (.int .i64 t409)) (fun _ hk => hk.2) (.int .i64 t410)) (fun _ hk => hk.2) (.string t411)) (fun _ hk => hk.2) (.bool t412)) (fun _ hk => hk.2) (.int .u64 t413)) (fun _ hk => hk.2) (.int .u64 t414)) (fun _ hk => hk.2) (.bool t415)) (fun _ hk => hk.2) (.int .u64 t416)) (fun _ hk => hk.2) (.int .u64 t417)) (fun _ hk => hk.2) (.bool t418)) (fun _ hk => hk.2) (.int .u64 t419)) (fun _ hk => hk.2) (.int .u64 t420)) (fun _ hk => hk.2) (.bool t421)) (fun _ hk => hk.2) (.slice Ao43 t422.length co43)) (fun _ h_ => h_.1))) (Kd.R_base ho45) hb); have n1_ := Aside0.mk (Kd.R_elder' (by (with_reducible repeat (first | apply Kd.R_alloc | apply Kd.R_drewN | apply Kd.R_drew)); exact (Kd.R_mono (Kd.R_far (p := ⟨gb425, 14, none⟩) (Kd.R_far (p := ⟨gb425, 13, none⟩) (Kd.R_far (p := ⟨gb425, 12, none⟩) (Kd.R_far (p := ⟨gb425, 11, none⟩) (Kd.R_far (p := ⟨gb425, 10, none⟩) (Kd.R_far (p := ⟨gb425, 9, none⟩) (Kd.R_far (p := ⟨gb425, 8, none⟩) (Kd.R_far (p := ⟨gb425, 7, none⟩) (Kd.R_far (p := ⟨gb425, 6, none⟩) (Kd.R_far (p := ⟨gb425, 5, none⟩) (Kd.R_far (p := ⟨gb425, 4, none⟩) (Kd.R_far (p := ⟨gb425, 3, none⟩) (Kd.R_far (p := ⟨gb425, 2, none⟩) (Kd.R_far (p := ⟨gb425, 1, none⟩) (Kd.R_far (p := ⟨gb425, 0, none⟩) (Kd.R_types HO403.out BK425.out (by decide)) (fun _ hk => hk.2) (.int .i64 t408)) (fun _ hk => hk.2) (.int .i64 t409)) (fun _ hk => hk.2) (.int .i64 t410)) (fun _ hk => hk.2) (.string t411)) (fun _ hk => hk.2) (.bool t412)) (fun _ hk => hk.2) (.int .u64 t413)) (fun _ hk => hk.2) (.int .u64 t414)) (fun _ hk => hk.2) (.bool t415)) (fun _ hk => hk.2) (.int .u64 t416)) (fun _ hk => hk.2) (.int .u64 t417)) (fun _ hk => hk.2) (.bool t418)) (fun _ hk => hk.2) (.int .u64 t419)) (fun _ hk => hk.2) (.int .u64 t420)) (fun _ hk => hk.2) (.bool t421)) (fun _ hk => hk.2) (.slice Ao43 t422.length co43)) (fun _ h_ => h_.1))) (Kd.R_base ho45) hb); have n2_ := Aside0.mk (Kd.R_elder' (by (with_reducible repeat (first | apply Kd.R_alloc | apply Kd.R_drewN | apply Kd.R_drew)); exact (Kd.R_mono (Kd.R_far (p := ⟨gb425, 14, none⟩) (Kd.R_far (p := ⟨gb425, 13, none⟩) (Kd.R_far (p := ⟨gb425, 12, none⟩) (Kd.R_far (p := ⟨gb425, 11, none⟩) (Kd.R_far (p := ⟨gb425, 10, none⟩) (Kd.R_far (p := ⟨gb425, 9, none⟩) (Kd.R_far (p := ⟨gb425, 8, none⟩) (Kd.R_far (p := ⟨gb425, 7, none⟩) (Kd.R_far (p := ⟨gb425, 6, none⟩) (Kd.R_far (p := ⟨gb425, 5, none⟩) (Kd.R_far (p := ⟨gb425, 4, none⟩) (Kd.R_far (p := ⟨gb425, 3, none⟩) (Kd.R_far (p := ⟨gb425, 2, none⟩) (Kd.R_far (p := ⟨gb425, 1, none⟩) (Kd.R_far (p := ⟨gb425, 0, none⟩) (Kd.R_types HO424.out BK425.out (by decide)) (fun _ hk => hk.2) (.int .i64 t408)) (fun _ hk => hk.2) (.int .i64 t409)) (fun _ hk => hk.2) (.int .i64 t410)) (fun _ hk => hk.2) (.string t411)) (fun _ hk => hk.2) (.bool t412)) (fun _ hk => hk.2) (.int .u64 t413)) (fun _ hk => hk.2) (.int .u64 t414)) (fun _ hk => hk.2) (.bool t415)) (fun _ hk => hk.2) (.int .u64 t416)) (fun _ hk => hk.2) (.int .u64 t417)) (fun _ hk => hk.2) (.bool t418)) (fun _ hk => hk.2) (.int .u64 t419)) (fun _ hk => hk.2) (.int .u64 t420)) (fun _ hk => hk.2) (.bool t421)) (fun _ hk => hk.2) (.slice Ao43 t422.length co43)) (fun _ h_ => h_.1))) (Kd.R_base ho45) hb); have n3_ := Aside0.mk (Kd.R_lower (Kd.R_new' (Kd.R_new' (Kd.R_new' ho45 (Kd.R_lt (by (with_reducible repeat (first | apply Kd.R_alloc | apply Kd.R_drewN | apply Kd.R_drew)); exact (Kd.R_mono (Kd.R_far (p := ⟨gb425, 14, none⟩) (Kd.R_far (p := ⟨gb425, 13, none⟩) (Kd.R_far (p := ⟨gb425, 12, none⟩) (Kd.R_far (p := ⟨gb425, 11, none⟩) (Kd.R_far (p := ⟨gb425, 10, none⟩) (Kd.R_far (p := ⟨gb425, 9, none⟩) (Kd.R_far (p := ⟨gb425, 8, none⟩) (Kd.R_far (p := ⟨gb425, 7, none⟩) (Kd.R_far (p := ⟨gb425, 6, none⟩) (Kd.R_far (p := ⟨gb425, 5, none⟩) (Kd.R_far (p := ⟨gb425, 4, none⟩) (Kd.R_far (p := ⟨gb425, 3, none⟩) (Kd.R_far (p := ⟨gb425, 2, none⟩) (Kd.R_far (p := ⟨gb425, 1, none⟩) (Kd.R_far (p := ⟨gb425, 0, none⟩) (Kd.R_types HO396.out BK425.out (by decide)) (fun _ hk => hk.2) (.int .i64 t408)) (fun _ hk => hk.2) (.int .i64 t409)) (fun _ hk => hk.2) (.int .i64 t410)) (fun _ hk => hk.2) (.string t411)) (fun _ hk => hk.2) (.bool t412)) (fun _ hk => hk.2) (.int .u64 t413)) (fun _ hk => hk.2) (.int .u64 t414)) (fun _ hk => hk.2) (.bool t415)) (fun _ hk => hk.2) (.int .u64 t416)) (fun _ hk => hk.2) (.int .u64 t417)) (fun _ hk => hk.2) (.bool t418)) (fun _ hk => hk.2) (.int .u64 t419)) (fun _ hk => hk.2) (.int .u64 t420)) (fun _ hk => hk.2) (.bool t421)) (fun _ hk => hk.2) (.slice Ao43 t422.length co43)) (fun _ h_ => h_.1))))) (Kd.R_lt (by (with_reducible repeat (first | apply Kd.R_alloc | apply Kd.R_drewN | apply Kd.R_drew)); exact (Kd.R_mono (Kd.R_far (p := ⟨gb425, 14, none⟩) (Kd.R_far (p := ⟨gb425, 13, none⟩) (Kd.R_far (p := ⟨gb425, 12, none⟩) (Kd.R_far (p := ⟨gb425, 11, none⟩) (Kd.R_far (p := ⟨gb425, 10, none⟩) (Kd.R_far (p := ⟨gb425, 9, none⟩) (Kd.R_far (p := ⟨gb425, 8, none⟩) (Kd.R_far (p := ⟨gb425, 7, none⟩) (Kd.R_far (p := ⟨gb425, 6, none⟩) (Kd.R_far (p := ⟨gb425, 5, none⟩) (Kd.R_far (p := ⟨gb425, 4, none⟩) (Kd.R_far (p := ⟨gb425, 3, none⟩) (Kd.R_far (p := ⟨gb425, 2, none⟩) (Kd.R_far (p := ⟨gb425, 1, none⟩) (Kd.R_far (p := ⟨gb425, 0, none⟩) (Kd.R_types HO403.out BK425.out (by decide)) (fun _ hk => hk.2) (.int .i64 t408)) (fun _ hk => hk.2) (.int .i64 t409)) (fun _ hk => hk.2) (.int .i64 t410)) (fun _ hk => hk.2) (.string t411)) (fun _ hk => hk.2) (.bool t412)) (fun _ hk => hk.2) (.int .u64 t413)) (fun _ hk => hk.2) (.int .u64 t414)) (fun _ hk => hk.2) (.bool t415)) (fun _ hk => hk.2) (.int .u64 t416)) (fun _ hk => hk.2) (.int .u64 t417)) (fun _ hk => hk.2) (.bool t418)) (fun _ hk => hk.2) (.int .u64 t419)) (fun _ hk => hk.2) (.int .u64 t420)) (fun _ hk => hk.2) (.bool t421)) (fun _ hk => hk.2) (.slice Ao43 t422.length co43)) (fun _ h_ => h_.1))))) (Kd.R_lt (by (with_reducible repeat (first | apply Kd.R_alloc | apply Kd.R_drewN | apply Kd.R_drew)); exact (Kd.R_mono (Kd.R_far (p := ⟨gb425, 14, none⟩) (Kd.R_far (p := ⟨gb425, 13, none⟩) (Kd.R_far (p := ⟨gb425, 12, none⟩) (Kd.R_far (p := ⟨gb425, 11, none⟩) (Kd.R_far (p := ⟨gb425, 10, none⟩) (Kd.R_far (p := ⟨gb425, 9, none⟩) (Kd.R_far (p := ⟨gb425, 8, none⟩) (Kd.R_far (p := ⟨gb425, 7, none⟩) (Kd.R_far (p := ⟨gb425, 6, none⟩) (Kd.R_far (p := ⟨gb425, 5, none⟩) (Kd.R_far (p := ⟨gb425, 4, none⟩) (Kd.R_far (p := ⟨gb425, 3, none⟩) (Kd.R_far (p := ⟨gb425, 2, none⟩) (Kd.R_far (p := ⟨gb425, 1, none⟩) (Kd.R_far (p := ⟨gb425, 0, none⟩) (Kd.R_types HO424.out BK425.out (by decide)) (fun _ hk => hk.2) (.int .i64 t408)) (fun _ hk => hk.2) (.int .i64 t409)) (fun _ hk => hk.2) (.int .i64 t410)) (fun _ hk => hk.2) (.string t411)) (fun _ hk => hk.2) (.bool t412)) (fun _ hk => hk.2) (.int .u64 t413)) (fun _ hk => hk.2) (.int .u64 t414)) (fun _ hk => hk.2) (.bool t415)) (fun _ hk => hk.2) (.int .u64 t416)) (fun _ hk => hk.2) (.int .u64 t417)) (fun _ hk => hk.2) (.bool t418)) (fun _ hk => hk.2) (.int .u64 t419)) (fun _ hk => hk.2) (.int .u64 t420)) (fun _ hk => hk.2) (.bool t421)) (fun _ hk => hk.2) (.slice Ao43 t422.length co43)) (fun _ h_ => h_.1))))) (below_size (hbx HB.out))); have n4_ := Aside0.mk (blk_below (bkx BK377.out) hb); have n5_ := Aside0.mk (blk_below (bkx BK398.out) hb); have n6_ := Aside0.mk (blk_below (g := gb425) (o := .cells #[.int .i64 t408, .int .i64 t409, .int .i64 t410, .string t411, .bool t412, .int .u64 t413, .int .u64 t414, .bool t415, .int .u64 t416, .int .u64 t417, .bool t418, .int .u64 t419, .int .u64 t420, .bool t421, .slice Ao43 t422.length co43] 27 (0, 0)) (by (with_reducible repeat (first | refine blk_drewN ?_ _ | refine blk_drew ?_ | refine blk_alloc ?_ _)); refine blk_put (cs := #[.int .i64 t408, .int .i64 t409, .int .i64 t410, .string t411, .bool t412, .int .u64 t413, .int .u64 t414, .bool t415, .int .u64 t416, .int .u64 t417, .bool t418, .int .u64 t419, .int .u64 t420, .bool t421, .slice none 0 0]) ?_ 14 _ rfl; (with_reducible repeat (first | refine blk_drewN ?_ _ | refine blk_drew ?_ | refine blk_alloc ?_ _)); refine blk_put (cs := #[.int .i64 t408, .int .i64 t409, .int .i64 t410, .string t411, .bool t412, .int .u64 t413, .int .u64 t414, .bool t415, .int .u64 t416, .int .u64 t417, .bool t418, .int .u64 t419, .int .u64 t420, .bool false, .slice none 0 0]) ?_ 13 _ rfl; (with_reducible repeat (first | refine blk_drewN ?_ _ | refine blk_drew ?_ | refine blk_alloc ?_ _)); refine blk_put (cs := #[.int .i64 t408, .int .i64 t409, .int .i64 t410, .string t411, .bool t412, .int .u64 t413, .int .u64 t414, .bool t415, .int .u64 t416, .int .u64 t417, .bool t418, .int .u64 t419, .int .u64 0, .bool false, .slice none 0 0]) ?_ 12 _ rfl; (with_reducible repeat (first | refine blk_drewN ?_ _ | refine blk_drew ?_ | refine blk_alloc ?_ _)); refine blk_put (cs := #[.int .i64 t408, .int .i64 t409, .int .i64 t410, .string t411, .bool t412, .int .u64 t413, .int .u64 t414, .bool t415, .int .u64 t416, .int .u64 t417, .bool t418, .int .u64 0, .int .u64 0, .bool false, .slice none 0 0]) ?_ 11 _ rfl; (with_reducible repeat (first | refine blk_drewN ?_ _ | refine blk_drew ?_ | refine blk_alloc ?_ _)); refine blk_put (cs := #[.int .i64 t408, .int .i64 t409, .int .i64 t410, .string t411, .bool t412, .int .u64 t413, .int .u64 t414, .bool t415, .int .u64 t416, .int .u64 t417, .bool false, .int .u64 0, .int .u64 0, .bool false, .slice none 0 0]) ?_ 10 _ rfl; (with_reducible repeat (first | refine blk_drewN ?_ _ | refine blk_drew ?_ | refine blk_alloc ?_ _)); refine blk_put (cs := #[.int .i64 t408, .int .i64 t409, .int .i64 t410, .string t411, .bool t412, .int .u64 t413, .int .u64 t414, .bool t415, .int .u64 t416, .int .u64 0, .bool false, .int .u64 0, .int .u64 0, .bool false, .slice none 0 0]) ?_ 9 _ rfl; (with_reducible repeat (first | refine blk_drewN ?_ _ | refine blk_drew ?_ | refine blk_alloc ?_ _)); refine blk_put (cs := #[.int .i64 t408, .int .i64 t409, .int .i64 t410, .string t411, .bool t412, .int .u64 t413, .int .u64 t414, .bool t415, .int .u64 0, .int .u64 0, .bool false, .int .u64 0, .int .u64 0, .bool false, .slice none 0 0]) ?_ 8 _ rfl; (with_reducible repeat (first | refine blk_drewN ?_ _ | refine blk_drew ?_ | refine blk_alloc ?_ _)); refine blk_put (cs := #[.int .i64 t408, .int .i64 t409, .int .i64 t410, .string t411, .bool t412, .int .u64 t413, .int .u64 t414, .bool false, .int .u64 0, .int .u64 0, .bool false, .int .u64 0, .int .u64 0, .bool false, .slice none 0 0]) ?_ 7 _ rfl; (with_reducible repeat (first | refine blk_drewN ?_ _ | refine blk_drew ?_ | refine blk_alloc ?_ _)); refine blk_put (cs := #[.int .i64 t408, .int .i64 t409, .int .i64 t410, .string t411, .bool t412, .int .u64 t413, .int .u64 0, .bool false, .int .u64 0, .int .u64 0, .bool false, .int .u64 0, .int .u64 0, .bool false, .slice none 0 0]) ?_ 6 _ rfl; (with_reducible repeat (first | refine blk_drewN ?_ _ | refine blk_drew ?_ | refine blk_alloc ?_ _)); refine blk_put (cs := #[.int .i64 t408, .int .i64 t409, .int .i64 t410, .string t411, .bool t412, .int .u64 0, .int .u64 0, .bool false, .int .u64 0, .int .u64 0, .bool false, .int .u64 0, .int .u64 0, .bool false, .slice none 0 0]) ?_ 5 _ rfl; (with_reducible repeat (first | refine blk_drewN ?_ _ | refine blk_drew ?_ | refine blk_alloc ?_ _)); refine blk_put (cs := #[.int .i64 t408, .int .i64 t409, .int .i64 t410, .string t411, .bool false, .int .u64 0, .int .u64 0, .bool false, .int .u64 0, .int .u64 0, .bool false, .int .u64 0, .int .u64 0, .bool false, .slice none 0 0]) ?_ 4 _ rfl; (with_reducible repeat (first | refine blk_drewN ?_ _ | refine blk_drew ?_ | refine blk_alloc ?_ _)); refine blk_put (cs := #[.int .i64 t408, .int .i64 t409, .int .i64 t410, .string (⟨#[]⟩ : ByteArray), .bool false, .int .u64 0, .int .u64 0, .bool false, .int .u64 0, .int .u64 0, .bool false, .int .u64 0, .int .u64 0, .bool false, .slice none 0 0]) ?_ 3 _ rfl; (with_reducible repeat (first | refine blk_drewN ?_ _ | refine blk_drew ?_ | refine blk_alloc ?_ _)); refine blk_put (cs := #[.int .i64 t408, .int .i64 t409, .int .i64 0, .string (⟨#[]⟩ : ByteArray), .bool false, .int .u64 0, .int .u64 0, .bool false, .int .u64 0, .int .u64 0, .bool false, .int .u64 0, .int .u64 0, .bool false, .slice none 0 0]) ?_ 2 _ rfl; (with_reducible repeat (first | refine blk_drewN ?_ _ | refine blk_drew ?_ | refine blk_alloc ?_ _)); refine blk_put (cs := #[.int .i64 t408, .int .i64 0, .int .i64 0, .string (⟨#[]⟩ : ByteArray), .bool false, .int .u64 0, .int .u64 0, .bool false, .int .u64 0, .int .u64 0, .bool false, .int .u64 0, .int .u64 0, .bool false, .slice none 0 0]) ?_ 1 _ rfl; (with_reducible repeat (first | refine blk_drewN ?_ _ | refine blk_drew ?_ | refine blk_alloc ?_ _)); refine blk_put (cs := #[.int .i64 0, .int .i64 0, .int .i64 0, .string (⟨#[]⟩ : ByteArray), .bool false, .int .u64 0, .int .u64 0, .bool false, .int .u64 0, .int .u64 0, .bool false, .int .u64 0, .int .u64 0, .bool false, .slice none 0 0]) ?_ 0 _ rfl; (with_reducible repeat (first | refine blk_drewN ?_ _ | refine blk_drew ?_ | refine blk_alloc ?_ _)); exact BK425.out) hb); have n7_ := Aside0.mk (below_step (hbx HB.out) hb); clear HO396; clear HO403; clear HO424; clear BK377; clear BK398; clear BK425; clear HB; have HO396 := n0_; have HO403 := n1_; have HO424 := n2_; have HO428 := n3_; have BK377 := n4_; have BK398 := n5_; have BK425 := n6_; have HB := n7_; clear n0_ n1_ n2_ n3_ n4_ n5_ n6_ n7_; clear hb ho45; obtain ⟨Ao46, co46, eo46⟩ := Kd.R_slice HO428.out; subst eo46) | ((with_reducible refine gate_callee (f := 11) rfl ?_); refine goesL_ (some 50) rfl rfl Tryd.func11 (by kernel_rfl) rfl #[.agg #[.int .i64 0, .int .i64 0, .int .i64 0, .string (⟨#[]⟩ : ByteArray), .bool false, .int .u64 0, .int .u64 9, .bool false, .int .u64 0, .int .u64 0, .bool false, .int .u64 0, .int .u64 0, .bool false, .slice Ao46 y426.length co46]] rfl (by (try simp only [List.map_toArray, List.map_cons, List.map_nil]); first | done | rfl | (simp only [List.length_drop, List.length_take]; rfl)) ?_; (with_reducible refine (dhcp_Wanted.calls k 0 0 0 (⟨#[]⟩ : ByteArray) false 0 9 false 0 0 false 0 0 false _ _ y426 t429 t430 t431 true _ ?side1 ?side2 A6.out).mono ?_); (case side1 => repeat (first | exact (Kd.R_reads' HO428.out).2.2 | (with_reducible refine Kd.C_alloc ?_ _) | (with_reducible refine Kd.C_drewN ?_ _) | (with_reducible refine Kd.C_drew ?_))); (case side2 => exact (Kd.R_reads' HO428.out).2.1); rintro e w47 ⟨rfl, hb⟩; refine ⟨_, rfl, ?_⟩; have n0_ := Aside0.mk (Kd.R_below (by (with_reducible repeat (first | apply Kd.R_alloc | apply Kd.R_drewN | apply Kd.R_drew)); exact HO396.out) hb); have n1_ := Aside0.mk (Kd.R_below (by (with_reducible repeat (first | apply Kd.R_alloc | apply Kd.R_drewN | apply Kd.R_drew)); exact HO403.out) hb); have n2_ := Aside0.mk (Kd.R_below (by (with_reducible repeat (first | apply Kd.R_alloc | apply Kd.R_drewN | apply Kd.R_drew)); exact HO424.out) hb); have n3_ := Aside0.mk (Kd.R_below (by (with_reducible repeat (first | apply Kd.R_alloc | apply Kd.R_drewN | apply Kd.R_drew)); exact HO428.out) hb); have n4_ := Aside0.mk (blk_below (bkx BK377.out) hb); have n5_ := Aside0.mk (blk_below (bkx BK398.out) hb); have n6_ := Aside0.mk (blk_below (bkx BK425.out) hb); have n7_ := Aside0.mk (below_step (hbx HB.out) hb); clear HO396; clear HO403; clear HO424; clear HO428; clear BK377; clear BK398; clear BK425; clear HB; have HO396 := n0_; have HO403 := n1_; have HO424 := n2_; have HO428 := n3_; have BK377 := n4_; have BK398 := n5_; have BK425 := n6_; have HB := n7_; clear n0_ n1_ n2_ n3_ n4_ n5_ n6_ n7_; (try clear hb); (try clear hb2); (try clear hk); (try clear hi)) | ((with_reducible refine gate_dst (N := 13) rfl ?_); (try (refine gate_guard (by rfl) ?_; dsimp only)); refine box_event ?hg (N := 13) ?hd (cs := #[.bool false, .int .u64 0, .int .u64 0]) (t := 24) ?hr ?_; (case hd => rfl); (case hg => rfl); (case hr => first | (go_simp; done) | (go_simp; rfl)); intro gb433 hg w48 hbox hb; have n0_ := Aside0.mk (Kd.R_below (by (with_reducible repeat (first | apply Kd.R_alloc | apply Kd.R_drewN | apply Kd.R_drew)); exact HO396.out) hb); have n1_ := Aside0.mk (Kd.R_below (by (with_reducible repeat (first | apply Kd.R_alloc | apply Kd.R_drewN | apply Kd.R_drew)); exact HO403.out) hb); have n2_ := Aside0.mk (Kd.R_below (by (with_reducible repeat (first | apply Kd.R_alloc | apply Kd.R_drewN | apply Kd.R_drew)); exact HO424.out) hb); have n3_ := Aside0.mk (Kd.R_below (by (with_reducible repeat (first | apply Kd.R_alloc | apply Kd.R_drewN | apply Kd.R_drew)); exact HO428.out) hb); have n4_ := Aside0.mk (blk_below (bkx BK377.out) hb); have n5_ := Aside0.mk (blk_below (bkx BK398.out) hb); have n6_ := Aside0.mk (blk_below (bkx BK425.out) hb); have n7_ := Aside0.mk (below_step (hbx HB.out) hb); have n8_ := Aside0.mk (hbox); have n9_ := Aside0.mk ((by rw [hg]; exact (below_size (hbx HB.out)) : w.heap.size ≤ gb433)); have n10_ := Aside0.mk ((by rw [hg]; exact (below_size (hbx HB.out)) : w.heap.size ≤ gb433)); have n11_ := Aside0.mk ((by rw [hg]; exact Nat.ne_of_lt (blk_lt (bkx BK377.out)) : gb377 ≠ gb433)); have n12_ := Aside0.mk ((by rw [hg]; exact Nat.ne_of_gt (blk_lt (bkx BK377.out)) : gb433 ≠ gb377)); have n13_ := Aside0.mk ((by rw [hg]; exact Nat.ne_of_lt (blk_lt (bkx BK398.out)) : gb398 ≠ gb433)); have n14_ := Aside0.mk ((by rw [hg]; exact Nat.ne_of_gt (blk_lt (bkx BK398.out)) : gb433 ≠ gb398)); have n15_ := Aside0.mk ((by rw [hg]; exact Nat.ne_of_lt (blk_lt (bkx BK425.out)) : gb425 ≠ gb433)); have n16_ := Aside0.mk ((by rw [hg]; exact Nat.ne_of_gt (blk_lt (bkx BK425.out)) : gb433 ≠ gb425)); clear HO396; clear HO403; clear HO424; clear HO428; clear BK377; clear BK398; clear BK425; clear HB; have HO396 := n0_; have HO403 := n1_; have HO424 := n2_; have HO428 := n3_; have BK377 := n4_; have BK398 := n5_; have BK425 := n6_; have HB := n7_; have BK433 := n8_; have GW433 := n9_; have GE433 := n10_; have NB377_433 := n11_; have NB433_377 := n12_; have NB398_433 := n13_; have NB433_398 := n14_; have NB425_433 := n15_; have NB433_425 := n16_; clear n0_ n1_ n2_ n3_ n4_ n5_ n6_ n7_ n8_ n9_ n10_ n11_ n12_ n13_ n14_ n15_ n16_; clear hb hbox hg; have hnb49 := NB433_377.out; have hnc49 := NB377_433.out; have hnb50 := NB433_398.out; have hnc50 := NB398_433.out; have hnb51 := NB433_425.out; have hnc51 := NB425_433.out; obtain ⟨⟨hcz52_0, hcz52_1, hcz52_2⟩, hfz52_0, hfz52_1, hfz52_2⟩ := cf3 BK433.out; obtain ⟨⟨hcz53_0, hcz53_1, hcz53_2, hcz53_3, hcz53_4, hcz53_5, hcz53_6, hcz53_7, hcz53_8, hcz53_9, hcz53_10, hcz53_11, hcz53_12, hcz53_13, hcz53_14⟩, hfz53_0, hfz53_1, hfz53_2, hfz53_3, hfz53_4, hfz53_5, hfz53_6, hfz53_7, hfz53_8, hfz53_9, hfz53_10, hfz53_11, hfz53_12, hfz53_13, hfz53_14⟩ := cf15 BK377.out; obtain ⟨⟨hcz54_0, hcz54_1, hcz54_2, hcz54_3, hcz54_4, hcz54_5, hcz54_6, hcz54_7, hcz54_8, hcz54_9, hcz54_10, hcz54_11, hcz54_12, hcz54_13, hcz54_14⟩, hfz54_0, hfz54_1, hfz54_2, hfz54_3, hfz54_4, hfz54_5, hfz54_6, hfz54_7, hfz54_8, hfz54_9, hfz54_10, hfz54_11, hfz54_12, hfz54_13, hfz54_14⟩ := cf15 BK398.out) | (go_at_call 15; (refine (ddiref36_Same.calls k 1 0 0 (⟨#[99]⟩ : ByteArray) false 0 0 false 0 0 false 0 0 false _ _ ([] : List (S61)) t380 t381 t382 t383 t384 t385 t386 t387 t388 t389 t390 t391 t392 t393 _ _ t394 true _ ?side1 ?side2 ?side3 ?side4 A10.out).mono ?_); (case side1 => exact Kd.C_nil _ _); (case side2 => exact Nat.le_refl _); (case side3 => refine (Kd.R_reads' (e := 61) (base := w.heap.size) (ok := fun k_ => (((True ∧ some k_ ≠ (.slice Ao35 y401.length co35 : Value).ownBlock) ∧ some k_ ≠ (.slice Ao43 t422.length co43 : Value).ownBlock) ∧ some k_ ≠ (.slice Ao46 y426.length co46 : Value).ownBlock)) (n := t394.length) (c := co31) ?_).2.2; exact (by (with_reducible repeat (first | apply Kd.R_alloc | apply Kd.R_drewN | apply Kd.R_drew)); exact (Kd.R_mono (Kd.R_far (p := ⟨gb433, 2, none⟩) (Kd.R_far (p := ⟨gb433, 1, none⟩) (Kd.R_far (p := ⟨gb433, 0, none⟩) (Kd.R_types HO396.out BK433.out (by decide)) (fun _ hk => hk.2) (.bool t429)) (fun _ hk => hk.2) (.int .u64 t430)) (fun _ hk => hk.2) (.int .u64 t431)) (fun _ h_ => h_.1)))); (case side4 => exact (Kd.R_reads' HO396.out).2.1); rintro e w55 ⟨rfl, hb⟩; have n0_ := Aside0.mk (Kd.R_below (by (with_reducible repeat (first | apply Kd.R_alloc | apply Kd.R_drewN | apply Kd.R_drew)); exact (Kd.R_mono (Kd.R_far (p := ⟨gb433, 2, none⟩) (Kd.R_far (p := ⟨gb433, 1, none⟩) (Kd.R_far (p := ⟨gb433, 0, none⟩) (Kd.R_types HO396.out BK433.out (by decide)) (fun _ hk => hk.2) (.bool t429)) (fun _ hk => hk.2) (.int .u64 t430)) (fun _ hk => hk.2) (.int .u64 t431)) (fun _ h_ => h_.1))) hb); have n1_ := Aside0.mk (Kd.R_below (by (with_reducible repeat (first | apply Kd.R_alloc | apply Kd.R_drewN | apply Kd.R_drew)); exact (Kd.R_mono (Kd.R_far (p := ⟨gb433, 2, none⟩) (Kd.R_far (p := ⟨gb433, 1, none⟩) (Kd.R_far (p := ⟨gb433, 0, none⟩) (Kd.R_types HO403.out BK433.out (by decide)) (fun _ hk => hk.2) (.bool t429)) (fun _ hk => hk.2) (.int .u64 t430)) (fun _ hk => hk.2) (.int .u64 t431)) (fun _ h_ => h_.1))) hb); have n2_ := Aside0.mk (Kd.R_below (by (with_reducible repeat (first | apply Kd.R_alloc | apply Kd.R_drewN | apply Kd.R_drew)); exact (Kd.R_mono (Kd.R_far (p := ⟨gb433, 2, none⟩) (Kd.R_far (p := ⟨gb433, 1, none⟩) (Kd.R_far (p := ⟨gb433, 0, none⟩) (Kd.R_types HO424.out BK433.out (by decide)) (fun _ hk => hk.2) (.bool t429)) (fun _ hk => hk.2) (.int .u64 t430)) (fun _ hk => hk.2) (.int .u64 t431)) (fun _ h_ => h_.1))) hb); have n3_ := Aside0.mk (Kd.R_below (by (with_reducible repeat (first | apply Kd.R_alloc | apply Kd.R_drewN | apply Kd.R_drew)); exact (Kd.R_mono (Kd.R_far (p := ⟨gb433, 2, none⟩) (Kd.R_far (p := ⟨gb433, 1, none⟩) (Kd.R_far (p := ⟨gb433, 0, none⟩) (Kd.R_types HO428.out BK433.out (by decide)) (fun _ hk => hk.2) (.bool t429)) (fun _ hk => hk.2) (.int .u64 t430)) (fun _ hk => hk.2) (.int .u64 t431)) (fun _ h_ => h_.1))) hb); have n4_ := Aside0.mk (blk_below (bkx BK377.out) hb); have n5_ := Aside0.mk (blk_below (bkx BK398.out) hb); have n6_ := Aside0.mk (blk_below (bkx BK425.out) hb); have n7_ := Aside0.mk (blk_below (g := gb433) (o := .cells #[.bool t429, .int .u64 t430, .int .u64 t431] 24 (0, 0)) (by (with_reducible repeat (first | refine blk_drewN ?_ _ | refine blk_drew ?_ | refine blk_alloc ?_ _)); refine blk_put (cs := #[.bool t429, .int .u64 t430, .int .u64 0]) ?_ 2 _ rfl; (with_reducible repeat (first | refine blk_drewN ?_ _ | refine blk_drew ?_ | refine blk_alloc ?_ _)); refine blk_put (cs := #[.bool t429, .int .u64 0, .int .u64 0]) ?_ 1 _ rfl; (with_reducible repeat (first | refine blk_drewN ?_ _ | refine blk_drew ?_ | refine blk_alloc ?_ _)); refine blk_put (cs := #[.bool false, .int .u64 0, .int .u64 0]) ?_ 0 _ rfl; (with_reducible repeat (first | refine blk_drewN ?_ _ | refine blk_drew ?_ | refine blk_alloc ?_ _)); exact BK433.out) hb); have n8_ := Aside0.mk (below_step (hbx HB.out) hb); clear HO396; clear HO403; clear HO424; clear HO428; clear BK377; clear BK398; clear BK425; clear BK433; clear HB; have HO396 := n0_; have HO403 := n1_; have HO424 := n2_; have HO428 := n3_; have BK377 := n4_; have BK398 := n5_; have BK425 := n6_; have BK433 := n7_; have HB := n8_; clear n0_ n1_ n2_ n3_ n4_ n5_ n6_ n7_ n8_; (try clear hb); (try clear hb2); (try clear hk); (try clear hi); obtain ⟨⟨hcz56_0, hcz56_1, hcz56_2, hcz56_3, hcz56_4, hcz56_5, hcz56_6, hcz56_7, hcz56_8, hcz56_9, hcz56_10, hcz56_11, hcz56_12, hcz56_13, hcz56_14⟩, hfz56_0, hfz56_1, hfz56_2, hfz56_3, hfz56_4, hfz56_5, hfz56_6, hfz56_7, hfz56_8, hfz56_9, hfz56_10, hfz56_11, hfz56_12, hfz56_13, hfz56_14⟩ := cf15 BK425.out; have p435 : 0 ≤ (0 : Int) := (by omega); have q435 : 0 < (t422.length : Int) := of_decide_eq_true (by first | (with_reducible assumption) | assumption); obtain ⟨ad435, e435, hx435_0, hx435_1⟩ := at_T61 (Kd.R_reads' HO424.out).2.2 0 p435 q435; cases e435; have qi435 : (0 < t422.length) = True := eq_true (by omega); (try rw [show ((0 : Int)).toNat = 0 from rfl] at hx435_0); (try rw [show 0 * 2 = 0 from rfl] at hx435_0); (try rw [Addr.add_zero'] at hx435_0); (try rw [show ((0 : Int)).toNat = 0 from rfl] at hx435_1); (try rw [show 0 * 2 = 0 from rfl] at hx435_1); (try rw [Addr.add_zero'] at hx435_1); replace p435 := eq_true p435; replace q435 := eq_true q435; obtain ⟨⟨hcz57_0, hcz57_1, hcz57_2⟩, hfz57_0, hfz57_1, hfz57_2⟩ := cf3 BK433.out) | (go_at_call 20; (refine (dhcp_Valid.calls k 1 0 0 (⟨#[]⟩ : ByteArray) false 0 0 false 0 0 false 0 0 false _ _ ([] : List (S61)) t436 _ ?side1 ?side2 A23.out).mono ?_); (case side1 => exact Kd.C_nil _ _); (case side2 => exact Nat.le_refl _); rintro e w58 ⟨rfl, hb⟩; have n0_ := Aside0.mk (Kd.R_below (by (with_reducible repeat (first | apply Kd.R_alloc | apply Kd.R_drewN | apply Kd.R_drew)); exact HO396.out) hb); have n1_ := Aside0.mk (Kd.R_below (by (with_reducible repeat (first | apply Kd.R_alloc | apply Kd.R_drewN | apply Kd.R_drew)); exact HO403.out) hb); have n2_ := Aside0.mk (Kd.R_below (by (with_reducible repeat (first | apply Kd.R_alloc | apply Kd.R_drewN | apply Kd.R_drew)); exact HO424.out) hb); have n3_ := Aside0.mk (Kd.R_below (by (with_reducible repeat (first | apply Kd.R_alloc | apply Kd.R_drewN | apply Kd.R_drew)); exact HO428.out) hb); have n4_ := Aside0.mk (blk_below (bkx BK377.out) hb); have n5_ := Aside0.mk (blk_below (bkx BK398.out) hb); have n6_ := Aside0.mk (blk_below (bkx BK425.out) hb); have n7_ := Aside0.mk (blk_below (bkx BK433.out) hb); have n8_ := Aside0.mk (below_step (hbx HB.out) hb); clear HO396; clear HO403; clear HO424; clear HO428; clear BK377; clear BK398; clear BK425; clear BK433; clear HB; have HO396 := n0_; have HO403 := n1_; have HO424 := n2_; have HO428 := n3_; have BK377 := n4_; have BK398 := n5_; have BK425 := n6_; have BK433 := n7_; have HB := n8_; clear n0_ n1_ n2_ n3_ n4_ n5_ n6_ n7_ n8_; (try clear hb); (try clear hb2); (try clear hk); (try clear hi)))
                go_ret
                exact ⟨by first | rfl | (simp [errW_none, errW_some] <;> rfl) | (simp [*, errW_none, errW_some] <;> rfl), hbx HB.out⟩
               ·replace c22 := Bool.eq_false_iff.mpr c22
                subst c22
                rw [if_neg (show ¬ (false = true) by decide)] at H
                exact absurd H (by simp)
              ·rw [if_neg c21] at H
               exact absurd H (by simp)
             ·rw [if_neg c20] at H
              exact absurd H (by simp)
            ·rw [if_neg c19] at H
             exact absurd H (by simp)
           ·rw [if_neg c18] at H
            exact absurd H (by simp)
          ·rw [if_neg c17] at H
           exact absurd H (by simp)
         ·replace c16 := Bool.eq_false_iff.mpr c16
          subst c16
          rw [if_neg (show ¬ (false = true) by decide)] at H
          exact absurd H (by simp)
        ·rw [if_neg c15] at H
         exact absurd H (by simp)
       ·rw [if_neg c14] at H
        exact absurd H (by simp)
      ·rw [if_neg c13] at H
       exact absurd H (by simp)
     ·rw [if_neg c12] at H
      exact absurd H (by simp)
    ·replace c11 := Bool.eq_false_iff.mpr c11
     subst c11
     rw [if_neg (show ¬ (false = true) by decide)] at H
     exact absurd H (by simp)
   ·rw [if_neg c9] at H
    exact absurd H (by simp)
  ·rw [if_neg c8] at H
   exact absurd H (by simp)
 ·rw [if_neg c7] at H
  exact absurd H (by simp)

end Go.Proofs.YtcoekgnbncocnaaDoor.Pa

