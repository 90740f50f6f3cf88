/- Parts of the proof of this claim's statement (joined by a program of this session): AnsA, AnsB, Ans, Ref, Pk, Put, TimeP, Short, Awake36, PureDhcpAnswers. -/
import Derived.Test.YtcoekgnbncocnaaDoorQa1
import Derived.Test.YtcoekgnbncocnaaDoorQa4
import Derived.Test.YtcoekgnbncocnaaDoorQa2
import Derived.Test.YtcoekgnbncocnaaDoorQa5
import Derived.Test.YtcoekgnbncocnaaDoorQa3
namespace Go.Proofs.YtcoekgnbncocnaaDoor.Pa
open Go.RowKit Go.Proofs.YtcoekgnbncocnaaDoorW.PrintWords Go.Proofs.YtcoekgnbncocnaaDoorW.PrintLast Go.Proofs.YtcoekgnbncocnaaDoorW.PrintMore
attribute [local go_sem] max2_int min2_int max_two min_two max_three min_three max_four min_four   -- for this text's walks alone
set_option linter.unusedVariables false
set_option linter.unusedSimpArgs false

attribute [local go_sem high] eqA24
def ddilaw36_DhcpAnswers_a.f (k : Nat) (a0_0 : Int) (a0_1 : Int) (a0_2 : Int) (a0_3 : ByteArray) (a0_4 : Bool) (a0_5 : Int) (a0_6 : Int) (a0_7 : Bool) (a0_8 : Int) (a0_9 : Int) (a0_10 : Bool) (a0_11 : Int) (a0_12 : Int) (a0_13 : Bool) (l0_14 : List (S61)) (a1 : Int) (a2 : Int) : Option (Bool) := (ddiref36_Short.f k a0_0 a0_1 a0_2 a0_3 a0_4 a0_5 a0_6 a0_7 a0_8 a0_9 a0_10 a0_11 a0_12 a0_13 l0_14).bind fun bt510 => ((dhcp_Reply.f k bt510.1 bt510.2.1 bt510.2.2.1 bt510.2.2.2.1 bt510.2.2.2.2.1 bt510.2.2.2.2.2.1 bt510.2.2.2.2.2.2.1 bt510.2.2.2.2.2.2.2.1 bt510.2.2.2.2.2.2.2.2.1 bt510.2.2.2.2.2.2.2.2.2.1 bt510.2.2.2.2.2.2.2.2.2.2.1 bt510.2.2.2.2.2.2.2.2.2.2.2.1 bt510.2.2.2.2.2.2.2.2.2.2.2.2.1 bt510.2.2.2.2.2.2.2.2.2.2.2.2.2.1 bt510.2.2.2.2.2.2.2.2.2.2.2.2.2.2 (wrap64 ((wrap64 (Int.tmod a1 8)) + 1)) (wrap64 (a2))).bind fun bt527 => ((option_Find.f k bt527.2.2.2.2.2.2.2.2.2.2.2.2.2.2 82).bind fun bt545 => ((option_Find.f k bt510.2.2.2.2.2.2.2.2.2.2.2.2.2.2 82).bind fun bt547 => ((dhcp_Wanted.f k bt527.1 bt527.2.1 bt527.2.2.1 bt527.2.2.2.1 bt527.2.2.2.2.1 bt527.2.2.2.2.2.1 bt527.2.2.2.2.2.2.1 bt527.2.2.2.2.2.2.2.1 bt527.2.2.2.2.2.2.2.2.1 bt527.2.2.2.2.2.2.2.2.2.1 bt527.2.2.2.2.2.2.2.2.2.2.1 bt527.2.2.2.2.2.2.2.2.2.2.2.1 bt527.2.2.2.2.2.2.2.2.2.2.2.2.1 bt527.2.2.2.2.2.2.2.2.2.2.2.2.2.1 bt527.2.2.2.2.2.2.2.2.2.2.2.2.2.2).bind fun bt549 => ((dhcp_Lease.f k bt527.1 bt527.2.1 bt527.2.2.1 bt527.2.2.2.1 bt527.2.2.2.2.1 bt527.2.2.2.2.2.1 bt527.2.2.2.2.2.2.1 bt527.2.2.2.2.2.2.2.1 bt527.2.2.2.2.2.2.2.2.1 bt527.2.2.2.2.2.2.2.2.2.1 bt527.2.2.2.2.2.2.2.2.2.2.1 bt527.2.2.2.2.2.2.2.2.2.2.2.1 bt527.2.2.2.2.2.2.2.2.2.2.2.2.1 bt527.2.2.2.2.2.2.2.2.2.2.2.2.2.1 bt527.2.2.2.2.2.2.2.2.2.2.2.2.2.2).bind fun bt554 => (if bt527.2.2.2.1.toList = bt510.2.2.2.1.toList then (if bt527.2.1 = bt510.2.1 then (if (!(bt527.2.2.2.2.2.2.2.2.2.2.1 == bt510.2.2.2.2.2.2.2.2.2.2.1) || (!(bt527.2.2.2.2.2.2.2.2.2.2.2.1 == bt510.2.2.2.2.2.2.2.2.2.2.2.1) || (!(bt527.2.2.2.2.2.2.2.2.2.2.2.2.1 == bt510.2.2.2.2.2.2.2.2.2.2.2.2.1)))) = true then (none) else (if (bt527.2.2.2.2.2.2.2.2.2.2.2.2.2.1 != bt510.2.2.2.2.2.2.2.2.2.2.2.2.2.1) = true then (none) else (if bt527.1 = (wrap64 ((wrap64 (Int.tmod a1 8)) + 1)) then (if bt527.2.2.1 = (wrap64 (a2)) then (if (bt545.2 != bt547.2) = true then (none) else (if bt545.1.toList = bt547.1.toList then (if (bt527.2.2.2.2.2.2.2.2.2.2.2.2.2.2.length : Int) > 1 then (none) else (if bt549.2.2.2 = true then (none) else (if bt554.2.2.2 = true then (none) else ((dhcp_Valid.f k bt510.1 bt510.2.1 bt510.2.2.1 bt510.2.2.2.1 bt510.2.2.2.2.1 bt510.2.2.2.2.2.1 bt510.2.2.2.2.2.2.1 bt510.2.2.2.2.2.2.2.1 bt510.2.2.2.2.2.2.2.2.1 bt510.2.2.2.2.2.2.2.2.2.1 bt510.2.2.2.2.2.2.2.2.2.2.1 bt510.2.2.2.2.2.2.2.2.2.2.2.1 bt510.2.2.2.2.2.2.2.2.2.2.2.2.1 bt510.2.2.2.2.2.2.2.2.2.2.2.2.2.1 bt510.2.2.2.2.2.2.2.2.2.2.2.2.2.2).bind fun t558 => (if t558 = true then ((dhcp_Valid.f k bt527.1 bt527.2.1 bt527.2.2.1 bt527.2.2.2.1 bt527.2.2.2.2.1 bt527.2.2.2.2.2.1 bt527.2.2.2.2.2.2.1 bt527.2.2.2.2.2.2.2.1 bt527.2.2.2.2.2.2.2.2.1 bt527.2.2.2.2.2.2.2.2.2.1 bt527.2.2.2.2.2.2.2.2.2.2.1 bt527.2.2.2.2.2.2.2.2.2.2.2.1 bt527.2.2.2.2.2.2.2.2.2.2.2.2.1 bt527.2.2.2.2.2.2.2.2.2.2.2.2.2.1 bt527.2.2.2.2.2.2.2.2.2.2.2.2.2.2).bind fun t559 => (if t559 = true then ((ddilaw36_awake.f k).bind fun t560 => (some t560)) else (none))) else (none)))))) else (none))) else (none)) else (none)))) else (none)) else (none)))))))
set_option maxHeartbeats 8000000 in
set_option maxRecDepth 100000 in
theorem ddilaw36_DhcpAnswers_a.calls (k : Nat) (a0_0 : Int) (a0_1 : Int) (a0_2 : Int) (a0_3 : ByteArray) (a0_4 : Bool) (a0_5 : Int) (a0_6 : Int) (a0_7 : Bool) (a0_8 : Int) (a0_9 : Int) (a0_10 : Bool) (a0_11 : Int) (a0_12 : Int) (a0_13 : Bool) (A0_14 : Option Addr) (c0_14 : Nat) (l0_14 : List (S61)) (a1 : Int) (a2 : Int) (r : Bool) (w : World) (hr0_14 : Kd.C k61 w A0_14 l0_14.length l0_14) (hc0_14 : l0_14.length ≤ c0_14) (h : ddilaw36_DhcpAnswers_a.f k a0_0 a0_1 a0_2 a0_3 a0_4 a0_5 a0_6 a0_7 a0_8 a0_9 a0_10 a0_11 a0_12 a0_13 l0_14 a1 a2 = some r) :
  Calls Tryd.prog 4 #[.agg #[.int .i64 a0_0, .int .i64 a0_1, .int .i64 a0_2, .string a0_3, .bool a0_4, .int .u64 a0_5, .int .u64 a0_6, .bool a0_7, .int .u64 a0_8, .int .u64 a0_9, .bool a0_10, .int .u64 a0_11, .int .u64 a0_12, .bool a0_13, .slice A0_14 l0_14.length c0_14], .int .u8 a1, .int .u16 a2] w fun e w' => e = .returned (.bool r) ∧ Below w.heap.size w w' := by
 have hu27 := Tryd.underlying27
 have hu24 := Tryd.underlying24
 have HR0_14 := Aside0.mk hr0_14
 have HC0_14 := Aside0.mk hc0_14
 clear hr0_14 hc0_14
 have HB := Aside0.mk (Below.refl w.heap.size w)
 have H : ((ddiref36_Short.f k a0_0 a0_1 a0_2 a0_3 a0_4 a0_5 a0_6 a0_7 a0_8 a0_9 a0_10 a0_11 a0_12 a0_13 l0_14).bind fun bt510 => ((dhcp_Reply.f k bt510.1 bt510.2.1 bt510.2.2.1 bt510.2.2.2.1 bt510.2.2.2.2.1 bt510.2.2.2.2.2.1 bt510.2.2.2.2.2.2.1 bt510.2.2.2.2.2.2.2.1 bt510.2.2.2.2.2.2.2.2.1 bt510.2.2.2.2.2.2.2.2.2.1 bt510.2.2.2.2.2.2.2.2.2.2.1 bt510.2.2.2.2.2.2.2.2.2.2.2.1 bt510.2.2.2.2.2.2.2.2.2.2.2.2.1 bt510.2.2.2.2.2.2.2.2.2.2.2.2.2.1 bt510.2.2.2.2.2.2.2.2.2.2.2.2.2.2 (wrap64 ((wrap64 (Int.tmod a1 8)) + 1)) (wrap64 (a2))).bind fun bt527 => ((option_Find.f k bt527.2.2.2.2.2.2.2.2.2.2.2.2.2.2 82).bind fun bt545 => ((option_Find.f k bt510.2.2.2.2.2.2.2.2.2.2.2.2.2.2 82).bind fun bt547 => ((dhcp_Wanted.f k bt527.1 bt527.2.1 bt527.2.2.1 bt527.2.2.2.1 bt527.2.2.2.2.1 bt527.2.2.2.2.2.1 bt527.2.2.2.2.2.2.1 bt527.2.2.2.2.2.2.2.1 bt527.2.2.2.2.2.2.2.2.1 bt527.2.2.2.2.2.2.2.2.2.1 bt527.2.2.2.2.2.2.2.2.2.2.1 bt527.2.2.2.2.2.2.2.2.2.2.2.1 bt527.2.2.2.2.2.2.2.2.2.2.2.2.1 bt527.2.2.2.2.2.2.2.2.2.2.2.2.2.1 bt527.2.2.2.2.2.2.2.2.2.2.2.2.2.2).bind fun bt549 => ((dhcp_Lease.f k bt527.1 bt527.2.1 bt527.2.2.1 bt527.2.2.2.1 bt527.2.2.2.2.1 bt527.2.2.2.2.2.1 bt527.2.2.2.2.2.2.1 bt527.2.2.2.2.2.2.2.1 bt527.2.2.2.2.2.2.2.2.1 bt527.2.2.2.2.2.2.2.2.2.1 bt527.2.2.2.2.2.2.2.2.2.2.1 bt527.2.2.2.2.2.2.2.2.2.2.2.1 bt527.2.2.2.2.2.2.2.2.2.2.2.2.1 bt527.2.2.2.2.2.2.2.2.2.2.2.2.2.1 bt527.2.2.2.2.2.2.2.2.2.2.2.2.2.2).bind fun bt554 => (if bt527.2.2.2.1.toList = bt510.2.2.2.1.toList then (if bt527.2.1 = bt510.2.1 then (if (!(bt527.2.2.2.2.2.2.2.2.2.2.1 == bt510.2.2.2.2.2.2.2.2.2.2.1) || (!(bt527.2.2.2.2.2.2.2.2.2.2.2.1 == bt510.2.2.2.2.2.2.2.2.2.2.2.1) || (!(bt527.2.2.2.2.2.2.2.2.2.2.2.2.1 == bt510.2.2.2.2.2.2.2.2.2.2.2.2.1)))) = true then (none) else (if (bt527.2.2.2.2.2.2.2.2.2.2.2.2.2.1 != bt510.2.2.2.2.2.2.2.2.2.2.2.2.2.1) = true then (none) else (if bt527.1 = (wrap64 ((wrap64 (Int.tmod a1 8)) + 1)) then (if bt527.2.2.1 = (wrap64 (a2)) then (if (bt545.2 != bt547.2) = true then (none) else (if bt545.1.toList = bt547.1.toList then (if (bt527.2.2.2.2.2.2.2.2.2.2.2.2.2.2.length : Int) > 1 then (none) else (if bt549.2.2.2 = true then (none) else (if bt554.2.2.2 = true then (none) else ((dhcp_Valid.f k bt510.1 bt510.2.1 bt510.2.2.1 bt510.2.2.2.1 bt510.2.2.2.2.1 bt510.2.2.2.2.2.1 bt510.2.2.2.2.2.2.1 bt510.2.2.2.2.2.2.2.1 bt510.2.2.2.2.2.2.2.2.1 bt510.2.2.2.2.2.2.2.2.2.1 bt510.2.2.2.2.2.2.2.2.2.2.1 bt510.2.2.2.2.2.2.2.2.2.2.2.1 bt510.2.2.2.2.2.2.2.2.2.2.2.2.1 bt510.2.2.2.2.2.2.2.2.2.2.2.2.2.1 bt510.2.2.2.2.2.2.2.2.2.2.2.2.2.2).bind fun t558 => (if t558 = true then ((dhcp_Valid.f k bt527.1 bt527.2.1 bt527.2.2.1 bt527.2.2.2.1 bt527.2.2.2.2.1 bt527.2.2.2.2.2.1 bt527.2.2.2.2.2.2.1 bt527.2.2.2.2.2.2.2.1 bt527.2.2.2.2.2.2.2.2.1 bt527.2.2.2.2.2.2.2.2.2.1 bt527.2.2.2.2.2.2.2.2.2.2.1 bt527.2.2.2.2.2.2.2.2.2.2.2.1 bt527.2.2.2.2.2.2.2.2.2.2.2.2.1 bt527.2.2.2.2.2.2.2.2.2.2.2.2.2.1 bt527.2.2.2.2.2.2.2.2.2.2.2.2.2.2).bind fun t559 => (if t559 = true then ((ddilaw36_awake.f k).bind fun t560 => (some t560)) else (none))) else (none)))))) else (none))) else (none)) else (none)))) else (none)) else (none)))))))) = some r := h
 clear h
 replace H := Option.bind_eq_some_iff.mp H
 obtain ⟨⟨t510, t511, t512, t513, t514, t515, t516, t517, t518, t519, t520, t521, t522, t523, t524⟩, A40, H⟩ := H
 (try dsimp only at H)
 have A4 := Aside0.mk A40
 clear A40
 replace H := Option.bind_eq_some_iff.mp H
 obtain ⟨⟨t527, t528, t529, t530, t531, t532, t533, t534, t535, t536, t537, t538, t539, t540, t541⟩, A50, H⟩ := H
 (try dsimp only at H)
 have A5 := Aside0.mk A50
 clear A50
 replace H := Option.bind_eq_some_iff.mp H
 obtain ⟨⟨t545, t546⟩, A60, H⟩ := H
 (try dsimp only at H)
 have A6 := Aside0.mk A60
 clear A60
 replace H := Option.bind_eq_some_iff.mp H
 obtain ⟨⟨t547, t548⟩, A70, H⟩ := H
 (try dsimp only at H)
 have A7 := Aside0.mk A70
 clear A70
 replace H := Option.bind_eq_some_iff.mp H
 obtain ⟨⟨t549, t550, t551, t552⟩, A80, H⟩ := H
 (try dsimp only at H)
 have A8 := Aside0.mk A80
 clear A80
 replace H := Option.bind_eq_some_iff.mp H
 obtain ⟨⟨t554, t555, t556, t557⟩, A90, H⟩ := H
 (try dsimp only at H)
 have A9 := Aside0.mk A90
 clear A90
 by_cases c10 : t530.toList = t513.toList
 ·rw [if_pos c10] at H
  have c10b0 : (t530.toList == t513.toList) = true := beq_iff_eq.mpr c10
  have c10b1 : (t530.toList != t513.toList) = false := bne_eq_false_iff_eq.mpr c10
  clear c10
  by_cases c11 : t528 = t511
  ·rw [if_pos c11] at H
   have c11b0 : (t528 == t511) = true := beq_iff_eq.mpr c11
   have c11b1 : (t528 != t511) = false := bne_eq_false_iff_eq.mpr c11
   clear c11
   by_cases c12 : (!(t537 == t520) || (!(t538 == t521) || (!(t539 == t522)))) = true
   ·rw [if_pos c12] at H
    exact absurd H (by simp)
   ·rw [if_neg c12] at H
    have c12b0 : (!(t537 == t520) || (!(t538 == t521) || (!(t539 == t522)))) = false := by simpa using c12
    clear c12
    by_cases c13 : (t540 != t523) = true
    ·rw [if_pos c13] at H
     exact absurd H (by simp)
    ·rw [if_neg c13] at H
     have c13b0 : (t540 != t523) = false := by simpa using c13
     (try (have c13b1 : decide (t540 = t523) = true := by simpa using c13))
     (try (have c13b2 : (t540 == t523) = true := by simpa using c13))
     clear c13
     by_cases c14 : t527 = (wrap64 ((wrap64 (Int.tmod a1 8)) + 1))
     ·rw [if_pos c14] at H
      have c14b0 : (t527 == (wrap64 ((wrap64 (Int.tmod a1 8)) + 1))) = true := beq_iff_eq.mpr c14
      have c14b1 : (t527 != (wrap64 ((wrap64 (Int.tmod a1 8)) + 1))) = false := bne_eq_false_iff_eq.mpr c14
      clear c14
      by_cases c15 : t529 = (wrap64 (a2))
      ·rw [if_pos c15] at H
       have c15b0 : (t529 == (wrap64 (a2))) = true := beq_iff_eq.mpr c15
       have c15b1 : (t529 != (wrap64 (a2))) = false := bne_eq_false_iff_eq.mpr c15
       clear c15
       by_cases c16 : (t546 != t548) = true
       ·rw [if_pos c16] at H
        exact absurd H (by simp)
       ·rw [if_neg c16] at H
        have c16b0 : (t546 != t548) = false := by simpa using c16
        (try (have c16b1 : decide (t546 = t548) = true := by simpa using c16))
        (try (have c16b2 : (t546 == t548) = true := by simpa using c16))
        clear c16
        by_cases c17 : t545.toList = t547.toList
        ·rw [if_pos c17] at H
         have c17b0 : (t545.toList == t547.toList) = true := beq_iff_eq.mpr c17
         have c17b1 : (t545.toList != t547.toList) = false := bne_eq_false_iff_eq.mpr c17
         clear c17
         by_cases c18 : (t541.length : Int) > 1
         ·rw [if_pos c18] at H
          exact absurd H (by simp)
         ·rw [if_neg c18] at H
          have c18b0 : decide (1 < (t541.length : Int)) = false := decide_eq_false c18
          have c18b1 : decide (1 < t541.length) = false := decide_eq_false (by omega)
          clear c18
          by_cases c19 : t552 = true
          ·subst c19
           rw [if_pos rfl] at H
           exact absurd H (by simp)
          ·replace c19 := Bool.eq_false_iff.mpr c19
           subst c19
           rw [if_neg (show ¬ (false = true) by decide)] at H
           by_cases c20 : t557 = true
           ·subst c20
            rw [if_pos rfl] at H
            exact absurd H (by simp)
           ·replace c20 := Bool.eq_false_iff.mpr c20
            subst c20
            rw [if_neg (show ¬ (false = true) by decide)] at H
            replace H := Option.bind_eq_some_iff.mp H
            obtain ⟨t558, A210, H⟩ := H
            (try dsimp only at H)
            have A21 := Aside0.mk A210
            clear A210
            by_cases c22 : t558 = true
            ·subst c22
             rw [if_pos rfl] at H
             replace H := Option.bind_eq_some_iff.mp H
             obtain ⟨t559, A230, H⟩ := H
             (try dsimp only at H)
             have A23 := Aside0.mk A230
             clear A230
             by_cases c24 : t559 = true
             ·subst c24
              rw [if_pos rfl] at H
              replace H := Option.bind_eq_some_iff.mp H
              obtain ⟨t560, A250, H⟩ := H
              replace H : (some t560) = some r := H
              have A25 := Aside0.mk A250
              clear A250
              obtain rfl := Option.some.inj H
              go_enter Tryd.func4, Tryd.ntmps4
              go_wp2_with (first | ((with_reducible refine gate_dst (N := 3) rfl ?_); (try (refine gate_guard (by rfl) ?_; dsimp only)); refine box_event ?hg (N := 3) ?hd (cs := #[.int .i64 a0_0, .int .i64 a0_1, .int .i64 a0_2, .string a0_3, .bool a0_4, .int .u64 a0_5, .int .u64 a0_6, .bool a0_7, .int .u64 a0_8, .int .u64 a0_9, .bool a0_10, .int .u64 a0_11, .int .u64 a0_12, .bool a0_13, .slice A0_14 l0_14.length c0_14]) (t := 27) ?hr ?_; (case hd => rfl); (case hg => rfl); (case hr => first | (go_simp; done) | (go_simp; rfl)); intro gb509 hg w26 hbox hb; have n0_ := Aside0.mk (below_step (hbx HB.out) hb); have n1_ := Aside0.mk (hbox); have n2_ := Aside0.mk ((by rw [hg]; exact (below_size (hbx HB.out)) : w.heap.size ≤ gb509)); have n3_ := Aside0.mk ((by rw [hg]; exact (below_size (hbx HB.out)) : w.heap.size ≤ gb509)); clear HB; have HB := n0_; have BK509 := n1_; have GW509 := n2_; have GE509 := n3_; clear n0_ n1_ n2_ n3_; clear hb hbox hg; obtain ⟨⟨hcz27_0, hcz27_1, hcz27_2, hcz27_3, hcz27_4, hcz27_5, hcz27_6, hcz27_7, hcz27_8, hcz27_9, hcz27_10, hcz27_11, hcz27_12, hcz27_13, hcz27_14⟩, hfz27_0, hfz27_1, hfz27_2, hfz27_3, hfz27_4, hfz27_5, hfz27_6, hfz27_7, hfz27_8, hfz27_9, hfz27_10, hfz27_11, hfz27_12, hfz27_13, hfz27_14⟩ := cf15 BK509.out) | ((with_reducible refine gate_callee (f := 10) rfl ?_); refine goesL_ (some 20) rfl rfl Tryd.func10 (by kernel_rfl) rfl #[.agg #[.int .i64 a0_0, .int .i64 a0_1, .int .i64 a0_2, .string a0_3, .bool a0_4, .int .u64 a0_5, .int .u64 a0_6, .bool a0_7, .int .u64 a0_8, .int .u64 a0_9, .bool a0_10, .int .u64 a0_11, .int .u64 a0_12, .bool a0_13, .slice A0_14 l0_14.length c0_14]] rfl (by (try simp only [List.map_toArray, List.map_cons, List.map_nil]); first | done | rfl | (simp only [List.length_drop, List.length_take]; rfl)) ?_; (with_reducible refine (ddiref36_Short.calls k a0_0 a0_1 a0_2 a0_3 a0_4 a0_5 a0_6 a0_7 a0_8 a0_9 a0_10 a0_11 a0_12 a0_13 _ _ l0_14 t510 t511 t512 t513 t514 t515 t516 t517 t518 t519 t520 t521 t522 t523 t524 _ ?side1 ?side2 A4.out).mono ?_); (case side1 => repeat (first | exact (Kd.C_below HR0_14.out HB.out) | (with_reducible refine Kd.C_alloc ?_ _) | (with_reducible refine Kd.C_drewN ?_ _) | (with_reducible refine Kd.C_drew ?_))); (case side2 => exact HC0_14.out); rintro e w28 ⟨v525, rfl, ho0, hb⟩; refine ⟨_, rfl, ?_⟩; have n0_ := Aside0.mk (Kd.R_lower ho0 (below_size (hbx HB.out))); have n1_ := Aside0.mk (blk_below (bkx BK509.out) hb); have n2_ := Aside0.mk (below_step (hbx HB.out) hb); clear BK509; clear HB; have HO526 := n0_; have BK509 := n1_; have HB := n2_; clear n0_ n1_ n2_; (try clear hb); (try clear hb2); (try clear hk); (try clear hi); (try clear ho0); obtain ⟨⟨hcz29_0, hcz29_1, hcz29_2, hcz29_3, hcz29_4, hcz29_5, hcz29_6, hcz29_7, hcz29_8, hcz29_9, hcz29_10, hcz29_11, hcz29_12, hcz29_13, hcz29_14⟩, hfz29_0, hfz29_1, hfz29_2, hfz29_3, hfz29_4, hfz29_5, hfz29_6, hfz29_7, hfz29_8, hfz29_9, hfz29_10, hfz29_11, hfz29_12, hfz29_13, hfz29_14⟩ := cf15 BK509.out; obtain ⟨Ao30, co30, eo30⟩ := Kd.R_slice HO526.out; subst eo30) | ((with_reducible refine gate_callee (f := 16) rfl ?_); refine goesL_ (some 29) rfl rfl Tryd.func16 (by kernel_rfl) rfl #[.agg #[.int .i64 t510, .int .i64 t511, .int .i64 t512, .string t513, .bool t514, .int .u64 t515, .int .u64 t516, .bool t517, .int .u64 t518, .int .u64 t519, .bool t520, .int .u64 t521, .int .u64 t522, .bool t523, .slice Ao30 t524.length co30], .int .i64 (wrap64 ((wrap64 (Int.tmod a1 8)) + 1)), .int .i64 (wrap64 (a2))] rfl (by (try simp only [List.map_toArray, List.map_cons, List.map_nil]); first | done | rfl | (simp only [List.length_drop, List.length_take]; rfl)) ?_; (with_reducible refine (dhcp_Reply.calls k t510 t511 t512 t513 t514 t515 t516 t517 t518 t519 t520 t521 t522 t523 _ _ t524 (wrap64 ((wrap64 (Int.tmod a1 8)) + 1)) (wrap64 (a2)) t527 t528 t529 t530 t531 t532 t533 t534 t535 t536 t537 t538 t539 t540 t541 _ ?side1 ?side2 A5.out).mono ?_); (case side1 => refine (Kd.R_reads' (e := 61) (base := w.heap.size) (ok := fun k_ => True) (n := t524.length) (c := co30) ?_).2.2; exact (by (with_reducible repeat (first | apply Kd.R_alloc | apply Kd.R_drewN | apply Kd.R_drew)); exact (Kd.R_mono (Kd.R_far (p := ⟨gb509, 14, none⟩) (Kd.R_far (p := ⟨gb509, 13, none⟩) (Kd.R_far (p := ⟨gb509, 12, none⟩) (Kd.R_far (p := ⟨gb509, 11, none⟩) (Kd.R_far (p := ⟨gb509, 10, none⟩) (Kd.R_far (p := ⟨gb509, 9, none⟩) (Kd.R_far (p := ⟨gb509, 8, none⟩) (Kd.R_far (p := ⟨gb509, 7, none⟩) (Kd.R_far (p := ⟨gb509, 6, none⟩) (Kd.R_far (p := ⟨gb509, 5, none⟩) (Kd.R_far (p := ⟨gb509, 4, none⟩) (Kd.R_far (p := ⟨gb509, 3, none⟩) (Kd.R_far (p := ⟨gb509, 2, none⟩) (Kd.R_far (p := ⟨gb509, 1, none⟩) (Kd.R_far (p := ⟨gb509, 0, none⟩) (Kd.R_types HO526.out BK509.out (by decide)) (fun _ hk => hk.2) (.int .i64 t510)) (fun _ hk => hk.2) (.int .i64 t511)) (fun _ hk => hk.2) (.int .i64 t512)) (fun _ hk => hk.2) (.string t513)) (fun _ hk => hk.2) (.bool t514)) (fun _ hk => hk.2) (.int .u64 t515)) (fun _ hk => hk.2) (.int .u64 t516)) (fun _ hk => hk.2) (.bool t517)) (fun _ hk => hk.2) (.int .u64 t518)) (fun _ hk => hk.2) (.int .u64 t519)) (fun _ hk => hk.2) (.bool t520)) (fun _ hk => hk.2) (.int .u64 t521)) (fun _ hk => hk.2) (.int .u64 t522)) (fun _ hk => hk.2) (.bool t523)) (fun _ hk => hk.2) (.slice Ao30 t524.length co30)) (fun _ h_ => h_.1)))); (case side2 => exact (Kd.R_reads' HO526.out).2.1); rintro e w31 ⟨v542, rfl, ho0, hb⟩; refine ⟨_, rfl, ?_⟩; have n0_ := Aside0.mk (Kd.R_elder' (by (with_reducible repeat (first | apply Kd.R_alloc | apply Kd.R_drewN | apply Kd.R_drew)); exact (Kd.R_mono (Kd.R_far (p := ⟨gb509, 14, none⟩) (Kd.R_far (p := ⟨gb509, 13, none⟩) (Kd.R_far (p := ⟨gb509, 12, none⟩) (Kd.R_far (p := ⟨gb509, 11, none⟩) (Kd.R_far (p := ⟨gb509, 10, none⟩) (Kd.R_far (p := ⟨gb509, 9, none⟩) (Kd.R_far (p := ⟨gb509, 8, none⟩) (Kd.R_far (p := ⟨gb509, 7, none⟩) (Kd.R_far (p := ⟨gb509, 6, none⟩) (Kd.R_far (p := ⟨gb509, 5, none⟩) (Kd.R_far (p := ⟨gb509, 4, none⟩) (Kd.R_far (p := ⟨gb509, 3, none⟩) (Kd.R_far (p := ⟨gb509, 2, none⟩) (Kd.R_far (p := ⟨gb509, 1, none⟩) (Kd.R_far (p := ⟨gb509, 0, none⟩) (Kd.R_types HO526.out BK509.out (by decide)) (fun _ hk => hk.2) (.int .i64 t510)) (fun _ hk => hk.2) (.int .i64 t511)) (fun _ hk => hk.2) (.int .i64 t512)) (fun _ hk => hk.2) (.string t513)) (fun _ hk => hk.2) (.bool t514)) (fun _ hk => hk.2) (.int .u64 t515)) (fun _ hk => hk.2) (.int .u64 t516)) (fun _ hk => hk.2) (.bool t517)) (fun _ hk => hk.2) (.int .u64 t518)) (fun _ hk => hk.2) (.int .u64 t519)) (fun _ hk => hk.2) (.bool t520)) (fun _ hk => hk.2) (.int .u64 t521)) (fun _ hk => hk.2) (.int .u64 t522)) (fun _ hk => hk.2) (.bool t523)) (fun _ hk => hk.2) (.slice Ao30 t524.length co30)) (fun _ h_ => h_.1))) (Kd.R_base ho0) hb); have n1_ := Aside0.mk (Kd.R_lower (Kd.R_new' ho0 (Kd.R_lt (by (with_reducible repeat (first | apply Kd.R_alloc | apply Kd.R_drewN | apply Kd.R_drew)); exact (Kd.R_mono (Kd.R_far (p := ⟨gb509, 14, none⟩) (Kd.R_far (p := ⟨gb509, 13, none⟩) (Kd.R_far (p := ⟨gb509, 12, none⟩) (Kd.R_far (p := ⟨gb509, 11, none⟩) (Kd.R_far (p := ⟨gb509, 10, none⟩) (Kd.R_far (p := ⟨gb509, 9, none⟩) (Kd.R_far (p := ⟨gb509, 8, none⟩) (Kd.R_far (p := ⟨gb509, 7, none⟩) (Kd.R_far (p := ⟨gb509, 6, none⟩) (Kd.R_far (p := ⟨gb509, 5, none⟩) (Kd.R_far (p := ⟨gb509, 4, none⟩) (Kd.R_far (p := ⟨gb509, 3, none⟩) (Kd.R_far (p := ⟨gb509, 2, none⟩) (Kd.R_far (p := ⟨gb509, 1, none⟩) (Kd.R_far (p := ⟨gb509, 0, none⟩) (Kd.R_types HO526.out BK509.out (by decide)) (fun _ hk => hk.2) (.int .i64 t510)) (fun _ hk => hk.2) (.int .i64 t511)) (fun _ hk => hk.2) (.int .i64 t512)) (fun _ hk => hk.2) (.string t513)) (fun _ hk => hk.2) (.bool t514)) (fun _ hk => hk.2) (.int .u64 t515)) (fun _ hk => hk.2) (.int .u64 t516)) (fun _ hk => hk.2) (.bool t517)) (fun _ hk => hk.2) (.int .u64 t518)) (fun _ hk => hk.2) (.int .u64 t519)) (fun _ hk => hk.2) (.bool t520)) (fun _ hk => hk.2) (.int .u64 t521)) (fun _ hk => hk.2) (.int .u64 t522)) (fun _ hk => hk.2) (.bool t523)) (fun _ hk => hk.2) (.slice Ao30 t524.length co30)) (fun _ h_ => h_.1))))) (below_size (hbx HB.out))); have n2_ := Aside0.mk (blk_below (g := gb509) (o := .cells #[.int .i64 t510, .int .i64 t511, .int .i64 t512, .string t513, .bool t514, .int .u64 t515, .int .u64 t516, .bool t517, .int .u64 t518, .int .u64 t519, .bool t520, .int .u64 t521, .int .u64 t522, .bool t523, .slice Ao30 t524.length co30] 27 (0, 0)) (by (with_reducible repeat (first | refine blk_drewN ?_ _ | refine blk_drew ?_ | refine blk_alloc ?_ _)); refine blk_put (cs := #[.int .i64 t510, .int .i64 t511, .int .i64 t512, .string t513, .bool t514, .int .u64 t515, .int .u64 t516, .bool t517, .int .u64 t518, .int .u64 t519, .bool t520, .int .u64 t521, .int .u64 t522, .bool t523, .slice A0_14 l0_14.length c0_14]) ?_ 14 _ rfl; (with_reducible repeat (first | refine blk_drewN ?_ _ | refine blk_drew ?_ | refine blk_alloc ?_ _)); refine blk_put (cs := #[.int .i64 t510, .int .i64 t511, .int .i64 t512, .string t513, .bool t514, .int .u64 t515, .int .u64 t516, .bool t517, .int .u64 t518, .int .u64 t519, .bool t520, .int .u64 t521, .int .u64 t522, .bool a0_13, .slice A0_14 l0_14.length c0_14]) ?_ 13 _ rfl; (with_reducible repeat (first | refine blk_drewN ?_ _ | refine blk_drew ?_ | refine blk_alloc ?_ _)); refine blk_put (cs := #[.int .i64 t510, .int .i64 t511, .int .i64 t512, .string t513, .bool t514, .int .u64 t515, .int .u64 t516, .bool t517, .int .u64 t518, .int .u64 t519, .bool t520, .int .u64 t521, .int .u64 a0_12, .bool a0_13, .slice A0_14 l0_14.length c0_14]) ?_ 12 _ rfl; (with_reducible repeat (first | refine blk_drewN ?_ _ | refine blk_drew ?_ | refine blk_alloc ?_ _)); refine blk_put (cs := #[.int .i64 t510, .int .i64 t511, .int .i64 t512, .string t513, .bool t514, .int .u64 t515, .int .u64 t516, .bool t517, .int .u64 t518, .int .u64 t519, .bool t520, .int .u64 a0_11, .int .u64 a0_12, .bool a0_13, .slice A0_14 l0_14.length c0_14]) ?_ 11 _ rfl; (with_reducible repeat (first | refine blk_drewN ?_ _ | refine blk_drew ?_ | refine blk_alloc ?_ _)); refine blk_put (cs := #[.int .i64 t510, .int .i64 t511, .int .i64 t512, .string t513, .bool t514, .int .u64 t515, .int .u64 t516, .bool t517, .int .u64 t518, .int .u64 t519, .bool a0_10, .int .u64 a0_11, .int .u64 a0_12, .bool a0_13, .slice A0_14 l0_14.length c0_14]) ?_ 10 _ rfl; (with_reducible repeat (first | refine blk_drewN ?_ _ | refine blk_drew ?_ | refine blk_alloc ?_ _)); refine blk_put (cs := #[.int .i64 t510, .int .i64 t511, .int .i64 t512, .string t513, .bool t514, .int .u64 t515, .int .u64 t516, .bool t517, .int .u64 t518, .int .u64 a0_9, .bool a0_10, .int .u64 a0_11, .int .u64 a0_12, .bool a0_13, .slice A0_14 l0_14.length c0_14]) ?_ 9 _ rfl; (with_reducible repeat (first | refine blk_drewN ?_ _ | refine blk_drew ?_ | refine blk_alloc ?_ _)); refine blk_put (cs := #[.int .i64 t510, .int .i64 t511, .int .i64 t512, .string t513, .bool t514, .int .u64 t515, .int .u64 t516, .bool t517, .int .u64 a0_8, .int .u64 a0_9, .bool a0_10, .int .u64 a0_11, .int .u64 a0_12, .bool a0_13, .slice A0_14 l0_14.length c0_14]) ?_ 8 _ rfl; (with_reducible repeat (first | refine blk_drewN ?_ _ | refine blk_drew ?_ | refine blk_alloc ?_ _)); refine blk_put (cs := #[.int .i64 t510, .int .i64 t511, .int .i64 t512, .string t513, .bool t514, .int .u64 t515, .int .u64 t516, .bool a0_7, .int .u64 a0_8, .int .u64 a0_9, .bool a0_10, .int .u64 a0_11, .int .u64 a0_12, .bool a0_13, .slice A0_14 l0_14.length c0_14]) ?_ 7 _ rfl; (with_reducible repeat (first | refine blk_drewN ?_ _ | refine blk_drew ?_ | refine blk_alloc ?_ _)); refine blk_put (cs := #[.int .i64 t510, .int .i64 t511, .int .i64 t512, .string t513, .bool t514, .int .u64 t515, .int .u64 a0_6, .bool a0_7, .int .u64 a0_8, .int .u64 a0_9, .bool a0_10, .int .u64 a0_11, .int .u64 a0_12, .bool a0_13, .slice A0_14 l0_14.length c0_14]) ?_ 6 _ rfl; (with_reducible repeat (first | refine blk_drewN ?_ _ | refine blk_drew ?_ | refine blk_alloc ?_ _)); refine blk_put (cs := #[.int .i64 t510, .int .i64 t511, .int .i64 t512, .string t513, .bool t514, .int .u64 a0_5, .int .u64 a0_6, .bool a0_7, .int .u64 a0_8, .int .u64 a0_9, .bool a0_10, .int .u64 a0_11, .int .u64 a0_12, .bool a0_13, .slice A0_14 l0_14.length c0_14]) ?_ 5 _ rfl; (with_reducible repeat (first | refine blk_drewN ?_ _ | refine blk_drew ?_ | refine blk_alloc ?_ _)); refine blk_put (cs := #[.int .i64 t510, .int .i64 t511, .int .i64 t512, .string t513, .bool a0_4, .int .u64 a0_5, .int .u64 a0_6, .bool a0_7, .int .u64 a0_8, .int .u64 a0_9, .bool a0_10, .int .u64 a0_11, .int .u64 a0_12, .bool a0_13, .slice A0_14 l0_14.length c0_14]) ?_ 4 _ rfl; (with_reducible repeat (first | refine blk_drewN ?_ _ | refine blk_drew ?_ | refine blk_alloc ?_ _)); refine blk_put (cs := #[.int .i64 t510, .int .i64 t511, .int .i64 t512, .string a0_3, .bool a0_4, .int .u64 a0_5, .int .u64 a0_6, .bool a0_7, .int .u64 a0_8, .int .u64 a0_9, .bool a0_10, .int .u64 a0_11, .int .u64 a0_12, .bool a0_13, .slice A0_14 l0_14.length c0_14]) ?_ 3 _ rfl; (with_reducible repeat (first | refine blk_drewN ?_ _ | refine blk_drew ?_ | refine blk_alloc ?_ _)); refine blk_put (cs := #[.int .i64 t510, .int .i64 t511, .int .i64 a0_2, .string a0_3, .bool a0_4, .int .u64 a0_5, .int .u64 a0_6, .bool a0_7, .int .u64 a0_8, .int .u64 a0_9, .bool a0_10, .int .u64 a0_11, .int .u64 a0_12, .bool a0_13, .slice A0_14 l0_14.length c0_14]) ?_ 2 _ rfl; (with_reducible repeat (first | refine blk_drewN ?_ _ | refine blk_drew ?_ | refine blk_alloc ?_ _)); refine blk_put (cs := #[.int .i64 t510, .int .i64 a0_1, .int .i64 a0_2, .string a0_3, .bool a0_4, .int .u64 a0_5, .int .u64 a0_6, .bool a0_7, .int .u64 a0_8, .int .u64 a0_9, .bool a0_10, .int .u64 a0_11, .int .u64 a0_12, .bool a0_13, .slice A0_14 l0_14.length c0_14]) ?_ 1 _ rfl; (with_reducible repeat (first | refine blk_drewN ?_ _ | refine blk_drew ?_ | refine blk_alloc ?_ _)); refine blk_put (cs := #[.int .i64 a0_0, .int .i64 a0_1, .int .i64 a0_2, .string a0_3, .bool a0_4, .int .u64 a0_5, .int .u64 a0_6, .bool a0_7, .int .u64 a0_8, .int .u64 a0_9, .bool a0_10, .int .u64 a0_11, .int .u64 a0_12, .bool a0_13, .slice A0_14 l0_14.length c0_14]) ?_ 0 _ rfl; (with_reducible repeat (first | refine blk_drewN ?_ _ | refine blk_drew ?_ | refine blk_alloc ?_ _)); exact BK509.out) hb); have n3_ := Aside0.mk (below_step (hbx HB.out) hb); clear HO526; clear BK509; clear HB; have HO526 := n0_; have HO543 := n1_; have BK509 := n2_; have HB := n3_; clear n0_ n1_ n2_ n3_; (try clear hb); (try clear hb2); (try clear hk); (try clear hi); (try clear ho0)) | ((with_reducible refine gate_dst (N := 8) rfl ?_); (try (refine gate_guard (by rfl) ?_; dsimp only)); refine box_event ?hg (N := 8) ?hd (cs := #[.int .i64 0, .int .i64 0, .int .i64 0, .string (⟨#[]⟩ : ByteArray), .bool false, .int .u64 0, .int .u64 0, .bool false, .int .u64 0, .int .u64 0, .bool false, .int .u64 0, .int .u64 0, .bool false, .slice none 0 0]) (t := 27) ?hr ?_; (case hd => rfl); (case hg => rfl); (case hr => first | (go_simp; done) | (go_simp; rfl)); intro gb544 hg w32 hbox hb; have n0_ := Aside0.mk (Kd.R_below (by (with_reducible repeat (first | apply Kd.R_alloc | apply Kd.R_drewN | apply Kd.R_drew)); exact HO526.out) hb); have n1_ := Aside0.mk (Kd.R_below (by (with_reducible repeat (first | apply Kd.R_alloc | apply Kd.R_drewN | apply Kd.R_drew)); exact HO543.out) hb); have n2_ := Aside0.mk (blk_below (bkx BK509.out) hb); have n3_ := Aside0.mk (below_step (hbx HB.out) hb); have n4_ := Aside0.mk (hbox); have n5_ := Aside0.mk ((by rw [hg]; exact (below_size (hbx HB.out)) : w.heap.size ≤ gb544)); have n6_ := Aside0.mk ((by rw [hg]; exact (below_size (hbx HB.out)) : w.heap.size ≤ gb544)); have n7_ := Aside0.mk ((by rw [hg]; exact Nat.ne_of_lt (blk_lt (bkx BK509.out)) : gb509 ≠ gb544)); have n8_ := Aside0.mk ((by rw [hg]; exact Nat.ne_of_gt (blk_lt (bkx BK509.out)) : gb544 ≠ gb509)); clear HO526; clear HO543; clear BK509; clear HB; have HO526 := n0_; have HO543 := n1_; have BK509 := n2_; have HB := n3_; have BK544 := n4_; have GW544 := n5_; have GE544 := n6_; have NB509_544 := n7_; have NB544_509 := n8_; clear n0_ n1_ n2_ n3_ n4_ n5_ n6_ n7_ n8_; clear hb hbox hg; have hnb33 := NB544_509.out; have hnc33 := NB509_544.out; obtain ⟨⟨hcz34_0, hcz34_1, hcz34_2, hcz34_3, hcz34_4, hcz34_5, hcz34_6, hcz34_7, hcz34_8, hcz34_9, hcz34_10, hcz34_11, hcz34_12, hcz34_13, hcz34_14⟩, hfz34_0, hfz34_1, hfz34_2, hfz34_3, hfz34_4, hfz34_5, hfz34_6, hfz34_7, hfz34_8, hfz34_9, hfz34_10, hfz34_11, hfz34_12, hfz34_13, hfz34_14⟩ := cf15 BK544.out; obtain ⟨Ao35, co35, eo35⟩ := Kd.R_slice HO543.out; subst eo35) | ((with_reducible refine gate_callee (f := 19) rfl ?_); refine goesL_ (some 33) rfl rfl Tryd.func19 (by kernel_rfl) rfl #[.slice Ao35 t541.length co35, .int .i64 82] rfl (by (try simp only [List.map_toArray, List.map_cons, List.map_nil]); first | done | rfl | (simp only [List.length_drop, List.length_take]; rfl)) ?_; (with_reducible refine (option_Find.calls k _ _ t541 82 t545 t546 _ ?side1 ?side2 A6.out).mono ?_); (case side1 => refine (Kd.R_reads' (e := 61) (base := w.heap.size) (ok := fun k_ => (True ∧ some k_ ≠ (.slice Ao30 t524.length co30 : Value).ownBlock)) (n := t541.length) (c := co35) ?_).2.2; exact (by (with_reducible repeat (first | apply Kd.R_alloc | apply Kd.R_drewN | apply Kd.R_drew)); exact (Kd.R_mono (Kd.R_far (p := ⟨gb544, 14, none⟩) (Kd.R_far (p := ⟨gb544, 13, none⟩) (Kd.R_far (p := ⟨gb544, 12, none⟩) (Kd.R_far (p := ⟨gb544, 11, none⟩) (Kd.R_far (p := ⟨gb544, 10, none⟩) (Kd.R_far (p := ⟨gb544, 9, none⟩) (Kd.R_far (p := ⟨gb544, 8, none⟩) (Kd.R_far (p := ⟨gb544, 7, none⟩) (Kd.R_far (p := ⟨gb544, 6, none⟩) (Kd.R_far (p := ⟨gb544, 5, none⟩) (Kd.R_far (p := ⟨gb544, 4, none⟩) (Kd.R_far (p := ⟨gb544, 3, none⟩) (Kd.R_far (p := ⟨gb544, 2, none⟩) (Kd.R_far (p := ⟨gb544, 1, none⟩) (Kd.R_far (p := ⟨gb544, 0, none⟩) (Kd.R_types HO543.out BK544.out (by decide)) (fun _ hk => hk.2) (.int .i64 t527)) (fun _ hk => hk.2) (.int .i64 t528)) (fun _ hk => hk.2) (.int .i64 t529)) (fun _ hk => hk.2) (.string t530)) (fun _ hk => hk.2) (.bool t531)) (fun _ hk => hk.2) (.int .u64 t532)) (fun _ hk => hk.2) (.int .u64 t533)) (fun _ hk => hk.2) (.bool t534)) (fun _ hk => hk.2) (.int .u64 t535)) (fun _ hk => hk.2) (.int .u64 t536)) (fun _ hk => hk.2) (.bool t537)) (fun _ hk => hk.2) (.int .u64 t538)) (fun _ hk => hk.2) (.int .u64 t539)) (fun _ hk => hk.2) (.bool t540)) (fun _ hk => hk.2) (.slice Ao35 t541.length co35)) (fun _ h_ => h_.1)))); (case side2 => exact (Kd.R_reads' HO543.out).2.1); rintro e w36 ⟨rfl, hb⟩; refine ⟨_, rfl, ?_⟩; have n0_ := Aside0.mk (Kd.R_below (by (with_reducible repeat (first | apply Kd.R_alloc | apply Kd.R_drewN | apply Kd.R_drew)); exact (Kd.R_mono (Kd.R_far (p := ⟨gb544, 14, none⟩) (Kd.R_far (p := ⟨gb544, 13, none⟩) (Kd.R_far (p := ⟨gb544, 12, none⟩) (Kd.R_far (p := ⟨gb544, 11, none⟩) (Kd.R_far (p := ⟨gb544, 10, none⟩) (Kd.R_far (p := ⟨gb544, 9, none⟩) (Kd.R_far (p := ⟨gb544, 8, none⟩) (Kd.R_far (p := ⟨gb544, 7, none⟩) (Kd.R_far (p := ⟨gb544, 6, none⟩) (Kd.R_far (p := ⟨gb544, 5, none⟩) (Kd.R_far (p := ⟨gb544, 4, none⟩) (Kd.R_far (p := ⟨gb544, 3, none⟩) (Kd.R_far (p := ⟨gb544, 2, none⟩) (Kd.R_far (p := ⟨gb544, 1, none⟩) (Kd.R_far (p := ⟨gb544, 0, none⟩) (Kd.R_types HO526.out BK544.out (by decide)) (fun _ hk => hk.2) (.int .i64 t527)) (fun _ hk => hk.2) (.int .i64 t528)) (fun _ hk => hk.2) (.int .i64 t529)) (fun _ hk => hk.2) (.string t530)) (fun _ hk => hk.2) (.bool t531)) (fun _ hk => hk.2) (.int .u64 t532)) (fun _ hk => hk.2) (.int .u64 t533)) (fun _ hk => hk.2) (.bool t534)) (fun _ hk => hk.2) (.int .u64 t535)) (fun _ hk => hk.2) (.int .u64 t536)) (fun _ hk => hk.2) (.bool t537)) (fun _ hk => hk.2) (.int .u64 t538)) (fun _ hk => hk.2) (.int .u64 t539)) (fun _ hk => hk.2) (.bool t540)) (fun _ hk => hk.2) (.slice Ao35 t541.length co35)) (fun _ h_ => h_.1))) hb); have n1_ := Aside0.mk (Kd.R_below (by (with_reducible repeat (first | apply Kd.R_alloc | apply Kd.R_drewN | apply Kd.R_drew)); exact (Kd.R_mono (Kd.R_far (p := ⟨gb544, 14, none⟩) (Kd.R_far (p := ⟨gb544, 13, none⟩) (Kd.R_far (p := ⟨gb544, 12, none⟩) (Kd.R_far (p := ⟨gb544, 11, none⟩) (Kd.R_far (p := ⟨gb544, 10, none⟩) (Kd.R_far (p := ⟨gb544, 9, none⟩) (Kd.R_far (p := ⟨gb544, 8, none⟩) (Kd.R_far (p := ⟨gb544, 7, none⟩) (Kd.R_far (p := ⟨gb544, 6, none⟩) (Kd.R_far (p := ⟨gb544, 5, none⟩) (Kd.R_far (p := ⟨gb544, 4, none⟩) (Kd.R_far (p := ⟨gb544, 3, none⟩) (Kd.R_far (p := ⟨gb544, 2, none⟩) (Kd.R_far (p := ⟨gb544, 1, none⟩) (Kd.R_far (p := ⟨gb544, 0, none⟩) (Kd.R_types HO543.out BK544.out (by decide)) (fun _ hk => hk.2) (.int .i64 t527)) (fun _ hk => hk.2) (.int .i64 t528)) (fun _ hk => hk.2) (.int .i64 t529)) (fun _ hk => hk.2) (.string t530)) (fun _ hk => hk.2) (.bool t531)) (fun _ hk => hk.2) (.int .u64 t532)) (fun _ hk => hk.2) (.int .u64 t533)) (fun _ hk => hk.2) (.bool t534)) (fun _ hk => hk.2) (.int .u64 t535)) (fun _ hk => hk.2) (.int .u64 t536)) (fun _ hk => hk.2) (.bool t537)) (fun _ hk => hk.2) (.int .u64 t538)) (fun _ hk => hk.2) (.int .u64 t539)) (fun _ hk => hk.2) (.bool t540)) (fun _ hk => hk.2) (.slice Ao35 t541.length co35)) (fun _ h_ => h_.1))) hb); have n2_ := Aside0.mk (blk_below (bkx BK509.out) hb); have n3_ := Aside0.mk (blk_below (g := gb544) (o := .cells #[.int .i64 t527, .int .i64 t528, .int .i64 t529, .string t530, .bool t531, .int .u64 t532, .int .u64 t533, .bool t534, .int .u64 t535, .int .u64 t536, .bool t537, .int .u64 t538, .int .u64 t539, .bool t540, .slice Ao35 t541.length co35] 27 (0, 0)) (by (with_reducible repeat (first | refine blk_drewN ?_ _ | refine blk_drew ?_ | refine blk_alloc ?_ _)); refine blk_put (cs := #[.int .i64 t527, .int .i64 t528, .int .i64 t529, .string t530, .bool t531, .int .u64 t532, .int .u64 t533, .bool t534, .int .u64 t535, .int .u64 t536, .bool t537, .int .u64 t538, .int .u64 t539, .bool t540, .slice none 0 0]) ?_ 14 _ rfl; (with_reducible repeat (first | refine blk_drewN ?_ _ | refine blk_drew ?_ | refine blk_alloc ?_ _)); refine blk_put (cs := #[.int .i64 t527, .int .i64 t528, .int .i64 t529, .string t530, .bool t531, .int .u64 t532, .int .u64 t533, .bool t534, .int .u64 t535, .int .u64 t536, .bool t537, .int .u64 t538, .int .u64 t539, .bool false, .slice none 0 0]) ?_ 13 _ rfl; (with_reducible repeat (first | refine blk_drewN ?_ _ | refine blk_drew ?_ | refine blk_alloc ?_ _)); refine blk_put (cs := #[.int .i64 t527, .int .i64 t528, .int .i64 t529, .string t530, .bool t531, .int .u64 t532, .int .u64 t533, .bool t534, .int .u64 t535, .int .u64 t536, .bool t537, .int .u64 t538, .int .u64 0, .bool false, .slice none 0 0]) ?_ 12 _ rfl; (with_reducible repeat (first | refine blk_drewN ?_ _ | refine blk_drew ?_ | refine blk_alloc ?_ _)); refine blk_put (cs := #[.int .i64 t527, .int .i64 t528, .int .i64 t529, .string t530, .bool t531, .int .u64 t532, .int .u64 t533, .bool t534, .int .u64 t535, .int .u64 t536, .bool t537, .int .u64 0, .int .u64 0, .bool false, .slice none 0 0]) ?_ 11 _ rfl; (with_reducible repeat (first | refine blk_drewN ?_ _ | refine blk_drew ?_ | refine blk_alloc ?_ _)); refine blk_put (cs := #[.int .i64 t527, .int .i64 t528, .int .i64 t529, .string t530, .bool t531, .int .u64 t532, .int .u64 t533, .bool t534, .int .u64 t535, .int .u64 t536, .bool false, .int .u64 0, .int .u64 0, .bool false, .slice none 0 0]) ?_ 10 _ rfl; (with_reducible repeat (first | refine blk_drewN ?_ _ | refine blk_drew ?_ | refine blk_alloc ?_ _)); refine blk_put (cs := #[.int .i64 t527, .int .i64 t528, .int .i64 t529, .string t530, .bool t531, .int .u64 t532, .int .u64 t533, .bool t534, .int .u64 t535, .int .u64 0, .bool false, .int .u64 0, .int .u64 0, .bool false, .slice none 0 0]) ?_ 9 _ rfl; (with_reducible repeat (first | refine blk_drewN ?_ _ | refine blk_drew ?_ | refine blk_alloc ?_ _)); refine blk_put (cs := #[.int .i64 t527, .int .i64 t528, .int .i64 t529, .string t530, .bool t531, .int .u64 t532, .int .u64 t533, .bool t534, .int .u64 0, .int .u64 0, .bool false, .int .u64 0, .int .u64 0, .bool false, .slice none 0 0]) ?_ 8 _ rfl; (with_reducible repeat (first | refine blk_drewN ?_ _ | refine blk_drew ?_ | refine blk_alloc ?_ _)); refine blk_put (cs := #[.int .i64 t527, .int .i64 t528, .int .i64 t529, .string t530, .bool t531, .int .u64 t532, .int .u64 t533, .bool false, .int .u64 0, .int .u64 0, .bool false, .int .u64 0, .int .u64 0, .bool false, .slice none 0 0]) ?_ 7 _ rfl; (with_reducible repeat (first | refine blk_drewN ?_ _ | refine blk_drew ?_ | refine blk_alloc ?_ _)); refine blk_put (cs := #[.int .i64 t527, .int .i64 t528, .int .i64 t529, .string t530, .bool t531, .int .u64 t532, .int .u64 0, .bool false, .int .u64 0, .int .u64 0, .bool false, .int .u64 0, .int .u64 0, .bool false, .slice none 0 0]) ?_ 6 _ rfl; (with_reducible repeat (first | refine blk_drewN ?_ _ | refine blk_drew ?_ | refine blk_alloc ?_ _)); refine blk_put (cs := #[.int .i64 t527, .int .i64 t528, .int .i64 t529, .string t530, .bool t531, .int .u64 0, .int .u64 0, .bool false, .int .u64 0, .int .u64 0, .bool false, .int .u64 0, .int .u64 0, .bool false, .slice none 0 0]) ?_ 5 _ rfl; (with_reducible repeat (first | refine blk_drewN ?_ _ | refine blk_drew ?_ | refine blk_alloc ?_ _)); refine blk_put (cs := #[.int .i64 t527, .int .i64 t528, .int .i64 t529, .string t530, .bool false, .int .u64 0, .int .u64 0, .bool false, .int .u64 0, .int .u64 0, .bool false, .int .u64 0, .int .u64 0, .bool false, .slice none 0 0]) ?_ 4 _ rfl; (with_reducible repeat (first | refine blk_drewN ?_ _ | refine blk_drew ?_ | refine blk_alloc ?_ _)); refine blk_put (cs := #[.int .i64 t527, .int .i64 t528, .int .i64 t529, .string (⟨#[]⟩ : ByteArray), .bool false, .int .u64 0, .int .u64 0, .bool false, .int .u64 0, .int .u64 0, .bool false, .int .u64 0, .int .u64 0, .bool false, .slice none 0 0]) ?_ 3 _ rfl; (with_reducible repeat (first | refine blk_drewN ?_ _ | refine blk_drew ?_ | refine blk_alloc ?_ _)); refine blk_put (cs := #[.int .i64 t527, .int .i64 t528, .int .i64 0, .string (⟨#[]⟩ : ByteArray), .bool false, .int .u64 0, .int .u64 0, .bool false, .int .u64 0, .int .u64 0, .bool false, .int .u64 0, .int .u64 0, .bool false, .slice none 0 0]) ?_ 2 _ rfl; (with_reducible repeat (first | refine blk_drewN ?_ _ | refine blk_drew ?_ | refine blk_alloc ?_ _)); refine blk_put (cs := #[.int .i64 t527, .int .i64 0, .int .i64 0, .string (⟨#[]⟩ : ByteArray), .bool false, .int .u64 0, .int .u64 0, .bool false, .int .u64 0, .int .u64 0, .bool false, .int .u64 0, .int .u64 0, .bool false, .slice none 0 0]) ?_ 1 _ rfl; (with_reducible repeat (first | refine blk_drewN ?_ _ | refine blk_drew ?_ | refine blk_alloc ?_ _)); refine blk_put (cs := #[.int .i64 0, .int .i64 0, .int .i64 0, .string (⟨#[]⟩ : ByteArray), .bool false, .int .u64 0, .int .u64 0, .bool false, .int .u64 0, .int .u64 0, .bool false, .int .u64 0, .int .u64 0, .bool false, .slice none 0 0]) ?_ 0 _ rfl; (with_reducible repeat (first | refine blk_drewN ?_ _ | refine blk_drew ?_ | refine blk_alloc ?_ _)); exact BK544.out) hb); have n4_ := Aside0.mk (below_step (hbx HB.out) hb); clear HO526; clear HO543; clear BK509; clear BK544; clear HB; have HO526 := n0_; have HO543 := n1_; have BK509 := n2_; have BK544 := n3_; have HB := n4_; clear n0_ n1_ n2_ n3_ n4_; (try clear hb); (try clear hb2); (try clear hk); (try clear hi); obtain ⟨⟨hcz37_0, hcz37_1, hcz37_2, hcz37_3, hcz37_4, hcz37_5, hcz37_6, hcz37_7, hcz37_8, hcz37_9, hcz37_10, hcz37_11, hcz37_12, hcz37_13, hcz37_14⟩, hfz37_0, hfz37_1, hfz37_2, hfz37_3, hfz37_4, hfz37_5, hfz37_6, hfz37_7, hfz37_8, hfz37_9, hfz37_10, hfz37_11, hfz37_12, hfz37_13, hfz37_14⟩ := cf15 BK509.out) | ((with_reducible refine gate_callee (f := 19) rfl ?_); refine goesL_ (some 39) rfl rfl Tryd.func19 (by kernel_rfl) rfl #[.slice Ao30 t524.length co30, .int .i64 82] rfl (by (try simp only [List.map_toArray, List.map_cons, List.map_nil]); first | done | rfl | (simp only [List.length_drop, List.length_take]; rfl)) ?_; (with_reducible refine (option_Find.calls k _ _ t524 82 t547 t548 _ ?side1 ?side2 A7.out).mono ?_); (case side1 => repeat (first | exact (Kd.R_reads' HO526.out).2.2 | (with_reducible refine Kd.C_alloc ?_ _) | (with_reducible refine Kd.C_drewN ?_ _) | (with_reducible refine Kd.C_drew ?_))); (case side2 => exact (Kd.R_reads' HO526.out).2.1); rintro e w38 ⟨rfl, hb⟩; refine ⟨_, rfl, ?_⟩; have n0_ := Aside0.mk (Kd.R_below (by (with_reducible repeat (first | apply Kd.R_alloc | apply Kd.R_drewN | apply Kd.R_drew)); exact HO526.out) hb); have n1_ := Aside0.mk (Kd.R_below (by (with_reducible repeat (first | apply Kd.R_alloc | apply Kd.R_drewN | apply Kd.R_drew)); exact HO543.out) hb); have n2_ := Aside0.mk (blk_below (bkx BK509.out) hb); have n3_ := Aside0.mk (blk_below (bkx BK544.out) hb); have n4_ := Aside0.mk (below_step (hbx HB.out) hb); clear HO526; clear HO543; clear BK509; clear BK544; clear HB; have HO526 := n0_; have HO543 := n1_; have BK509 := n2_; have BK544 := n3_; have HB := n4_; clear n0_ n1_ n2_ n3_ n4_; (try clear hb); (try clear hb2); (try clear hk); (try clear hi); obtain ⟨⟨hcz39_0, hcz39_1, hcz39_2, hcz39_3, hcz39_4, hcz39_5, hcz39_6, hcz39_7, hcz39_8, hcz39_9, hcz39_10, hcz39_11, hcz39_12, hcz39_13, hcz39_14⟩, hfz39_0, hfz39_1, hfz39_2, hfz39_3, hfz39_4, hfz39_5, hfz39_6, hfz39_7, hfz39_8, hfz39_9, hfz39_10, hfz39_11, hfz39_12, hfz39_13, hfz39_14⟩ := cf15 BK544.out) | ((with_reducible refine gate_callee (f := 11) rfl ?_); refine goesL_ (some 44) rfl rfl Tryd.func11 (by kernel_rfl) rfl #[.agg #[.int .i64 t527, .int .i64 t528, .int .i64 t529, .string t530, .bool t531, .int .u64 t532, .int .u64 t533, .bool t534, .int .u64 t535, .int .u64 t536, .bool t537, .int .u64 t538, .int .u64 t539, .bool t540, .slice Ao35 t541.length co35]] rfl (by (try simp only [List.map_toArray, List.map_cons, List.map_nil]); first | done | rfl | (simp only [List.length_drop, List.length_take]; rfl)) ?_; (with_reducible refine (dhcp_Wanted.calls k t527 t528 t529 t530 t531 t532 t533 t534 t535 t536 t537 t538 t539 t540 _ _ t541 t549 t550 t551 false _ ?side1 ?side2 A8.out).mono ?_); (case side1 => repeat (first | exact (Kd.R_reads' HO543.out).2.2 | (with_reducible refine Kd.C_alloc ?_ _) | (with_reducible refine Kd.C_drewN ?_ _) | (with_reducible refine Kd.C_drew ?_))); (case side2 => exact (Kd.R_reads' HO543.out).2.1); rintro e w40 ⟨rfl, hb⟩; refine ⟨_, rfl, ?_⟩; have n0_ := Aside0.mk (Kd.R_below (by (with_reducible repeat (first | apply Kd.R_alloc | apply Kd.R_drewN | apply Kd.R_drew)); exact HO526.out) hb); have n1_ := Aside0.mk (Kd.R_below (by (with_reducible repeat (first | apply Kd.R_alloc | apply Kd.R_drewN | apply Kd.R_drew)); exact HO543.out) hb); have n2_ := Aside0.mk (blk_below (bkx BK509.out) hb); have n3_ := Aside0.mk (blk_below (bkx BK544.out) hb); have n4_ := Aside0.mk (below_step (hbx HB.out) hb); clear HO526; clear HO543; clear BK509; clear BK544; clear HB; have HO526 := n0_; have HO543 := n1_; have BK509 := n2_; have BK544 := n3_; have HB := n4_; clear n0_ n1_ n2_ n3_ n4_; (try clear hb); (try clear hb2); (try clear hk); (try clear hi)) | ((with_reducible refine gate_dst (N := 13) rfl ?_); (try (refine gate_guard (by rfl) ?_; dsimp only)); refine box_event ?hg (N := 13) ?hd (cs := #[.bool false, .int .u64 0, .int .u64 0]) (t := 24) ?hr ?_; (case hd => rfl); (case hg => rfl); (case hr => first | (go_simp; done) | (go_simp; rfl)); intro gb553 hg w41 hbox hb; have n0_ := Aside0.mk (Kd.R_below (by (with_reducible repeat (first | apply Kd.R_alloc | apply Kd.R_drewN | apply Kd.R_drew)); exact HO526.out) hb); have n1_ := Aside0.mk (Kd.R_below (by (with_reducible repeat (first | apply Kd.R_alloc | apply Kd.R_drewN | apply Kd.R_drew)); exact HO543.out) hb); have n2_ := Aside0.mk (blk_below (bkx BK509.out) hb); have n3_ := Aside0.mk (blk_below (bkx BK544.out) hb); have n4_ := Aside0.mk (below_step (hbx HB.out) hb); have n5_ := Aside0.mk (hbox); have n6_ := Aside0.mk ((by rw [hg]; exact (below_size (hbx HB.out)) : w.heap.size ≤ gb553)); have n7_ := Aside0.mk ((by rw [hg]; exact (below_size (hbx HB.out)) : w.heap.size ≤ gb553)); have n8_ := Aside0.mk ((by rw [hg]; exact Nat.ne_of_lt (blk_lt (bkx BK509.out)) : gb509 ≠ gb553)); have n9_ := Aside0.mk ((by rw [hg]; exact Nat.ne_of_gt (blk_lt (bkx BK509.out)) : gb553 ≠ gb509)); have n10_ := Aside0.mk ((by rw [hg]; exact Nat.ne_of_lt (blk_lt (bkx BK544.out)) : gb544 ≠ gb553)); have n11_ := Aside0.mk ((by rw [hg]; exact Nat.ne_of_gt (blk_lt (bkx BK544.out)) : gb553 ≠ gb544)); clear HO526; clear HO543; clear BK509; clear BK544; clear HB; have HO526 := n0_; have HO543 := n1_; have BK509 := n2_; have BK544 := n3_; have HB := n4_; have BK553 := n5_; have GW553 := n6_; have GE553 := n7_; have NB509_553 := n8_; have NB553_509 := n9_; have NB544_553 := n10_; have NB553_544 := n11_; clear n0_ n1_ n2_ n3_ n4_ n5_ n6_ n7_ n8_ n9_ n10_ n11_; clear hb hbox hg; have hnb42 := NB553_509.out; have hnc42 := NB509_553.out; have hnb43 := NB553_544.out; have hnc43 := NB544_553.out; obtain ⟨⟨hcz44_0, hcz44_1, hcz44_2⟩, hfz44_0, hfz44_1, hfz44_2⟩ := cf3 BK553.out; obtain ⟨⟨hcz45_0, hcz45_1, hcz45_2, hcz45_3, hcz45_4, hcz45_5, hcz45_6, hcz45_7, hcz45_8, hcz45_9, hcz45_10, hcz45_11, hcz45_12, hcz45_13, hcz45_14⟩, hfz45_0, hfz45_1, hfz45_2, hfz45_3, hfz45_4, hfz45_5, hfz45_6, hfz45_7, hfz45_8, hfz45_9, hfz45_10, hfz45_11, hfz45_12, hfz45_13, hfz45_14⟩ := cf15 BK544.out) | ((with_reducible refine gate_callee (f := 13) rfl ?_); refine goesL_ (some 49) rfl rfl Tryd.func13 (by kernel_rfl) rfl #[.agg #[.int .i64 t527, .int .i64 t528, .int .i64 t529, .string t530, .bool t531, .int .u64 t532, .int .u64 t533, .bool t534, .int .u64 t535, .int .u64 t536, .bool t537, .int .u64 t538, .int .u64 t539, .bool t540, .slice Ao35 t541.length co35]] rfl (by (try simp only [List.map_toArray, List.map_cons, List.map_nil]); first | done | rfl | (simp only [List.length_drop, List.length_take]; rfl)) ?_; (with_reducible refine (dhcp_Lease.calls k t527 t528 t529 t530 t531 t532 t533 t534 t535 t536 t537 t538 t539 t540 _ _ t541 t554 t555 t556 false _ ?side1 ?side2 A9.out).mono ?_); (case side1 => refine (Kd.R_reads' (e := 61) (base := w.heap.size) (ok := fun k_ => (True ∧ some k_ ≠ (.slice Ao30 t524.length co30 : Value).ownBlock)) (n := t541.length) (c := co35) ?_).2.2; exact (by (with_reducible repeat (first | apply Kd.R_alloc | apply Kd.R_drewN | apply Kd.R_drew)); exact (Kd.R_mono (Kd.R_far (p := ⟨gb553, 2, none⟩) (Kd.R_far (p := ⟨gb553, 1, none⟩) (Kd.R_far (p := ⟨gb553, 0, none⟩) (Kd.R_types HO543.out BK553.out (by decide)) (fun _ hk => hk.2) (.bool t549)) (fun _ hk => hk.2) (.int .u64 t550)) (fun _ hk => hk.2) (.int .u64 t551)) (fun _ h_ => h_.1)))); (case side2 => exact (Kd.R_reads' HO543.out).2.1); rintro e w46 ⟨rfl, hb⟩; refine ⟨_, rfl, ?_⟩; have n0_ := Aside0.mk (Kd.R_below (by (with_reducible repeat (first | apply Kd.R_alloc | apply Kd.R_drewN | apply Kd.R_drew)); exact (Kd.R_mono (Kd.R_far (p := ⟨gb553, 2, none⟩) (Kd.R_far (p := ⟨gb553, 1, none⟩) (Kd.R_far (p := ⟨gb553, 0, none⟩) (Kd.R_types HO526.out BK553.out (by decide)) (fun _ hk => hk.2) (.bool t549)) (fun _ hk => hk.2) (.int .u64 t550)) (fun _ hk => hk.2) (.int .u64 t551)) (fun _ h_ => h_.1))) hb); have n1_ := Aside0.mk (Kd.R_below (by (with_reducible repeat (first | apply Kd.R_alloc | apply Kd.R_drewN | apply Kd.R_drew)); exact (Kd.R_mono (Kd.R_far (p := ⟨gb553, 2, none⟩) (Kd.R_far (p := ⟨gb553, 1, none⟩) (Kd.R_far (p := ⟨gb553, 0, none⟩) (Kd.R_types HO543.out BK553.out (by decide)) (fun _ hk => hk.2) (.bool t549)) (fun _ hk => hk.2) (.int .u64 t550)) (fun _ hk => hk.2) (.int .u64 t551)) (fun _ h_ => h_.1))) hb); have n2_ := Aside0.mk (blk_below (bkx BK509.out) hb); have n3_ := Aside0.mk (blk_below (bkx BK544.out) hb); have n4_ := Aside0.mk (blk_below (g := gb553) (o := .cells #[.bool t549, .int .u64 t550, .int .u64 t551] 24 (0, 0)) (by (with_reducible repeat (first | refine blk_drewN ?_ _ | refine blk_drew ?_ | refine blk_alloc ?_ _)); refine blk_put (cs := #[.bool t549, .int .u64 t550, .int .u64 0]) ?_ 2 _ rfl; (with_reducible repeat (first | refine blk_drewN ?_ _ | refine blk_drew ?_ | refine blk_alloc ?_ _)); refine blk_put (cs := #[.bool t549, .int .u64 0, .int .u64 0]) ?_ 1 _ rfl; (with_reducible repeat (first | refine blk_drewN ?_ _ | refine blk_drew ?_ | refine blk_alloc ?_ _)); refine blk_put (cs := #[.bool false, .int .u64 0, .int .u64 0]) ?_ 0 _ rfl; (with_reducible repeat (first | refine blk_drewN ?_ _ | refine blk_drew ?_ | refine blk_alloc ?_ _)); exact BK553.out) hb); have n5_ := Aside0.mk (below_step (hbx HB.out) hb); clear HO526; clear HO543; clear BK509; clear BK544; clear BK553; clear HB; have HO526 := n0_; have HO543 := n1_; have BK509 := n2_; have BK544 := n3_; have BK553 := n4_; have HB := n5_; clear n0_ n1_ n2_ n3_ n4_ n5_; (try clear hb); (try clear hb2); (try clear hk); (try clear hi); obtain ⟨⟨hcz47_0, hcz47_1, hcz47_2, hcz47_3, hcz47_4, hcz47_5, hcz47_6, hcz47_7, hcz47_8, hcz47_9, hcz47_10, hcz47_11, hcz47_12, hcz47_13, hcz47_14⟩, hfz47_0, hfz47_1, hfz47_2, hfz47_3, hfz47_4, hfz47_5, hfz47_6, hfz47_7, hfz47_8, hfz47_9, hfz47_10, hfz47_11, hfz47_12, hfz47_13, hfz47_14⟩ := cf15 BK544.out; obtain ⟨⟨hcz48_0, hcz48_1, hcz48_2, hcz48_3, hcz48_4, hcz48_5, hcz48_6, hcz48_7, hcz48_8, hcz48_9, hcz48_10, hcz48_11, hcz48_12, hcz48_13, hcz48_14⟩, hfz48_0, hfz48_1, hfz48_2, hfz48_3, hfz48_4, hfz48_5, hfz48_6, hfz48_7, hfz48_8, hfz48_9, hfz48_10, hfz48_11, hfz48_12, hfz48_13, hfz48_14⟩ := cf15 BK509.out) | ((with_reducible refine gate_callee (f := 20) rfl ?_); refine goesL_ (some 116) rfl rfl Tryd.func20 (by kernel_rfl) rfl #[.agg #[.int .i64 t510, .int .i64 t511, .int .i64 t512, .string t513, .bool t514, .int .u64 t515, .int .u64 t516, .bool t517, .int .u64 t518, .int .u64 t519, .bool t520, .int .u64 t521, .int .u64 t522, .bool t523, .slice Ao30 t524.length co30]] rfl (by (try simp only [List.map_toArray, List.map_cons, List.map_nil]); first | done | rfl | (simp only [List.length_drop, List.length_take]; rfl)) ?_; (with_reducible refine (dhcp_Valid.calls k t510 t511 t512 t513 t514 t515 t516 t517 t518 t519 t520 t521 t522 t523 _ _ t524 true _ ?side1 ?side2 A21.out).mono ?_); (case side1 => repeat (first | exact (Kd.R_reads' HO526.out).2.2 | (with_reducible refine Kd.C_alloc ?_ _) | (with_reducible refine Kd.C_drewN ?_ _) | (with_reducible refine Kd.C_drew ?_))); (case side2 => exact (Kd.R_reads' HO526.out).2.1); rintro e w49 ⟨rfl, hb⟩; refine ⟨_, rfl, ?_⟩; have n0_ := Aside0.mk (Kd.R_below (by (with_reducible repeat (first | apply Kd.R_alloc | apply Kd.R_drewN | apply Kd.R_drew)); exact HO526.out) hb); have n1_ := Aside0.mk (Kd.R_below (by (with_reducible repeat (first | apply Kd.R_alloc | apply Kd.R_drewN | apply Kd.R_drew)); exact HO543.out) hb); have n2_ := Aside0.mk (blk_below (bkx BK509.out) hb); have n3_ := Aside0.mk (blk_below (bkx BK544.out) hb); have n4_ := Aside0.mk (blk_below (bkx BK553.out) hb); have n5_ := Aside0.mk (below_step (hbx HB.out) hb); clear HO526; clear HO543; clear BK509; clear BK544; clear BK553; clear HB; have HO526 := n0_; have HO543 := n1_; have BK509 := n2_; have BK544 := n3_; have BK553 := n4_; have HB := n5_; clear n0_ n1_ n2_ n3_ n4_ n5_; (try clear hb); (try clear hb2); (try clear hk); (try clear hi); obtain ⟨⟨hcz50_0, hcz50_1, hcz50_2, hcz50_3, hcz50_4, hcz50_5, hcz50_6, hcz50_7, hcz50_8, hcz50_9, hcz50_10, hcz50_11, hcz50_12, hcz50_13, hcz50_14⟩, hfz50_0, hfz50_1, hfz50_2, hfz50_3, hfz50_4, hfz50_5, hfz50_6, hfz50_7, hfz50_8, hfz50_9, hfz50_10, hfz50_11, hfz50_12, hfz50_13, hfz50_14⟩ := cf15 BK544.out) | (go_at_call 20; (with_reducible refine (dhcp_Valid.calls k t527 t528 t529 t530 t531 t532 t533 t534 t535 t536 t537 t538 t539 t540 _ _ t541 true _ ?side1 ?side2 A23.out).mono ?_); (case side1 => repeat (first | exact (Kd.R_reads' HO543.out).2.2 | (with_reducible refine Kd.C_alloc ?_ _) | (with_reducible refine Kd.C_drewN ?_ _) | (with_reducible refine Kd.C_drew ?_))); (case side2 => exact (Kd.R_reads' HO543.out).2.1); rintro e w51 ⟨rfl, hb⟩; have n0_ := Aside0.mk (Kd.R_below (by (with_reducible repeat (first | apply Kd.R_alloc | apply Kd.R_drewN | apply Kd.R_drew)); exact HO526.out) hb); have n1_ := Aside0.mk (Kd.R_below (by (with_reducible repeat (first | apply Kd.R_alloc | apply Kd.R_drewN | apply Kd.R_drew)); exact HO543.out) hb); have n2_ := Aside0.mk (blk_below (bkx BK509.out) hb); have n3_ := Aside0.mk (blk_below (bkx BK544.out) hb); have n4_ := Aside0.mk (blk_below (bkx BK553.out) hb); have n5_ := Aside0.mk (below_step (hbx HB.out) hb); clear HO526; clear HO543; clear BK509; clear BK544; clear BK553; clear HB; have HO526 := n0_; have HO543 := n1_; have BK509 := n2_; have BK544 := n3_; have BK553 := n4_; have HB := n5_; clear n0_ n1_ n2_ n3_ n4_ n5_; (try clear hb); (try clear hb2); (try clear hk); (try clear hi)) | (go_at_call 18; (with_reducible refine (ddilaw36_awake.calls k  t560 _ A25.out).mono ?_); rintro e w52 ⟨rfl, hb⟩; have n0_ := Aside0.mk (Kd.R_below (by (with_reducible repeat (first | apply Kd.R_alloc | apply Kd.R_drewN | apply Kd.R_drew)); exact HO526.out) hb); have n1_ := Aside0.mk (Kd.R_below (by (with_reducible repeat (first | apply Kd.R_alloc | apply Kd.R_drewN | apply Kd.R_drew)); exact HO543.out) hb); have n2_ := Aside0.mk (blk_below (bkx BK509.out) hb); have n3_ := Aside0.mk (blk_below (bkx BK544.out) hb); have n4_ := Aside0.mk (blk_below (bkx BK553.out) hb); have n5_ := Aside0.mk (below_step (hbx HB.out) hb); clear HO526; clear HO543; clear BK509; clear BK544; clear BK553; clear HB; have HO526 := n0_; have HO543 := n1_; have BK509 := n2_; have BK544 := n3_; have BK553 := n4_; have HB := n5_; clear n0_ n1_ n2_ n3_ n4_ n5_; (try clear hb); (try clear hb2); (try clear hk); (try clear hi)))
              go_ret
              exact ⟨by first | rfl | (simp [errW_none, errW_some] <;> rfl) | (simp [*, errW_none, errW_some] <;> rfl), hbx HB.out⟩
             ·replace c24 := Bool.eq_false_iff.mpr c24
              subst c24
              rw [if_neg (show ¬ (false = true) by decide)] at H
              exact absurd H (by simp)
            ·replace c22 := Bool.eq_false_iff.mpr c22
             subst c22
             rw [if_neg (show ¬ (false = true) by decide)] at H
             exact absurd H (by simp)
        ·rw [if_neg c17] at H
         exact absurd H (by simp)
      ·rw [if_neg c15] at H
       exact absurd H (by simp)
     ·rw [if_neg c14] at H
      exact absurd H (by simp)
  ·rw [if_neg c11] at H
   exact absurd H (by simp)
 ·rw [if_neg c10] at H
  exact absurd H (by simp)

end Go.Proofs.YtcoekgnbncocnaaDoor.Pa


namespace Go.Proofs.YtcoekgnbncocnaaDoor.Pa
open Go.RowKit Go.Proofs.YtcoekgnbncocnaaDoorW.PrintWords Go.Proofs.YtcoekgnbncocnaaDoorW.PrintLast Go.Proofs.YtcoekgnbncocnaaDoorW.PrintMore
attribute [local go_sem] max2_int min2_int max_two min_two max_three min_three max_four min_four   -- for this text's walks alone
set_option linter.unusedVariables false
set_option linter.unusedSimpArgs false

attribute [local go_sem high] eqA24
def ddilaw36_DhcpAnswers_b.f (k : Nat) (a0_0 : Int) (a0_1 : Int) (a0_2 : Int) (a0_3 : ByteArray) (a0_4 : Bool) (a0_5 : Int) (a0_6 : Int) (a0_7 : Bool) (a0_8 : Int) (a0_9 : Int) (a0_10 : Bool) (a0_11 : Int) (a0_12 : Int) (a0_13 : Bool) (l0_14 : List (S61)) (a1 : Int) (a2 : Int) : Option (Bool) := (ddiref36_Short.f k a0_0 a0_1 a0_2 a0_3 a0_4 a0_5 a0_6 a0_7 a0_8 a0_9 a0_10 a0_11 a0_12 a0_13 l0_14).bind fun bt510 => ((dhcp_Reply.f k bt510.1 bt510.2.1 bt510.2.2.1 bt510.2.2.2.1 bt510.2.2.2.2.1 bt510.2.2.2.2.2.1 bt510.2.2.2.2.2.2.1 bt510.2.2.2.2.2.2.2.1 bt510.2.2.2.2.2.2.2.2.1 bt510.2.2.2.2.2.2.2.2.2.1 bt510.2.2.2.2.2.2.2.2.2.2.1 bt510.2.2.2.2.2.2.2.2.2.2.2.1 bt510.2.2.2.2.2.2.2.2.2.2.2.2.1 bt510.2.2.2.2.2.2.2.2.2.2.2.2.2.1 bt510.2.2.2.2.2.2.2.2.2.2.2.2.2.2 (wrap64 ((wrap64 (Int.tmod a1 8)) + 1)) (wrap64 (a2))).bind fun bt527 => ((option_Find.f k bt527.2.2.2.2.2.2.2.2.2.2.2.2.2.2 82).bind fun bt545 => ((option_Find.f k bt510.2.2.2.2.2.2.2.2.2.2.2.2.2.2 82).bind fun bt547 => ((dhcp_Wanted.f k bt527.1 bt527.2.1 bt527.2.2.1 bt527.2.2.2.1 bt527.2.2.2.2.1 bt527.2.2.2.2.2.1 bt527.2.2.2.2.2.2.1 bt527.2.2.2.2.2.2.2.1 bt527.2.2.2.2.2.2.2.2.1 bt527.2.2.2.2.2.2.2.2.2.1 bt527.2.2.2.2.2.2.2.2.2.2.1 bt527.2.2.2.2.2.2.2.2.2.2.2.1 bt527.2.2.2.2.2.2.2.2.2.2.2.2.1 bt527.2.2.2.2.2.2.2.2.2.2.2.2.2.1 bt527.2.2.2.2.2.2.2.2.2.2.2.2.2.2).bind fun bt549 => ((dhcp_Lease.f k bt527.1 bt527.2.1 bt527.2.2.1 bt527.2.2.2.1 bt527.2.2.2.2.1 bt527.2.2.2.2.2.1 bt527.2.2.2.2.2.2.1 bt527.2.2.2.2.2.2.2.1 bt527.2.2.2.2.2.2.2.2.1 bt527.2.2.2.2.2.2.2.2.2.1 bt527.2.2.2.2.2.2.2.2.2.2.1 bt527.2.2.2.2.2.2.2.2.2.2.2.1 bt527.2.2.2.2.2.2.2.2.2.2.2.2.1 bt527.2.2.2.2.2.2.2.2.2.2.2.2.2.1 bt527.2.2.2.2.2.2.2.2.2.2.2.2.2.2).bind fun bt554 => (if bt527.2.2.2.1.toList = bt510.2.2.2.1.toList then (if bt527.2.1 = bt510.2.1 then (if (!(bt527.2.2.2.2.2.2.2.2.2.2.1 == bt510.2.2.2.2.2.2.2.2.2.2.1) || (!(bt527.2.2.2.2.2.2.2.2.2.2.2.1 == bt510.2.2.2.2.2.2.2.2.2.2.2.1) || (!(bt527.2.2.2.2.2.2.2.2.2.2.2.2.1 == bt510.2.2.2.2.2.2.2.2.2.2.2.2.1)))) = true then (none) else (if (bt527.2.2.2.2.2.2.2.2.2.2.2.2.2.1 != bt510.2.2.2.2.2.2.2.2.2.2.2.2.2.1) = true then (none) else (if bt527.1 = (wrap64 ((wrap64 (Int.tmod a1 8)) + 1)) then (if bt527.2.2.1 = (wrap64 (a2)) then (if (bt545.2 != bt547.2) = true then (none) else (if bt545.1.toList = bt547.1.toList then (if (bt527.2.2.2.2.2.2.2.2.2.2.2.2.2.2.length : Int) > 1 then (none) else (if bt549.2.2.2 = true then (none) else (if bt554.2.2.2 = true then (none) else ((dhcp_Valid.f k bt510.1 bt510.2.1 bt510.2.2.1 bt510.2.2.2.1 bt510.2.2.2.2.1 bt510.2.2.2.2.2.1 bt510.2.2.2.2.2.2.1 bt510.2.2.2.2.2.2.2.1 bt510.2.2.2.2.2.2.2.2.1 bt510.2.2.2.2.2.2.2.2.2.1 bt510.2.2.2.2.2.2.2.2.2.2.1 bt510.2.2.2.2.2.2.2.2.2.2.2.1 bt510.2.2.2.2.2.2.2.2.2.2.2.2.1 bt510.2.2.2.2.2.2.2.2.2.2.2.2.2.1 bt510.2.2.2.2.2.2.2.2.2.2.2.2.2.2).bind fun t558 => (if t558 = true then (none) else ((ddilaw36_awake.f k).bind fun t561 => (some t561))))))) else (none))) else (none)) else (none)))) else (none)) else (none)))))))
set_option maxHeartbeats 8000000 in
set_option maxRecDepth 100000 in
theorem ddilaw36_DhcpAnswers_b.calls (k : Nat) (a0_0 : Int) (a0_1 : Int) (a0_2 : Int) (a0_3 : ByteArray) (a0_4 : Bool) (a0_5 : Int) (a0_6 : Int) (a0_7 : Bool) (a0_8 : Int) (a0_9 : Int) (a0_10 : Bool) (a0_11 : Int) (a0_12 : Int) (a0_13 : Bool) (A0_14 : Option Addr) (c0_14 : Nat) (l0_14 : List (S61)) (a1 : Int) (a2 : Int) (r : Bool) (w : World) (hr0_14 : Kd.C k61 w A0_14 l0_14.length l0_14) (hc0_14 : l0_14.length ≤ c0_14) (h : ddilaw36_DhcpAnswers_b.f k a0_0 a0_1 a0_2 a0_3 a0_4 a0_5 a0_6 a0_7 a0_8 a0_9 a0_10 a0_11 a0_12 a0_13 l0_14 a1 a2 = some r) :
  Calls Tryd.prog 4 #[.agg #[.int .i64 a0_0, .int .i64 a0_1, .int .i64 a0_2, .string a0_3, .bool a0_4, .int .u64 a0_5, .int .u64 a0_6, .bool a0_7, .int .u64 a0_8, .int .u64 a0_9, .bool a0_10, .int .u64 a0_11, .int .u64 a0_12, .bool a0_13, .slice A0_14 l0_14.length c0_14], .int .u8 a1, .int .u16 a2] w fun e w' => e = .returned (.bool r) ∧ Below w.heap.size w w' := by
 have hu27 := Tryd.underlying27
 have hu24 := Tryd.underlying24
 have HR0_14 := Aside0.mk hr0_14
 have HC0_14 := Aside0.mk hc0_14
 clear hr0_14 hc0_14
 have HB := Aside0.mk (Below.refl w.heap.size w)
 have H : ((ddiref36_Short.f k a0_0 a0_1 a0_2 a0_3 a0_4 a0_5 a0_6 a0_7 a0_8 a0_9 a0_10 a0_11 a0_12 a0_13 l0_14).bind fun bt510 => ((dhcp_Reply.f k bt510.1 bt510.2.1 bt510.2.2.1 bt510.2.2.2.1 bt510.2.2.2.2.1 bt510.2.2.2.2.2.1 bt510.2.2.2.2.2.2.1 bt510.2.2.2.2.2.2.2.1 bt510.2.2.2.2.2.2.2.2.1 bt510.2.2.2.2.2.2.2.2.2.1 bt510.2.2.2.2.2.2.2.2.2.2.1 bt510.2.2.2.2.2.2.2.2.2.2.2.1 bt510.2.2.2.2.2.2.2.2.2.2.2.2.1 bt510.2.2.2.2.2.2.2.2.2.2.2.2.2.1 bt510.2.2.2.2.2.2.2.2.2.2.2.2.2.2 (wrap64 ((wrap64 (Int.tmod a1 8)) + 1)) (wrap64 (a2))).bind fun bt527 => ((option_Find.f k bt527.2.2.2.2.2.2.2.2.2.2.2.2.2.2 82).bind fun bt545 => ((option_Find.f k bt510.2.2.2.2.2.2.2.2.2.2.2.2.2.2 82).bind fun bt547 => ((dhcp_Wanted.f k bt527.1 bt527.2.1 bt527.2.2.1 bt527.2.2.2.1 bt527.2.2.2.2.1 bt527.2.2.2.2.2.1 bt527.2.2.2.2.2.2.1 bt527.2.2.2.2.2.2.2.1 bt527.2.2.2.2.2.2.2.2.1 bt527.2.2.2.2.2.2.2.2.2.1 bt527.2.2.2.2.2.2.2.2.2.2.1 bt527.2.2.2.2.2.2.2.2.2.2.2.1 bt527.2.2.2.2.2.2.2.2.2.2.2.2.1 bt527.2.2.2.2.2.2.2.2.2.2.2.2.2.1 bt527.2.2.2.2.2.2.2.2.2.2.2.2.2.2).bind fun bt549 => ((dhcp_Lease.f k bt527.1 bt527.2.1 bt527.2.2.1 bt527.2.2.2.1 bt527.2.2.2.2.1 bt527.2.2.2.2.2.1 bt527.2.2.2.2.2.2.1 bt527.2.2.2.2.2.2.2.1 bt527.2.2.2.2.2.2.2.2.1 bt527.2.2.2.2.2.2.2.2.2.1 bt527.2.2.2.2.2.2.2.2.2.2.1 bt527.2.2.2.2.2.2.2.2.2.2.2.1 bt527.2.2.2.2.2.2.2.2.2.2.2.2.1 bt527.2.2.2.2.2.2.2.2.2.2.2.2.2.1 bt527.2.2.2.2.2.2.2.2.2.2.2.2.2.2).bind fun bt554 => (if bt527.2.2.2.1.toList = bt510.2.2.2.1.toList then (if bt527.2.1 = bt510.2.1 then (if (!(bt527.2.2.2.2.2.2.2.2.2.2.1 == bt510.2.2.2.2.2.2.2.2.2.2.1) || (!(bt527.2.2.2.2.2.2.2.2.2.2.2.1 == bt510.2.2.2.2.2.2.2.2.2.2.2.1) || (!(bt527.2.2.2.2.2.2.2.2.2.2.2.2.1 == bt510.2.2.2.2.2.2.2.2.2.2.2.2.1)))) = true then (none) else (if (bt527.2.2.2.2.2.2.2.2.2.2.2.2.2.1 != bt510.2.2.2.2.2.2.2.2.2.2.2.2.2.1) = true then (none) else (if bt527.1 = (wrap64 ((wrap64 (Int.tmod a1 8)) + 1)) then (if bt527.2.2.1 = (wrap64 (a2)) then (if (bt545.2 != bt547.2) = true then (none) else (if bt545.1.toList = bt547.1.toList then (if (bt527.2.2.2.2.2.2.2.2.2.2.2.2.2.2.length : Int) > 1 then (none) else (if bt549.2.2.2 = true then (none) else (if bt554.2.2.2 = true then (none) else ((dhcp_Valid.f k bt510.1 bt510.2.1 bt510.2.2.1 bt510.2.2.2.1 bt510.2.2.2.2.1 bt510.2.2.2.2.2.1 bt510.2.2.2.2.2.2.1 bt510.2.2.2.2.2.2.2.1 bt510.2.2.2.2.2.2.2.2.1 bt510.2.2.2.2.2.2.2.2.2.1 bt510.2.2.2.2.2.2.2.2.2.2.1 bt510.2.2.2.2.2.2.2.2.2.2.2.1 bt510.2.2.2.2.2.2.2.2.2.2.2.2.1 bt510.2.2.2.2.2.2.2.2.2.2.2.2.2.1 bt510.2.2.2.2.2.2.2.2.2.2.2.2.2.2).bind fun t558 => (if t558 = true then (none) else ((ddilaw36_awake.f k).bind fun t561 => (some t561))))))) else (none))) else (none)) else (none)))) else (none)) else (none)))))))) = some r := h
 clear h
 replace H := Option.bind_eq_some_iff.mp H
 obtain ⟨⟨t510, t511, t512, t513, t514, t515, t516, t517, t518, t519, t520, t521, t522, t523, t524⟩, A40, H⟩ := H
 (try dsimp only at H)
 have A4 := Aside0.mk A40
 clear A40
 replace H := Option.bind_eq_some_iff.mp H
 obtain ⟨⟨t527, t528, t529, t530, t531, t532, t533, t534, t535, t536, t537, t538, t539, t540, t541⟩, A50, H⟩ := H
 (try dsimp only at H)
 have A5 := Aside0.mk A50
 clear A50
 replace H := Option.bind_eq_some_iff.mp H
 obtain ⟨⟨t545, t546⟩, A60, H⟩ := H
 (try dsimp only at H)
 have A6 := Aside0.mk A60
 clear A60
 replace H := Option.bind_eq_some_iff.mp H
 obtain ⟨⟨t547, t548⟩, A70, H⟩ := H
 (try dsimp only at H)
 have A7 := Aside0.mk A70
 clear A70
 replace H := Option.bind_eq_some_iff.mp H
 obtain ⟨⟨t549, t550, t551, t552⟩, A80, H⟩ := H
 (try dsimp only at H)
 have A8 := Aside0.mk A80
 clear A80
 replace H := Option.bind_eq_some_iff.mp H
 obtain ⟨⟨t554, t555, t556, t557⟩, A90, H⟩ := H
 (try dsimp only at H)
 have A9 := Aside0.mk A90
 clear A90
 by_cases c10 : t530.toList = t513.toList
 ·rw [if_pos c10] at H
  have c10b0 : (t530.toList == t513.toList) = true := beq_iff_eq.mpr c10
  have c10b1 : (t530.toList != t513.toList) = false := bne_eq_false_iff_eq.mpr c10
  clear c10
  by_cases c11 : t528 = t511
  ·rw [if_pos c11] at H
   have c11b0 : (t528 == t511) = true := beq_iff_eq.mpr c11
   have c11b1 : (t528 != t511) = false := bne_eq_false_iff_eq.mpr c11
   clear c11
   by_cases c12 : (!(t537 == t520) || (!(t538 == t521) || (!(t539 == t522)))) = true
   ·rw [if_pos c12] at H
    exact absurd H (by simp)
   ·rw [if_neg c12] at H
    have c12b0 : (!(t537 == t520) || (!(t538 == t521) || (!(t539 == t522)))) = false := by simpa using c12
    clear c12
    by_cases c13 : (t540 != t523) = true
    ·rw [if_pos c13] at H
     exact absurd H (by simp)
    ·rw [if_neg c13] at H
     have c13b0 : (t540 != t523) = false := by simpa using c13
     (try (have c13b1 : decide (t540 = t523) = true := by simpa using c13))
     (try (have c13b2 : (t540 == t523) = true := by simpa using c13))
     clear c13
     by_cases c14 : t527 = (wrap64 ((wrap64 (Int.tmod a1 8)) + 1))
     ·rw [if_pos c14] at H
      have c14b0 : (t527 == (wrap64 ((wrap64 (Int.tmod a1 8)) + 1))) = true := beq_iff_eq.mpr c14
      have c14b1 : (t527 != (wrap64 ((wrap64 (Int.tmod a1 8)) + 1))) = false := bne_eq_false_iff_eq.mpr c14
      clear c14
      by_cases c15 : t529 = (wrap64 (a2))
      ·rw [if_pos c15] at H
       have c15b0 : (t529 == (wrap64 (a2))) = true := beq_iff_eq.mpr c15
       have c15b1 : (t529 != (wrap64 (a2))) = false := bne_eq_false_iff_eq.mpr c15
       clear c15
       by_cases c16 : (t546 != t548) = true
       ·rw [if_pos c16] at H
        exact absurd H (by simp)
       ·rw [if_neg c16] at H
        have c16b0 : (t546 != t548) = false := by simpa using c16
        (try (have c16b1 : decide (t546 = t548) = true := by simpa using c16))
        (try (have c16b2 : (t546 == t548) = true := by simpa using c16))
        clear c16
        by_cases c17 : t545.toList = t547.toList
        ·rw [if_pos c17] at H
         have c17b0 : (t545.toList == t547.toList) = true := beq_iff_eq.mpr c17
         have c17b1 : (t545.toList != t547.toList) = false := bne_eq_false_iff_eq.mpr c17
         clear c17
         by_cases c18 : (t541.length : Int) > 1
         ·rw [if_pos c18] at H
          exact absurd H (by simp)
         ·rw [if_neg c18] at H
          have c18b0 : decide (1 < (t541.length : Int)) = false := decide_eq_false c18
          have c18b1 : decide (1 < t541.length) = false := decide_eq_false (by omega)
          clear c18
          by_cases c19 : t552 = true
          ·subst c19
           rw [if_pos rfl] at H
           exact absurd H (by simp)
          ·replace c19 := Bool.eq_false_iff.mpr c19
           subst c19
           rw [if_neg (show ¬ (false = true) by decide)] at H
           by_cases c20 : t557 = true
           ·subst c20
            rw [if_pos rfl] at H
            exact absurd H (by simp)
           ·replace c20 := Bool.eq_false_iff.mpr c20
            subst c20
            rw [if_neg (show ¬ (false = true) by decide)] at H
            replace H := Option.bind_eq_some_iff.mp H
            obtain ⟨t558, A210, H⟩ := H
            (try dsimp only at H)
            have A21 := Aside0.mk A210
            clear A210
            by_cases c22 : t558 = true
            ·subst c22
             rw [if_pos rfl] at H
             exact absurd H (by simp)
            ·replace c22 := Bool.eq_false_iff.mpr c22
             subst c22
             rw [if_neg (show ¬ (false = true) by decide)] at H
             replace H := Option.bind_eq_some_iff.mp H
             obtain ⟨t561, A530, H⟩ := H
             replace H : (some t561) = some r := H
             have A53 := Aside0.mk A530
             clear A530
             obtain rfl := Option.some.inj H
             go_enter Tryd.func4, Tryd.ntmps4
             go_wp2_with (first | ((with_reducible refine gate_dst (N := 3) rfl ?_); (try (refine gate_guard (by rfl) ?_; dsimp only)); refine box_event ?hg (N := 3) ?hd (cs := #[.int .i64 a0_0, .int .i64 a0_1, .int .i64 a0_2, .string a0_3, .bool a0_4, .int .u64 a0_5, .int .u64 a0_6, .bool a0_7, .int .u64 a0_8, .int .u64 a0_9, .bool a0_10, .int .u64 a0_11, .int .u64 a0_12, .bool a0_13, .slice A0_14 l0_14.length c0_14]) (t := 27) ?hr ?_; (case hd => rfl); (case hg => rfl); (case hr => first | (go_simp; done) | (go_simp; rfl)); intro gb509 hg w54 hbox hb; have n0_ := Aside0.mk (below_step (hbx HB.out) hb); have n1_ := Aside0.mk (hbox); have n2_ := Aside0.mk ((by rw [hg]; exact (below_size (hbx HB.out)) : w.heap.size ≤ gb509)); have n3_ := Aside0.mk ((by rw [hg]; exact (below_size (hbx HB.out)) : w.heap.size ≤ gb509)); clear HB; have HB := n0_; have BK509 := n1_; have GW509 := n2_; have GE509 := n3_; clear n0_ n1_ n2_ n3_; clear hb hbox hg; obtain ⟨⟨hcz55_0, hcz55_1, hcz55_2, hcz55_3, hcz55_4, hcz55_5, hcz55_6, hcz55_7, hcz55_8, hcz55_9, hcz55_10, hcz55_11, hcz55_12, hcz55_13, hcz55_14⟩, hfz55_0, hfz55_1, hfz55_2, hfz55_3, hfz55_4, hfz55_5, hfz55_6, hfz55_7, hfz55_8, hfz55_9, hfz55_10, hfz55_11, hfz55_12, hfz55_13, hfz55_14⟩ := cf15 BK509.out) | ((with_reducible refine gate_callee (f := 10) rfl ?_); refine goesL_ (some 20) rfl rfl Tryd.func10 (by kernel_rfl) rfl #[.agg #[.int .i64 a0_0, .int .i64 a0_1, .int .i64 a0_2, .string a0_3, .bool a0_4, .int .u64 a0_5, .int .u64 a0_6, .bool a0_7, .int .u64 a0_8, .int .u64 a0_9, .bool a0_10, .int .u64 a0_11, .int .u64 a0_12, .bool a0_13, .slice A0_14 l0_14.length c0_14]] rfl (by (try simp only [List.map_toArray, List.map_cons, List.map_nil]); first | done | rfl | (simp only [List.length_drop, List.length_take]; rfl)) ?_; (with_reducible refine (ddiref36_Short.calls k a0_0 a0_1 a0_2 a0_3 a0_4 a0_5 a0_6 a0_7 a0_8 a0_9 a0_10 a0_11 a0_12 a0_13 _ _ l0_14 t510 t511 t512 t513 t514 t515 t516 t517 t518 t519 t520 t521 t522 t523 t524 _ ?side1 ?side2 A4.out).mono ?_); (case side1 => repeat (first | exact (Kd.C_below HR0_14.out HB.out) | (with_reducible refine Kd.C_alloc ?_ _) | (with_reducible refine Kd.C_drewN ?_ _) | (with_reducible refine Kd.C_drew ?_))); (case side2 => exact HC0_14.out); rintro e w56 ⟨v525, rfl, ho0, hb⟩; refine ⟨_, rfl, ?_⟩; have n0_ := Aside0.mk (Kd.R_lower ho0 (below_size (hbx HB.out))); have n1_ := Aside0.mk (blk_below (bkx BK509.out) hb); have n2_ := Aside0.mk (below_step (hbx HB.out) hb); clear BK509; clear HB; have HO526 := n0_; have BK509 := n1_; have HB := n2_; clear n0_ n1_ n2_; (try clear hb); (try clear hb2); (try clear hk); (try clear hi); (try clear ho0); obtain ⟨⟨hcz57_0, hcz57_1, hcz57_2, hcz57_3, hcz57_4, hcz57_5, hcz57_6, hcz57_7, hcz57_8, hcz57_9, hcz57_10, hcz57_11, hcz57_12, hcz57_13, hcz57_14⟩, hfz57_0, hfz57_1, hfz57_2, hfz57_3, hfz57_4, hfz57_5, hfz57_6, hfz57_7, hfz57_8, hfz57_9, hfz57_10, hfz57_11, hfz57_12, hfz57_13, hfz57_14⟩ := cf15 BK509.out; obtain ⟨Ao58, co58, eo58⟩ := Kd.R_slice HO526.out; subst eo58) | ((with_reducible refine gate_callee (f := 16) rfl ?_); refine goesL_ (some 29) rfl rfl Tryd.func16 (by kernel_rfl) rfl #[.agg #[.int .i64 t510, .int .i64 t511, .int .i64 t512, .string t513, .bool t514, .int .u64 t515, .int .u64 t516, .bool t517, .int .u64 t518, .int .u64 t519, .bool t520, .int .u64 t521, .int .u64 t522, .bool t523, .slice Ao58 t524.length co58], .int .i64 (wrap64 ((wrap64 (Int.tmod a1 8)) + 1)), .int .i64 (wrap64 (a2))] rfl (by (try simp only [List.map_toArray, List.map_cons, List.map_nil]); first | done | rfl | (simp only [List.length_drop, List.length_take]; rfl)) ?_; (with_reducible refine (dhcp_Reply.calls k t510 t511 t512 t513 t514 t515 t516 t517 t518 t519 t520 t521 t522 t523 _ _ t524 (wrap64 ((wrap64 (Int.tmod a1 8)) + 1)) (wrap64 (a2)) t527 t528 t529 t530 t531 t532 t533 t534 t535 t536 t537 t538 t539 t540 t541 _ ?side1 ?side2 A5.out).mono ?_); (case side1 => refine (Kd.R_reads' (e := 61) (base := w.heap.size) (ok := fun k_ => True) (n := t524.length) (c := co58) ?_).2.2; exact (by (with_reducible repeat (first | apply Kd.R_alloc | apply Kd.R_drewN | apply Kd.R_drew)); exact (Kd.R_mono (Kd.R_far (p := ⟨gb509, 14, none⟩) (Kd.R_far (p := ⟨gb509, 13, none⟩) (Kd.R_far (p := ⟨gb509, 12, none⟩) (Kd.R_far (p := ⟨gb509, 11, none⟩) (Kd.R_far (p := ⟨gb509, 10, none⟩) (Kd.R_far (p := ⟨gb509, 9, none⟩) (Kd.R_far (p := ⟨gb509, 8, none⟩) (Kd.R_far (p := ⟨gb509, 7, none⟩) (Kd.R_far (p := ⟨gb509, 6, none⟩) (Kd.R_far (p := ⟨gb509, 5, none⟩) (Kd.R_far (p := ⟨gb509, 4, none⟩) (Kd.R_far (p := ⟨gb509, 3, none⟩) (Kd.R_far (p := ⟨gb509, 2, none⟩) (Kd.R_far (p := ⟨gb509, 1, none⟩) (Kd.R_far (p := ⟨gb509, 0, none⟩) (Kd.R_types HO526.out BK509.out (by decide)) (fun _ hk => hk.2) (.int .i64 t510)) (fun _ hk => hk.2) (.int .i64 t511)) (fun _ hk => hk.2) (.int .i64 t512)) (fun _ hk => hk.2) (.string t513)) (fun _ hk => hk.2) (.bool t514)) (fun _ hk => hk.2) (.int .u64 t515)) (fun _ hk => hk.2) (.int .u64 t516)) (fun _ hk => hk.2) (.bool t517)) (fun _ hk => hk.2) (.int .u64 t518)) (fun _ hk => hk.2) (.int .u64 t519)) (fun _ hk => hk.2) (.bool t520)) (fun _ hk => hk.2) (.int .u64 t521)) (fun _ hk => hk.2) (.int .u64 t522)) (fun _ hk => hk.2) (.bool t523)) (fun _ hk => hk.2) (.slice Ao58 t524.length co58)) (fun _ h_ => h_.1)))); (case side2 => exact (Kd.R_reads' HO526.out).2.1); rintro e w59 ⟨v542, rfl, ho0, hb⟩; refine ⟨_, rfl, ?_⟩; have n0_ := Aside0.mk (Kd.R_elder' (by (with_reducible repeat (first | apply Kd.R_alloc | apply Kd.R_drewN | apply Kd.R_drew)); exact (Kd.R_mono (Kd.R_far (p := ⟨gb509, 14, none⟩) (Kd.R_far (p := ⟨gb509, 13, none⟩) (Kd.R_far (p := ⟨gb509, 12, none⟩) (Kd.R_far (p := ⟨gb509, 11, none⟩) (Kd.R_far (p := ⟨gb509, 10, none⟩) (Kd.R_far (p := ⟨gb509, 9, none⟩) (Kd.R_far (p := ⟨gb509, 8, none⟩) (Kd.R_far (p := ⟨gb509, 7, none⟩) (Kd.R_far (p := ⟨gb509, 6, none⟩) (Kd.R_far (p := ⟨gb509, 5, none⟩) (Kd.R_far (p := ⟨gb509, 4, none⟩) (Kd.R_far (p := ⟨gb509, 3, none⟩) (Kd.R_far (p := ⟨gb509, 2, none⟩) (Kd.R_far (p := ⟨gb509, 1, none⟩) (Kd.R_far (p := ⟨gb509, 0, none⟩) (Kd.R_types HO526.out BK509.out (by decide)) (fun _ hk => hk.2) (.int .i64 t510)) (fun _ hk => hk.2) (.int .i64 t511)) (fun _ hk => hk.2) (.int .i64 t512)) (fun _ hk => hk.2) (.string t513)) (fun _ hk => hk.2) (.bool t514)) (fun _ hk => hk.2) (.int .u64 t515)) (fun _ hk => hk.2) (.int .u64 t516)) (fun _ hk => hk.2) (.bool t517)) (fun _ hk => hk.2) (.int .u64 t518)) (fun _ hk => hk.2) (.int .u64 t519)) (fun _ hk => hk.2) (.bool t520)) (fun _ hk => hk.2) (.int .u64 t521)) (fun _ hk => hk.2) (.int .u64 t522)) (fun _ hk => hk.2) (.bool t523)) (fun _ hk => hk.2) (.slice Ao58 t524.length co58)) (fun _ h_ => h_.1))) (Kd.R_base ho0) hb); have n1_ := Aside0.mk (Kd.R_lower (Kd.R_new' ho0 (Kd.R_lt (by (with_reducible repeat (first | apply Kd.R_alloc | apply Kd.R_drewN | apply Kd.R_drew)); exact (Kd.R_mono (Kd.R_far (p := ⟨gb509, 14, none⟩) (Kd.R_far (p := ⟨gb509, 13, none⟩) (Kd.R_far (p := ⟨gb509, 12, none⟩) (Kd.R_far (p := ⟨gb509, 11, none⟩) (Kd.R_far (p := ⟨gb509, 10, none⟩) (Kd.R_far (p := ⟨gb509, 9, none⟩) (Kd.R_far (p := ⟨gb509, 8, none⟩) (Kd.R_far (p := ⟨gb509, 7, none⟩) (Kd.R_far (p := ⟨gb509, 6, none⟩) (Kd.R_far (p := ⟨gb509, 5, none⟩) (Kd.R_far (p := ⟨gb509, 4, none⟩) (Kd.R_far (p := ⟨gb509, 3, none⟩) (Kd.R_far (p := ⟨gb509, 2, none⟩) (Kd.R_far (p := ⟨gb509, 1, none⟩) (Kd.R_far (p := ⟨gb509, 0, none⟩) (Kd.R_types HO526.out BK509.out (by decide)) (fun _ hk => hk.2) (.int .i64 t510)) (fun _ hk => hk.2) (.int .i64 t511)) (fun _ hk => hk.2) (.int .i64 t512)) (fun _ hk => hk.2) (.string t513)) (fun _ hk => hk.2) (.bool t514)) (fun _ hk => hk.2) (.int .u64 t515)) (fun _ hk => hk.2) (.int .u64 t516)) (fun _ hk => hk.2) (.bool t517)) (fun _ hk => hk.2) (.int .u64 t518)) (fun _ hk => hk.2) (.int .u64 t519)) (fun _ hk => hk.2) (.bool t520)) (fun _ hk => hk.2) (.int .u64 t521)) (fun _ hk => hk.2) (.int .u64 t522)) (fun _ hk => hk.2) (.bool t523)) (fun _ hk => hk.2) (.slice Ao58 t524.length co58)) (fun _ h_ => h_.1))))) (below_size (hbx HB.out))); have n2_ := Aside0.mk (blk_below (g := gb509) (o := .cells #[.int .i64 t510, .int .i64 t511, .int .i64 t512, .string t513, .bool t514, .int .u64 t515, .int .u64 t516, .bool t517, .int .u64 t518, .int .u64 t519, .bool t520, .int .u64 t521, .int .u64 t522, .bool t523, .slice Ao58 t524.length co58] 27 (0, 0)) (by (with_reducible repeat (first | refine blk_drewN ?_ _ | refine blk_drew ?_ | refine blk_alloc ?_ _)); refine blk_put (cs := #[.int .i64 t510, .int .i64 t511, .int .i64 t512, .string t513, .bool t514, .int .u64 t515, .int .u64 t516, .bool t517, .int .u64 t518, .int .u64 t519, .bool t520, .int .u64 t521, .int .u64 t522, .bool t523, .slice A0_14 l0_14.length c0_14]) ?_ 14 _ rfl; (with_reducible repeat (first | refine blk_drewN ?_ _ | refine blk_drew ?_ | refine blk_alloc ?_ _)); refine blk_put (cs := #[.int .i64 t510, .int .i64 t511, .int .i64 t512, .string t513, .bool t514, .int .u64 t515, .int .u64 t516, .bool t517, .int .u64 t518, .int .u64 t519, .bool t520, .int .u64 t521, .int .u64 t522, .bool a0_13, .slice A0_14 l0_14.length c0_14]) ?_ 13 _ rfl; (with_reducible repeat (first | refine blk_drewN ?_ _ | refine blk_drew ?_ | refine blk_alloc ?_ _)); refine blk_put (cs := #[.int .i64 t510, .int .i64 t511, .int .i64 t512, .string t513, .bool t514, .int .u64 t515, .int .u64 t516, .bool t517, .int .u64 t518, .int .u64 t519, .bool t520, .int .u64 t521, .int .u64 a0_12, .bool a0_13, .slice A0_14 l0_14.length c0_14]) ?_ 12 _ rfl; (with_reducible repeat (first | refine blk_drewN ?_ _ | refine blk_drew ?_ | refine blk_alloc ?_ _)); refine blk_put (cs := #[.int .i64 t510, .int .i64 t511, .int .i64 t512, .string t513, .bool t514, .int .u64 t515, .int .u64 t516, .bool t517, .int .u64 t518, .int .u64 t519, .bool t520, .int .u64 a0_11, .int .u64 a0_12, .bool a0_13, .slice A0_14 l0_14.length c0_14]) ?_ 11 _ rfl; (with_reducible repeat (first | refine blk_drewN ?_ _ | refine blk_drew ?_ | refine blk_alloc ?_ _)); refine blk_put (cs := #[.int .i64 t510, .int .i64 t511, .int .i64 t512, .string t513, .bool t514, .int .u64 t515, .int .u64 t516, .bool t517, .int .u64 t518, .int .u64 t519, .bool a0_10, .int .u64 a0_11, .int .u64 a0_12, .bool a0_13, .slice A0_14 l0_14.length c0_14]) ?_ 10 _ rfl; (with_reducible repeat (first | refine blk_drewN ?_ _ | refine blk_drew ?_ | refine blk_alloc ?_ _)); refine blk_put (cs := #[.int .i64 t510, .int .i64 t511, .int .i64 t512, .string t513, .bool t514, .int .u64 t515, .int .u64 t516, .bool t517, .int .u64 t518, .int .u64 a0_9, .bool a0_10, .int .u64 a0_11, .int .u64 a0_12, .bool a0_13, .slice A0_14 l0_14.length c0_14]) ?_ 9 _ rfl; (with_reducible repeat (first | refine blk_drewN ?_ _ | refine blk_drew ?_ | refine blk_alloc ?_ _)); refine blk_put (cs := #[.int .i64 t510, .int .i64 t511, .int .i64 t512, .string t513, .bool t514, .int .u64 t515, .int .u64 t516, .bool t517, .int .u64 a0_8, .int .u64 a0_9, .bool a0_10, .int .u64 a0_11, .int .u64 a0_12, .bool a0_13, .slice A0_14 l0_14.length c0_14]) ?_ 8 _ rfl; (with_reducible repeat (first | refine blk_drewN ?_ _ | refine blk_drew ?_ | refine blk_alloc ?_ _)); refine blk_put (cs := #[.int .i64 t510, .int .i64 t511, .int .i64 t512, .string t513, .bool t514, .int .u64 t515, .int .u64 t516, .bool a0_7, .int .u64 a0_8, .int .u64 a0_9, .bool a0_10, .int .u64 a0_11, .int .u64 a0_12, .bool a0_13, .slice A0_14 l0_14.length c0_14]) ?_ 7 _ rfl; (with_reducible repeat (first | refine blk_drewN ?_ _ | refine blk_drew ?_ | refine blk_alloc ?_ _)); refine blk_put (cs := #[.int .i64 t510, .int .i64 t511, .int .i64 t512, .string t513, .bool t514, .int .u64 t515, .int .u64 a0_6, .bool a0_7, .int .u64 a0_8, .int .u64 a0_9, .bool a0_10, .int .u64 a0_11, .int .u64 a0_12, .bool a0_13, .slice A0_14 l0_14.length c0_14]) ?_ 6 _ rfl; (with_reducible repeat (first | refine blk_drewN ?_ _ | refine blk_drew ?_ | refine blk_alloc ?_ _)); refine blk_put (cs := #[.int .i64 t510, .int .i64 t511, .int .i64 t512, .string t513, .bool t514, .int .u64 a0_5, .int .u64 a0_6, .bool a0_7, .int .u64 a0_8, .int .u64 a0_9, .bool a0_10, .int .u64 a0_11, .int .u64 a0_12, .bool a0_13, .slice A0_14 l0_14.length c0_14]) ?_ 5 _ rfl; (with_reducible repeat (first | refine blk_drewN ?_ _ | refine blk_drew ?_ | refine blk_alloc ?_ _)); refine blk_put (cs := #[.int .i64 t510, .int .i64 t511, .int .i64 t512, .string t513, .bool a0_4, .int .u64 a0_5, .int .u64 a0_6, .bool a0_7, .int .u64 a0_8, .int .u64 a0_9, .bool a0_10, .int .u64 a0_11, .int .u64 a0_12, .bool a0_13, .slice A0_14 l0_14.length c0_14]) ?_ 4 _ rfl; (with_reducible repeat (first | refine blk_drewN ?_ _ | refine blk_drew ?_ | refine blk_alloc ?_ _)); refine blk_put (cs := #[.int .i64 t510, .int .i64 t511, .int .i64 t512, .string a0_3, .bool a0_4, .int .u64 a0_5, .int .u64 a0_6, .bool a0_7, .int .u64 a0_8, .int .u64 a0_9, .bool a0_10, .int .u64 a0_11, .int .u64 a0_12, .bool a0_13, .slice A0_14 l0_14.length c0_14]) ?_ 3 _ rfl; (with_reducible repeat (first | refine blk_drewN ?_ _ | refine blk_drew ?_ | refine blk_alloc ?_ _)); refine blk_put (cs := #[.int .i64 t510, .int .i64 t511, .int .i64 a0_2, .string a0_3, .bool a0_4, .int .u64 a0_5, .int .u64 a0_6, .bool a0_7, .int .u64 a0_8, .int .u64 a0_9, .bool a0_10, .int .u64 a0_11, .int .u64 a0_12, .bool a0_13, .slice A0_14 l0_14.length c0_14]) ?_ 2 _ rfl; (with_reducible repeat (first | refine blk_drewN ?_ _ | refine blk_drew ?_ | refine blk_alloc ?_ _)); refine blk_put (cs := #[.int .i64 t510, .int .i64 a0_1, .int .i64 a0_2, .string a0_3, .bool a0_4, .int .u64 a0_5, .int .u64 a0_6, .bool a0_7, .int .u64 a0_8, .int .u64 a0_9, .bool a0_10, .int .u64 a0_11, .int .u64 a0_12, .bool a0_13, .slice A0_14 l0_14.length c0_14]) ?_ 1 _ rfl; (with_reducible repeat (first | refine blk_drewN ?_ _ | refine blk_drew ?_ | refine blk_alloc ?_ _)); refine blk_put (cs := #[.int .i64 a0_0, .int .i64 a0_1, .int .i64 a0_2, .string a0_3, .bool a0_4, .int .u64 a0_5, .int .u64 a0_6, .bool a0_7, .int .u64 a0_8, .int .u64 a0_9, .bool a0_10, .int .u64 a0_11, .int .u64 a0_12, .bool a0_13, .slice A0_14 l0_14.length c0_14]) ?_ 0 _ rfl; (with_reducible repeat (first | refine blk_drewN ?_ _ | refine blk_drew ?_ | refine blk_alloc ?_ _)); exact BK509.out) hb); have n3_ := Aside0.mk (below_step (hbx HB.out) hb); clear HO526; clear BK509; clear HB; have HO526 := n0_; have HO543 := n1_; have BK509 := n2_; have HB := n3_; clear n0_ n1_ n2_ n3_; (try clear hb); (try clear hb2); (try clear hk); (try clear hi); (try clear ho0)) | ((with_reducible refine gate_dst (N := 8) rfl ?_); (try (refine gate_guard (by rfl) ?_; dsimp only)); refine box_event ?hg (N := 8) ?hd (cs := #[.int .i64 0, .int .i64 0, .int .i64 0, .string (⟨#[]⟩ : ByteArray), .bool false, .int .u64 0, .int .u64 0, .bool false, .int .u64 0, .int .u64 0, .bool false, .int .u64 0, .int .u64 0, .bool false, .slice none 0 0]) (t := 27) ?hr ?_; (case hd => rfl); (case hg => rfl); (case hr => first | (go_simp; done) | (go_simp; rfl)); intro gb544 hg w60 hbox hb; have n0_ := Aside0.mk (Kd.R_below (by (with_reducible repeat (first | apply Kd.R_alloc | apply Kd.R_drewN | apply Kd.R_drew)); exact HO526.out) hb); have n1_ := Aside0.mk (Kd.R_below (by (with_reducible repeat (first | apply Kd.R_alloc | apply Kd.R_drewN | apply Kd.R_drew)); exact HO543.out) hb); have n2_ := Aside0.mk (blk_below (bkx BK509.out) hb); have n3_ := Aside0.mk (below_step (hbx HB.out) hb); have n4_ := Aside0.mk (hbox); have n5_ := Aside0.mk ((by rw [hg]; exact (below_size (hbx HB.out)) : w.heap.size ≤ gb544)); have n6_ := Aside0.mk ((by rw [hg]; exact (below_size (hbx HB.out)) : w.heap.size ≤ gb544)); have n7_ := Aside0.mk ((by rw [hg]; exact Nat.ne_of_lt (blk_lt (bkx BK509.out)) : gb509 ≠ gb544)); have n8_ := Aside0.mk ((by rw [hg]; exact Nat.ne_of_gt (blk_lt (bkx BK509.out)) : gb544 ≠ gb509)); clear HO526; clear HO543; clear BK509; clear HB; have HO526 := n0_; have HO543 := n1_; have BK509 := n2_; have HB := n3_; have BK544 := n4_; have GW544 := n5_; have GE544 := n6_; have NB509_544 := n7_; have NB544_509 := n8_; clear n0_ n1_ n2_ n3_ n4_ n5_ n6_ n7_ n8_; clear hb hbox hg; have hnb61 := NB544_509.out; have hnc61 := NB509_544.out; obtain ⟨⟨hcz62_0, hcz62_1, hcz62_2, hcz62_3, hcz62_4, hcz62_5, hcz62_6, hcz62_7, hcz62_8, hcz62_9, hcz62_10, hcz62_11, hcz62_12, hcz62_13, hcz62_14⟩, hfz62_0, hfz62_1, hfz62_2, hfz62_3, hfz62_4, hfz62_5, hfz62_6, hfz62_7, hfz62_8, hfz62_9, hfz62_10, hfz62_11, hfz62_12, hfz62_13, hfz62_14⟩ := cf15 BK544.out; obtain ⟨Ao63, co63, eo63⟩ := Kd.R_slice HO543.out; subst eo63) | ((with_reducible refine gate_callee (f := 19) rfl ?_); refine goesL_ (some 33) rfl rfl Tryd.func19 (by kernel_rfl) rfl #[.slice Ao63 t541.length co63, .int .i64 82] rfl (by (try simp only [List.map_toArray, List.map_cons, List.map_nil]); first | done | rfl | (simp only [List.length_drop, List.length_take]; rfl)) ?_; (with_reducible refine (option_Find.calls k _ _ t541 82 t545 t546 _ ?side1 ?side2 A6.out).mono ?_); (case side1 => refine (Kd.R_reads' (e := 61) (base := w.heap.size) (ok := fun k_ => (True ∧ some k_ ≠ (.slice Ao58 t524.length co58 : Value).ownBlock)) (n := t541.length) (c := co63) ?_).2.2; exact (by (with_reducible repeat (first | apply Kd.R_alloc | apply Kd.R_drewN | apply Kd.R_drew)); exact (Kd.R_mono (Kd.R_far (p := ⟨gb544, 14, none⟩) (Kd.R_far (p := ⟨gb544, 13, none⟩) (Kd.R_far (p := ⟨gb544, 12, none⟩) (Kd.R_far (p := ⟨gb544, 11, none⟩) (Kd.R_far (p := ⟨gb544, 10, none⟩) (Kd.R_far (p := ⟨gb544, 9, none⟩) (Kd.R_far (p := ⟨gb544, 8, none⟩) (Kd.R_far (p := ⟨gb544, 7, none⟩) (Kd.R_far (p := ⟨gb544, 6, none⟩) (Kd.R_far (p := ⟨gb544, 5, none⟩) (Kd.R_far (p := ⟨gb544, 4, none⟩) (Kd.R_far (p := ⟨gb544, 3, none⟩) (Kd.R_far (p := ⟨gb544, 2, none⟩) (Kd.R_far (p := ⟨gb544, 1, none⟩) (Kd.R_far (p := ⟨gb544, 0, none⟩) (Kd.R_types HO543.out BK544.out (by decide)) (fun _ hk => hk.2) (.int .i64 t527)) (fun _ hk => hk.2) (.int .i64 t528)) (fun _ hk => hk.2) (.int .i64 t529)) (fun _ hk => hk.2) (.string t530)) (fun _ hk => hk.2) (.bool t531)) (fun _ hk => hk.2) (.int .u64 t532)) (fun _ hk => hk.2) (.int .u64 t533)) (fun _ hk => hk.2) (.bool t534)) (fun _ hk => hk.2) (.int .u64 t535)) (fun _ hk => hk.2) (.int .u64 t536)) (fun _ hk => hk.2) (.bool t537)) (fun _ hk => hk.2) (.int .u64 t538)) (fun _ hk => hk.2) (.int .u64 t539)) (fun _ hk => hk.2) (.bool t540)) (fun _ hk => hk.2) (.slice Ao63 t541.length co63)) (fun _ h_ => h_.1)))); (case side2 => exact (Kd.R_reads' HO543.out).2.1); rintro e w64 ⟨rfl, hb⟩; refine ⟨_, rfl, ?_⟩; have n0_ := Aside0.mk (Kd.R_below (by (with_reducible repeat (first | apply Kd.R_alloc | apply Kd.R_drewN | apply Kd.R_drew)); exact (Kd.R_mono (Kd.R_far (p := ⟨gb544, 14, none⟩) (Kd.R_far (p := ⟨gb544, 13, none⟩) (Kd.R_far (p := ⟨gb544, 12, none⟩) (Kd.R_far (p := ⟨gb544, 11, none⟩) (Kd.R_far (p := ⟨gb544, 10, none⟩) (Kd.R_far (p := ⟨gb544, 9, none⟩) (Kd.R_far (p := ⟨gb544, 8, none⟩) (Kd.R_far (p := ⟨gb544, 7, none⟩) (Kd.R_far (p := ⟨gb544, 6, none⟩) (Kd.R_far (p := ⟨gb544, 5, none⟩) (Kd.R_far (p := ⟨gb544, 4, none⟩) (Kd.R_far (p := ⟨gb544, 3, none⟩) (Kd.R_far (p := ⟨gb544, 2, none⟩) (Kd.R_far (p := ⟨gb544, 1, none⟩) (Kd.R_far (p := ⟨gb544, 0, none⟩) (Kd.R_types HO526.out BK544.out (by decide)) (fun _ hk => hk.2) (.int .i64 t527)) (fun _ hk => hk.2) (.int .i64 t528)) (fun _ hk => hk.2) (.int .i64 t529)) (fun _ hk => hk.2) (.string t530)) (fun _ hk => hk.2) (.bool t531)) (fun _ hk => hk.2) (.int .u64 t532)) (fun _ hk => hk.2) (.int .u64 t533)) (fun _ hk => hk.2) (.bool t534)) (fun _ hk => hk.2) (.int .u64 t535)) (fun _ hk => hk.2) (.int .u64 t536)) (fun _ hk => hk.2) (.bool t537)) (fun _ hk => hk.2) (.int .u64 t538)) (fun _ hk => hk.2) (.int .u64 t539)) (fun _ hk => hk.2) (.bool t540)) (fun _ hk => hk.2) (.slice Ao63 t541.length co63)) (fun _ h_ => h_.1))) hb); have n1_ := Aside0.mk (Kd.R_below (by (with_reducible repeat (first | apply Kd.R_alloc | apply Kd.R_drewN | apply Kd.R_drew)); exact (Kd.R_mono (Kd.R_far (p := ⟨gb544, 14, none⟩) (Kd.R_far (p := ⟨gb544, 13, none⟩) (Kd.R_far (p := ⟨gb544, 12, none⟩) (Kd.R_far (p := ⟨gb544, 11, none⟩) (Kd.R_far (p := ⟨gb544, 10, none⟩) (Kd.R_far (p := ⟨gb544, 9, none⟩) (Kd.R_far (p := ⟨gb544, 8, none⟩) (Kd.R_far (p := ⟨gb544, 7, none⟩) (Kd.R_far (p := ⟨gb544, 6, none⟩) (Kd.R_far (p := ⟨gb544, 5, none⟩) (Kd.R_far (p := ⟨gb544, 4, none⟩) (Kd.R_far (p := ⟨gb544, 3, none⟩) (Kd.R_far (p := ⟨gb544, 2, none⟩) (Kd.R_far (p := ⟨gb544, 1, none⟩) (Kd.R_far (p := ⟨gb544, 0, none⟩) (Kd.R_types HO543.out BK544.out (by decide)) (fun _ hk => hk.2) (.int .i64 t527)) (fun _ hk => hk.2) (.int .i64 t528)) (fun _ hk => hk.2) (.int .i64 t529)) (fun _ hk => hk.2) (.string t530)) (fun _ hk => hk.2) (.bool t531)) (fun _ hk => hk.2) (.int .u64 t532)) (fun _ hk => hk.2) (.int .u64 t533)) (fun _ hk => hk.2) (.bool t534)) (fun _ hk => hk.2) (.int .u64 t535)) (fun _ hk => hk.2) (.int .u64 t536)) (fun _ hk => hk.2) (.bool t537)) (fun _ hk => hk.2) (.int .u64 t538)) (fun _ hk => hk.2) (.int .u64 t539)) (fun _ hk => hk.2) (.bool t540)) (fun _ hk => hk.2) (.slice Ao63 t541.length co63)) (fun _ h_ => h_.1))) hb); have n2_ := Aside0.mk (blk_below (bkx BK509.out) hb); have n3_ := Aside0.mk (blk_below (g := gb544) (o := .cells #[.int .i64 t527, .int .i64 t528, .int .i64 t529, .string t530, .bool t531, .int .u64 t532, .int .u64 t533, .bool t534, .int .u64 t535, .int .u64 t536, .bool t537, .int .u64 t538, .int .u64 t539, .bool t540, .slice Ao63 t541.length co63] 27 (0, 0)) (by (with_reducible repeat (first | refine blk_drewN ?_ _ | refine blk_drew ?_ | refine blk_alloc ?_ _)); refine blk_put (cs := #[.int .i64 t527, .int .i64 t528, .int .i64 t529, .string t530, .bool t531, .int .u64 t532, .int .u64 t533, .bool t534, .int .u64 t535, .int .u64 t536, .bool t537, .int .u64 t538, .int .u64 t539, .bool t540, .slice none 0 0]) ?_ 14 _ rfl; (with_reducible repeat (first | refine blk_drewN ?_ _ | refine blk_drew ?_ | refine blk_alloc ?_ _)); refine blk_put (cs := #[.int .i64 t527, .int .i64 t528, .int .i64 t529, .string t530, .bool t531, .int .u64 t532, .int .u64 t533, .bool t534, .int .u64 t535, .int .u64 t536, .bool t537, .int .u64 t538, .int .u64 t539, .bool false, .slice none 0 0]) ?_ 13 _ rfl; (with_reducible repeat (first | refine blk_drewN ?_ _ | refine blk_drew ?_ | refine blk_alloc ?_ _)); refine blk_put (cs := #[.int .i64 t527, .int .i64 t528, .int .i64 t529, .string t530, .bool t531, .int .u64 t532, .int .u64 t533, .bool t534, .int .u64 t535, .int .u64 t536, .bool t537, .int .u64 t538, .int .u64 0, .bool false, .slice none 0 0]) ?_ 12 _ rfl; (with_reducible repeat (first | refine blk_drewN ?_ _ | refine blk_drew ?_ | refine blk_alloc ?_ _)); refine blk_put (cs := #[.int .i64 t527, .int .i64 t528, .int .i64 t529, .string t530, .bool t531, .int .u64 t532, .int .u64 t533, .bool t534, .int .u64 t535, .int .u64 t536, .bool t537, .int .u64 0, .int .u64 0, .bool false, .slice none 0 0]) ?_ 11 _ rfl; (with_reducible repeat (first | refine blk_drewN ?_ _ | refine blk_drew ?_ | refine blk_alloc ?_ _)); refine blk_put (cs := #[.int .i64 t527, .int .i64 t528, .int .i64 t529, .string t530, .bool t531, .int .u64 t532, .int .u64 t533, .bool t534, .int .u64 t535, .int .u64 t536, .bool false, .int .u64 0, .int .u64 0, .bool false, .slice none 0 0]) ?_ 10 _ rfl; (with_reducible repeat (first | refine blk_drewN ?_ _ | refine blk_drew ?_ | refine blk_alloc ?_ _)); refine blk_put (cs := #[.int .i64 t527, .int .i64 t528, .int .i64 t529, .string t530, .bool t531, .int .u64 t532, .int .u64 t533, .bool t534, .int .u64 t535, .int .u64 0, .bool false, .int .u64 0, .int .u64 0, .bool false, .slice none 0 0]) ?_ 9 _ rfl; (with_reducible repeat (first | refine blk_drewN ?_ _ | refine blk_drew ?_ | refine blk_alloc ?_ _)); refine blk_put (cs := #[.int .i64 t527, .int .i64 t528, .int .i64 t529, .string t530, .bool t531, .int .u64 t532, .int .u64 t533, .bool t534, .int .u64 0, .int .u64 0, .bool false, .int .u64 0, .int .u64 0, .bool false, .slice none 0 0]) ?_ 8 _ rfl; (with_reducible repeat (first | refine blk_drewN ?_ _ | refine blk_drew ?_ | refine blk_alloc ?_ _)); refine blk_put (cs := #[.int .i64 t527, .int .i64 t528, .int .i64 t529, .string t530, .bool t531, .int .u64 t532, .int .u64 t533, .bool false, .int .u64 0, .int .u64 0, .bool false, .int .u64 0, .int .u64 0, .bool false, .slice none 0 0]) ?_ 7 _ rfl; (with_reducible repeat (first | refine blk_drewN ?_ _ | refine blk_drew ?_ | refine blk_alloc ?_ _)); refine blk_put (cs := #[.int .i64 t527, .int .i64 t528, .int .i64 t529, .string t530, .bool t531, .int .u64 t532, .int .u64 0, .bool false, .int .u64 0, .int .u64 0, .bool false, .int .u64 0, .int .u64 0, .bool false, .slice none 0 0]) ?_ 6 _ rfl; (with_reducible repeat (first | refine blk_drewN ?_ _ | refine blk_drew ?_ | refine blk_alloc ?_ _)); refine blk_put (cs := #[.int .i64 t527, .int .i64 t528, .int .i64 t529, .string t530, .bool t531, .int .u64 0, .int .u64 0, .bool false, .int .u64 0, .int .u64 0, .bool false, .int .u64 0, .int .u64 0, .bool false, .slice none 0 0]) ?_ 5 _ rfl; (with_reducible repeat (first | refine blk_drewN ?_ _ | refine blk_drew ?_ | refine blk_alloc ?_ _)); refine blk_put (cs := #[.int .i64 t527, .int .i64 t528, .int .i64 t529, .string t530, .bool false, .int .u64 0, .int .u64 0, .bool false, .int .u64 0, .int .u64 0, .bool false, .int .u64 0, .int .u64 0, .bool false, .slice none 0 0]) ?_ 4 _ rfl; (with_reducible repeat (first | refine blk_drewN ?_ _ | refine blk_drew ?_ | refine blk_alloc ?_ _)); refine blk_put (cs := #[.int .i64 t527, .int .i64 t528, .int .i64 t529, .string (⟨#[]⟩ : ByteArray), .bool false, .int .u64 0, .int .u64 0, .bool false, .int .u64 0, .int .u64 0, .bool false, .int .u64 0, .int .u64 0, .bool false, .slice none 0 0]) ?_ 3 _ rfl; (with_reducible repeat (first | refine blk_drewN ?_ _ | refine blk_drew ?_ | refine blk_alloc ?_ _)); refine blk_put (cs := #[.int .i64 t527, .int .i64 t528, .int .i64 0, .string (⟨#[]⟩ : ByteArray), .bool false, .int .u64 0, .int .u64 0, .bool false, .int .u64 0, .int .u64 0, .bool false, .int .u64 0, .int .u64 0, .bool false, .slice none 0 0]) ?_ 2 _ rfl; (with_reducible repeat (first | refine blk_drewN ?_ _ | refine blk_drew ?_ | refine blk_alloc ?_ _)); refine blk_put (cs := #[.int .i64 t527, .int .i64 0, .int .i64 0, .string (⟨#[]⟩ : ByteArray), .bool false, .int .u64 0, .int .u64 0, .bool false, .int .u64 0, .int .u64 0, .bool false, .int .u64 0, .int .u64 0, .bool false, .slice none 0 0]) ?_ 1 _ rfl; (with_reducible repeat (first | refine blk_drewN ?_ _ | refine blk_drew ?_ | refine blk_alloc ?_ _)); refine blk_put (cs := #[.int .i64 0, .int .i64 0, .int .i64 0, .string (⟨#[]⟩ : ByteArray), .bool false, .int .u64 0, .int .u64 0, .bool false, .int .u64 0, .int .u64 0, .bool false, .int .u64 0, .int .u64 0, .bool false, .slice none 0 0]) ?_ 0 _ rfl; (with_reducible repeat (first | refine blk_drewN ?_ _ | refine blk_drew ?_ | refine blk_alloc ?_ _)); exact BK544.out) hb); have n4_ := Aside0.mk (below_step (hbx HB.out) hb); clear HO526; clear HO543; clear BK509; clear BK544; clear HB; have HO526 := n0_; have HO543 := n1_; have BK509 := n2_; have BK544 := n3_; have HB := n4_; clear n0_ n1_ n2_ n3_ n4_; (try clear hb); (try clear hb2); (try clear hk); (try clear hi); obtain ⟨⟨hcz65_0, hcz65_1, hcz65_2, hcz65_3, hcz65_4, hcz65_5, hcz65_6, hcz65_7, hcz65_8, hcz65_9, hcz65_10, hcz65_11, hcz65_12, hcz65_13, hcz65_14⟩, hfz65_0, hfz65_1, hfz65_2, hfz65_3, hfz65_4, hfz65_5, hfz65_6, hfz65_7, hfz65_8, hfz65_9, hfz65_10, hfz65_11, hfz65_12, hfz65_13, hfz65_14⟩ := cf15 BK509.out) | ((with_reducible refine gate_callee (f := 19) rfl ?_); refine goesL_ (some 39) rfl rfl Tryd.func19 (by kernel_rfl) rfl #[.slice Ao58 t524.length co58, .int .i64 82] rfl (by (try simp only [List.map_toArray, List.map_cons, List.map_nil]); first | done | rfl | (simp only [List.length_drop, List.length_take]; rfl)) ?_; (with_reducible refine (option_Find.calls k _ _ t524 82 t547 t548 _ ?side1 ?side2 A7.out).mono ?_); (case side1 => repeat (first | exact (Kd.R_reads' HO526.out).2.2 | (with_reducible refine Kd.C_alloc ?_ _) | (with_reducible refine Kd.C_drewN ?_ _) | (with_reducible refine Kd.C_drew ?_))); (case side2 => exact (Kd.R_reads' HO526.out).2.1); rintro e w66 ⟨rfl, hb⟩; refine ⟨_, rfl, ?_⟩; have n0_ := Aside0.mk (Kd.R_below (by (with_reducible repeat (first | apply Kd.R_alloc | apply Kd.R_drewN | apply Kd.R_drew)); exact HO526.out) hb); have n1_ := Aside0.mk (Kd.R_below (by (with_reducible repeat (first | apply Kd.R_alloc | apply Kd.R_drewN | apply Kd.R_drew)); exact HO543.out) hb); have n2_ := Aside0.mk (blk_below (bkx BK509.out) hb); have n3_ := Aside0.mk (blk_below (bkx BK544.out) hb); have n4_ := Aside0.mk (below_step (hbx HB.out) hb); clear HO526; clear HO543; clear BK509; clear BK544; clear HB; have HO526 := n0_; have HO543 := n1_; have BK509 := n2_; have BK544 := n3_; have HB := n4_; clear n0_ n1_ n2_ n3_ n4_; (try clear hb); (try clear hb2); (try clear hk); (try clear hi); obtain ⟨⟨hcz67_0, hcz67_1, hcz67_2, hcz67_3, hcz67_4, hcz67_5, hcz67_6, hcz67_7, hcz67_8, hcz67_9, hcz67_10, hcz67_11, hcz67_12, hcz67_13, hcz67_14⟩, hfz67_0, hfz67_1, hfz67_2, hfz67_3, hfz67_4, hfz67_5, hfz67_6, hfz67_7, hfz67_8, hfz67_9, hfz67_10, hfz67_11, hfz67_12, hfz67_13, hfz67_14⟩ := cf15 BK544.out) | ((with_reducible refine gate_callee (f := 11) rfl ?_); refine goesL_ (some 44) rfl rfl Tryd.func11 (by kernel_rfl) rfl #[.agg #[.int .i64 t527, .int .i64 t528, .int .i64 t529, .string t530, .bool t531, .int .u64 t532, .int .u64 t533, .bool t534, .int .u64 t535, .int .u64 t536, .bool t537, .int .u64 t538, .int .u64 t539, .bool t540, .slice Ao63 t541.length co63]] rfl (by (try simp only [List.map_toArray, List.map_cons, List.map_nil]); first | done | rfl | (simp only [List.length_drop, List.length_take]; rfl)) ?_; (with_reducible refine (dhcp_Wanted.calls k t527 t528 t529 t530 t531 t532 t533 t534 t535 t536 t537 t538 t539 t540 _ _ t541 t549 t550 t551 false _ ?side1 ?side2 A8.out).mono ?_); (case side1 => repeat (first | exact (Kd.R_reads' HO543.out).2.2 | (with_reducible refine Kd.C_alloc ?_ _) | (with_reducible refine Kd.C_drewN ?_ _) | (with_reducible refine Kd.C_drew ?_))); (case side2 => exact (Kd.R_reads' HO543.out).2.1); rintro e w68 ⟨rfl, hb⟩; refine ⟨_, rfl, ?_⟩; have n0_ := Aside0.mk (Kd.R_below (by (with_reducible repeat (first | apply Kd.R_alloc | apply Kd.R_drewN | apply Kd.R_drew)); exact HO526.out) hb); have n1_ := Aside0.mk (Kd.R_below (by (with_reducible repeat (first | apply Kd.R_alloc | apply Kd.R_drewN | apply Kd.R_drew)); exact HO543.out) hb); have n2_ := Aside0.mk (blk_below (bkx BK509.out) hb); have n3_ := Aside0.mk (blk_below (bkx BK544.out) hb); have n4_ := Aside0.mk (below_step (hbx HB.out) hb); clear HO526; clear HO543; clear BK509; clear BK544; clear HB; have HO526 := n0_; have HO543 := n1_; have BK509 := n2_; have BK544 := n3_; have HB := n4_; clear n0_ n1_ n2_ n3_ n4_; (try clear hb); (try clear hb2); (try clear hk); (try clear hi)) | ((with_reducible refine gate_dst (N := 13) rfl ?_); (try (refine gate_guard (by rfl) ?_; dsimp only)); refine box_event ?hg (N := 13) ?hd (cs := #[.bool false, .int .u64 0, .int .u64 0]) (t := 24) ?hr ?_; (case hd => rfl); (case hg => rfl); (case hr => first | (go_simp; done) | (go_simp; rfl)); intro gb553 hg w69 hbox hb; have n0_ := Aside0.mk (Kd.R_below (by (with_reducible repeat (first | apply Kd.R_alloc | apply Kd.R_drewN | apply Kd.R_drew)); exact HO526.out) hb); have n1_ := Aside0.mk (Kd.R_below (by (with_reducible repeat (first | apply Kd.R_alloc | apply Kd.R_drewN | apply Kd.R_drew)); exact HO543.out) hb); have n2_ := Aside0.mk (blk_below (bkx BK509.out) hb); have n3_ := Aside0.mk (blk_below (bkx BK544.out) hb); have n4_ := Aside0.mk (below_step (hbx HB.out) hb); have n5_ := Aside0.mk (hbox); have n6_ := Aside0.mk ((by rw [hg]; exact (below_size (hbx HB.out)) : w.heap.size ≤ gb553)); have n7_ := Aside0.mk ((by rw [hg]; exact (below_size (hbx HB.out)) : w.heap.size ≤ gb553)); have n8_ := Aside0.mk ((by rw [hg]; exact Nat.ne_of_lt (blk_lt (bkx BK509.out)) : gb509 ≠ gb553)); have n9_ := Aside0.mk ((by rw [hg]; exact Nat.ne_of_gt (blk_lt (bkx BK509.out)) : gb553 ≠ gb509)); have n10_ := Aside0.mk ((by rw [hg]; exact Nat.ne_of_lt (blk_lt (bkx BK544.out)) : gb544 ≠ gb553)); have n11_ := Aside0.mk ((by rw [hg]; exact Nat.ne_of_gt (blk_lt (bkx BK544.out)) : gb553 ≠ gb544)); clear HO526; clear HO543; clear BK509; clear BK544; clear HB; have HO526 := n0_; have HO543 := n1_; have BK509 := n2_; have BK544 := n3_; have HB := n4_; have BK553 := n5_; have GW553 := n6_; have GE553 := n7_; have NB509_553 := n8_; have NB553_509 := n9_; have NB544_553 := n10_; have NB553_544 := n11_; clear n0_ n1_ n2_ n3_ n4_ n5_ n6_ n7_ n8_ n9_ n10_ n11_; clear hb hbox hg; have hnb70 := NB553_509.out; have hnc70 := NB509_553.out; have hnb71 := NB553_544.out; have hnc71 := NB544_553.out; obtain ⟨⟨hcz72_0, hcz72_1, hcz72_2⟩, hfz72_0, hfz72_1, hfz72_2⟩ := cf3 BK553.out; obtain ⟨⟨hcz73_0, hcz73_1, hcz73_2, hcz73_3, hcz73_4, hcz73_5, hcz73_6, hcz73_7, hcz73_8, hcz73_9, hcz73_10, hcz73_11, hcz73_12, hcz73_13, hcz73_14⟩, hfz73_0, hfz73_1, hfz73_2, hfz73_3, hfz73_4, hfz73_5, hfz73_6, hfz73_7, hfz73_8, hfz73_9, hfz73_10, hfz73_11, hfz73_12, hfz73_13, hfz73_14⟩ := cf15 BK544.out) | ((with_reducible refine gate_callee (f := 13) rfl ?_); refine goesL_ (some 49) rfl rfl Tryd.func13 (by kernel_rfl) rfl #[.agg #[.int .i64 t527, .int .i64 t528, .int .i64 t529, .string t530, .bool t531, .int .u64 t532, .int .u64 t533, .bool t534, .int .u64 t535, .int .u64 t536, .bool t537, .int .u64 t538, .int .u64 t539, .bool t540, .slice Ao63 t541.length co63]] rfl (by (try simp only [List.map_toArray, List.map_cons, List.map_nil]); first | done | rfl | (simp only [List.length_drop, List.length_take]; rfl)) ?_; (with_reducible refine (dhcp_Lease.calls k t527 t528 t529 t530 t531 t532 t533 t534 t535 t536 t537 t538 t539 t540 _ _ t541 t554 t555 t556 false _ ?side1 ?side2 A9.out).mono ?_); (case side1 => refine (Kd.R_reads' (e := 61) (base := w.heap.size) (ok := fun k_ => (True ∧ some k_ ≠ (.slice Ao58 t524.length co58 : Value).ownBlock)) (n := t541.length) (c := co63) ?_).2.2; exact (by (with_reducible repeat (first | apply Kd.R_alloc | apply Kd.R_drewN | apply Kd.R_drew)); exact (Kd.R_mono (Kd.R_far (p := ⟨gb553, 2, none⟩) (Kd.R_far (p := ⟨gb553, 1, none⟩) (Kd.R_far (p := ⟨gb553, 0, none⟩) (Kd.R_types HO543.out BK553.out (by decide)) (fun _ hk => hk.2) (.bool t549)) (fun _ hk => hk.2) (.int .u64 t550)) (fun _ hk => hk.2) (.int .u64 t551)) (fun _ h_ => h_.1)))); (case side2 => exact (Kd.R_reads' HO543.out).2.1); rintro e w74 ⟨rfl, hb⟩; refine ⟨_, rfl, ?_⟩; have n0_ := Aside0.mk (Kd.R_below (by (with_reducible repeat (first | apply Kd.R_alloc | apply Kd.R_drewN | apply Kd.R_drew)); exact (Kd.R_mono (Kd.R_far (p := ⟨gb553, 2, none⟩) (Kd.R_far (p := ⟨gb553, 1, none⟩) (Kd.R_far (p := ⟨gb553, 0, none⟩) (Kd.R_types HO526.out BK553.out (by decide)) (fun _ hk => hk.2) (.bool t549)) (fun _ hk => hk.2) (.int .u64 t550)) (fun _ hk => hk.2) (.int .u64 t551)) (fun _ h_ => h_.1))) hb); have n1_ := Aside0.mk (Kd.R_below (by (with_reducible repeat (first | apply Kd.R_alloc | apply Kd.R_drewN | apply Kd.R_drew)); exact (Kd.R_mono (Kd.R_far (p := ⟨gb553, 2, none⟩) (Kd.R_far (p := ⟨gb553, 1, none⟩) (Kd.R_far (p := ⟨gb553, 0, none⟩) (Kd.R_types HO543.out BK553.out (by decide)) (fun _ hk => hk.2) (.bool t549)) (fun _ hk => hk.2) (.int .u64 t550)) (fun _ hk => hk.2) (.int .u64 t551)) (fun _ h_ => h_.1))) hb); have n2_ := Aside0.mk (blk_below (bkx BK509.out) hb); have n3_ := Aside0.mk (blk_below (bkx BK544.out) hb); have n4_ := Aside0.mk (blk_below (g := gb553) (o := .cells #[.bool t549, .int .u64 t550, .int .u64 t551] 24 (0, 0)) (by (with_reducible repeat (first | refine blk_drewN ?_ _ | refine blk_drew ?_ | refine blk_alloc ?_ _)); refine blk_put (cs := #[.bool t549, .int .u64 t550, .int .u64 0]) ?_ 2 _ rfl; (with_reducible repeat (first | refine blk_drewN ?_ _ | refine blk_drew ?_ | refine blk_alloc ?_ _)); refine blk_put (cs := #[.bool t549, .int .u64 0, .int .u64 0]) ?_ 1 _ rfl; (with_reducible repeat (first | refine blk_drewN ?_ _ | refine blk_drew ?_ | refine blk_alloc ?_ _)); refine blk_put (cs := #[.bool false, .int .u64 0, .int .u64 0]) ?_ 0 _ rfl; (with_reducible repeat (first | refine blk_drewN ?_ _ | refine blk_drew ?_ | refine blk_alloc ?_ _)); exact BK553.out) hb); have n5_ := Aside0.mk (below_step (hbx HB.out) hb); clear HO526; clear HO543; clear BK509; clear BK544; clear BK553; clear HB; have HO526 := n0_; have HO543 := n1_; have BK509 := n2_; have BK544 := n3_; have BK553 := n4_; have HB := n5_; clear n0_ n1_ n2_ n3_ n4_ n5_; (try clear hb); (try clear hb2); (try clear hk); (try clear hi); obtain ⟨⟨hcz75_0, hcz75_1, hcz75_2, hcz75_3, hcz75_4, hcz75_5, hcz75_6, hcz75_7, hcz75_8, hcz75_9, hcz75_10, hcz75_11, hcz75_12, hcz75_13, hcz75_14⟩, hfz75_0, hfz75_1, hfz75_2, hfz75_3, hfz75_4, hfz75_5, hfz75_6, hfz75_7, hfz75_8, hfz75_9, hfz75_10, hfz75_11, hfz75_12, hfz75_13, hfz75_14⟩ := cf15 BK544.out; obtain ⟨⟨hcz76_0, hcz76_1, hcz76_2, hcz76_3, hcz76_4, hcz76_5, hcz76_6, hcz76_7, hcz76_8, hcz76_9, hcz76_10, hcz76_11, hcz76_12, hcz76_13, hcz76_14⟩, hfz76_0, hfz76_1, hfz76_2, hfz76_3, hfz76_4, hfz76_5, hfz76_6, hfz76_7, hfz76_8, hfz76_9, hfz76_10, hfz76_11, hfz76_12, hfz76_13, hfz76_14⟩ := cf15 BK509.out) | ((with_reducible refine gate_callee (f := 20) rfl ?_); refine goesL_ (some 116) rfl rfl Tryd.func20 (by kernel_rfl) rfl #[.agg #[.int .i64 t510, .int .i64 t511, .int .i64 t512, .string t513, .bool t514, .int .u64 t515, .int .u64 t516, .bool t517, .int .u64 t518, .int .u64 t519, .bool t520, .int .u64 t521, .int .u64 t522, .bool t523, .slice Ao58 t524.length co58]] rfl (by (try simp only [List.map_toArray, List.map_cons, List.map_nil]); first | done | rfl | (simp only [List.length_drop, List.length_take]; rfl)) ?_; (with_reducible refine (dhcp_Valid.calls k t510 t511 t512 t513 t514 t515 t516 t517 t518 t519 t520 t521 t522 t523 _ _ t524 false _ ?side1 ?side2 A21.out).mono ?_); (case side1 => repeat (first | exact (Kd.R_reads' HO526.out).2.2 | (with_reducible refine Kd.C_alloc ?_ _) | (with_reducible refine Kd.C_drewN ?_ _) | (with_reducible refine Kd.C_drew ?_))); (case side2 => exact (Kd.R_reads' HO526.out).2.1); rintro e w77 ⟨rfl, hb⟩; refine ⟨_, rfl, ?_⟩; have n0_ := Aside0.mk (Kd.R_below (by (with_reducible repeat (first | apply Kd.R_alloc | apply Kd.R_drewN | apply Kd.R_drew)); exact HO526.out) hb); have n1_ := Aside0.mk (Kd.R_below (by (with_reducible repeat (first | apply Kd.R_alloc | apply Kd.R_drewN | apply Kd.R_drew)); exact HO543.out) hb); have n2_ := Aside0.mk (blk_below (bkx BK509.out) hb); have n3_ := Aside0.mk (blk_below (bkx BK544.out) hb); have n4_ := Aside0.mk (blk_below (bkx BK553.out) hb); have n5_ := Aside0.mk (below_step (hbx HB.out) hb); clear HO526; clear HO543; clear BK509; clear BK544; clear BK553; clear HB; have HO526 := n0_; have HO543 := n1_; have BK509 := n2_; have BK544 := n3_; have BK553 := n4_; have HB := n5_; clear n0_ n1_ n2_ n3_ n4_ n5_; (try clear hb); (try clear hb2); (try clear hk); (try clear hi)) | (go_at_call 18; (with_reducible refine (ddilaw36_awake.calls k  t561 _ A53.out).mono ?_); rintro e w78 ⟨rfl, hb⟩; have n0_ := Aside0.mk (Kd.R_below (by (with_reducible repeat (first | apply Kd.R_alloc | apply Kd.R_drewN | apply Kd.R_drew)); exact HO526.out) hb); have n1_ := Aside0.mk (Kd.R_below (by (with_reducible repeat (first | apply Kd.R_alloc | apply Kd.R_drewN | apply Kd.R_drew)); exact HO543.out) hb); have n2_ := Aside0.mk (blk_below (bkx BK509.out) hb); have n3_ := Aside0.mk (blk_below (bkx BK544.out) hb); have n4_ := Aside0.mk (blk_below (bkx BK553.out) hb); have n5_ := Aside0.mk (below_step (hbx HB.out) hb); clear HO526; clear HO543; clear BK509; clear BK544; clear BK553; clear HB; have HO526 := n0_; have HO543 := n1_; have BK509 := n2_; have BK544 := n3_; have BK553 := n4_; have HB := n5_; clear n0_ n1_ n2_ n3_ n4_ n5_; (try clear hb); (try clear hb2); (try clear hk); (try clear hi)))
             go_ret
             exact ⟨by first | rfl | (simp [errW_none, errW_some] <;> rfl) | (simp [*, errW_none, errW_some] <;> rfl), hbx HB.out⟩
        ·rw [if_neg c17] at H
         exact absurd H (by simp)
      ·rw [if_neg c15] at H
       exact absurd H (by simp)
     ·rw [if_neg c14] at H
      exact absurd H (by simp)
  ·rw [if_neg c11] at H
   exact absurd H (by simp)
 ·rw [if_neg c10] at H
  exact absurd H (by simp)

end Go.Proofs.YtcoekgnbncocnaaDoor.Pa


namespace Go.Proofs.YtcoekgnbncocnaaDoor.Pa
open Go.RowKit Go.Proofs.YtcoekgnbncocnaaDoorW.PrintWords Go.Proofs.YtcoekgnbncocnaaDoorW.PrintLast Go.Proofs.YtcoekgnbncocnaaDoorW.PrintMore
set_option linter.unusedVariables false
set_option linter.unusedSimpArgs false
def ddilaw36_DhcpAnswers.f (k : Nat) (a0_0 : Int) (a0_1 : Int) (a0_2 : Int) (a0_3 : ByteArray) (a0_4 : Bool) (a0_5 : Int) (a0_6 : Int) (a0_7 : Bool) (a0_8 : Int) (a0_9 : Int) (a0_10 : Bool) (a0_11 : Int) (a0_12 : Int) (a0_13 : Bool) (l0_14 : List (S61)) (a1 : Int) (a2 : Int) : Option (Bool) := (ddilaw36_DhcpAnswers_a.f k a0_0 a0_1 a0_2 a0_3 a0_4 a0_5 a0_6 a0_7 a0_8 a0_9 a0_10 a0_11 a0_12 a0_13 l0_14 a1 a2).orElse fun _ => ddilaw36_DhcpAnswers_b.f k a0_0 a0_1 a0_2 a0_3 a0_4 a0_5 a0_6 a0_7 a0_8 a0_9 a0_10 a0_11 a0_12 a0_13 l0_14 a1 a2
theorem ddilaw36_DhcpAnswers.calls (k : Nat) (a0_0 : Int) (a0_1 : Int) (a0_2 : Int) (a0_3 : ByteArray) (a0_4 : Bool) (a0_5 : Int) (a0_6 : Int) (a0_7 : Bool) (a0_8 : Int) (a0_9 : Int) (a0_10 : Bool) (a0_11 : Int) (a0_12 : Int) (a0_13 : Bool) (A0_14 : Option Addr) (c0_14 : Nat) (l0_14 : List (S61)) (a1 : Int) (a2 : Int) (r : Bool) (w : World) (hr0_14 : Kd.C k61 w A0_14 l0_14.length l0_14) (hc0_14 : l0_14.length ≤ c0_14) (h : ddilaw36_DhcpAnswers.f k a0_0 a0_1 a0_2 a0_3 a0_4 a0_5 a0_6 a0_7 a0_8 a0_9 a0_10 a0_11 a0_12 a0_13 l0_14 a1 a2 = some r) :
  Calls Tryd.prog 4 #[.agg #[.int .i64 a0_0, .int .i64 a0_1, .int .i64 a0_2, .string a0_3, .bool a0_4, .int .u64 a0_5, .int .u64 a0_6, .bool a0_7, .int .u64 a0_8, .int .u64 a0_9, .bool a0_10, .int .u64 a0_11, .int .u64 a0_12, .bool a0_13, .slice A0_14 l0_14.length c0_14], .int .u8 a1, .int .u16 a2] w fun e w' => e = .returned (.bool r) ∧ Below w.heap.size w w' := by
  unfold ddilaw36_DhcpAnswers.f at h
  cases hA : ddilaw36_DhcpAnswers_a.f k a0_0 a0_1 a0_2 a0_3 a0_4 a0_5 a0_6 a0_7 a0_8 a0_9 a0_10 a0_11 a0_12 a0_13 l0_14 a1 a2 with
  | some q =>
    rw [hA] at h
    have h2 : q = r := Option.some.inj h
    rw [h2] at hA
    exact ddilaw36_DhcpAnswers_a.calls k a0_0 a0_1 a0_2 a0_3 a0_4 a0_5 a0_6 a0_7 a0_8 a0_9 a0_10 a0_11 a0_12 a0_13 A0_14 c0_14 l0_14 a1 a2 r w hr0_14 hc0_14 hA
  | none =>
    rw [hA] at h
    exact ddilaw36_DhcpAnswers_b.calls k a0_0 a0_1 a0_2 a0_3 a0_4 a0_5 a0_6 a0_7 a0_8 a0_9 a0_10 a0_11 a0_12 a0_13 A0_14 c0_14 l0_14 a1 a2 r w hr0_14 hc0_14 h
end Go.Proofs.YtcoekgnbncocnaaDoor.Pa


namespace Go.Proofs.YtcoekgnbncocnaaDoor.Pa
open Go Go.RowKit
/-- what a row tells of an option -/
def Wf61 (x : S61) : Prop := ((Lit.int .i64 x.f0).wf = true) ∧ (x.f1.size ≤ 140737488351232)
end Go.Proofs.YtcoekgnbncocnaaDoor.Pa
namespace Go.Proofs.YtcoekgnbncocnaaDoor.OPT
open Go Go.RowKit Go.Proofs.YtcoekgnbncocnaaDoorW.PrintWords Go.Proofs.YtcoekgnbncocnaaDoor.DN Go.Proofs.YtcoekgnbncocnaaDoor.Pa
set_option linter.unusedVariables false
set_option linter.unusedSimpArgs false

theorem w2 {a b : Nat} (h : a + b < 9223372036854775807) : wrap64 ((a : Int) + (b : Int)) = ((a + b : Nat) : Int) := by rw [wrap_id (by omega) (by omega)]; rfl
theorem rd_split (a : List S61) (x : S61) (b : List S61) : rd_T61 (a ++ x :: b) (a.length : Int) = x := by rw [rd_at (by simp)]; simp
/-- where the first element with a code stands -/
def idxS : List S61 → Int → Nat → Int
  | [], _, _ => -1
  | x :: l, c, i => if x.f0 = c then (i : Int) else idxS l c (i + 1)
theorem idx_cases : ∀ (l : List S61) (c : Int) (i : Nat), ((∀ x ∈ l, x.f0 ≠ c) ∧ idxS l c i = -1) ∨ ∃ a x b, l = a ++ x :: b ∧ x.f0 = c ∧ (∀ y ∈ a, y.f0 ≠ c) ∧ idxS l c i = ((i + a.length : Nat) : Int)
  | [], c, i => .inl ⟨by simp, rfl⟩
  | x :: l, c, i => by
    by_cases h : x.f0 = c
    · exact .inr ⟨[], x, l, rfl, h, by simp, by rw [idxS, if_pos h]; rfl⟩
    · rcases idx_cases l c (i + 1) with ⟨h1, h2⟩ | ⟨a, y, b, h1, h2, h3, h4⟩
      · exact .inl ⟨by intro z hz; rcases List.mem_cons.1 hz with rfl | hz; exact h; exact h1 z hz, by rw [idxS, if_neg h, h2]⟩
      · refine .inr ⟨x :: a, y, b, by rw [h1]; rfl, h2, by intro z hz; rcases List.mem_cons.1 hz with rfl | hz; exact h; exact h3 z hz, ?_⟩
        rw [idxS, if_neg h, h4, List.length_cons]; congr 1; omega
theorem index_l (l : List S61) (c : Int) (hl : l.length ≤ 5864062014805) : ∀ (n k i : Nat), l.length - i ≤ n → n < k → i ≤ l.length → ddiref35_index.l0 k l c (i : Int) = some (idxS (l.drop i) c i) := by
  intro n
  induction n with
  | zero =>
    intro k i hn hk hi
    obtain ⟨k, rfl⟩ : ∃ q, k = q + 1 := ⟨k - 1, by omega⟩
    obtain rfl : i = l.length := by omega
    rw [ddiref35_index.l0, if_neg (by omega), List.drop_length]; rfl
  | succ n ih =>
    intro k i hn hk hi
    obtain ⟨k, rfl⟩ : ∃ q, k = q + 1 := ⟨k - 1, by omega⟩
    by_cases hlt : i < l.length
    · rw [ddiref35_index.l0, if_pos (by omega), if_pos (by omega), rd_at hlt, drop_at hlt, idxS]
      by_cases hc : l[i].f0 = c
      · rw [if_pos hc, if_pos hc]
      · rw [if_neg hc, if_neg hc, wsucc (by omega), ih k (i + 1) (by omega) (by omega) (by omega)]
    · obtain rfl : i = l.length := by omega
      rw [ddiref35_index.l0, if_neg (by omega), List.drop_length]; rfl
theorem index_f (l : List S61) (c : Int) (hl : l.length ≤ 5864062014805) (k : Nat) (hk : l.length < k) : ddiref35_index.f k l c = some (idxS l c 0) := by
  have := index_l l c hl l.length k 0 (by omega) hk (by omega)
  simpa [ddiref35_index.f] using this

theorem vld_nil : vld [] := ⟨⟨by simp, by simp [sz], by simp⟩, by simp, by simp⟩
end Go.Proofs.YtcoekgnbncocnaaDoor.OPT


namespace Go.Proofs.YtcoekgnbncocnaaDoor.PK
open Go Go.RowKit Go.Proofs.YtcoekgnbncocnaaDoorW.PrintWords Go.Proofs.YtcoekgnbncocnaaDoorW.PrintLast Go.Proofs.YtcoekgnbncocnaaDoorW.PrintMore Go.Proofs.YtcoekgnbncocnaaDoor.DN Go.Proofs.YtcoekgnbncocnaaDoor.OPT Go.Proofs.YtcoekgnbncocnaaDoor.ADR Go.Proofs.YtcoekgnbncocnaaDoor.Pa
set_option linter.unusedVariables false
set_option linter.unusedSimpArgs false

def vis (b : UInt8) : Bool := decide (33 ≤ b.toNat ∧ b.toNat ≤ 126)
def cli (s : ByteArray) : Bool := decide (1 ≤ s.size ∧ s.size ≤ 32) && (L s).all vis
theorem client_l (s : ByteArray) (hs : s.size ≤ 32) : ∀ (n k i : Nat), s.size - i ≤ n → n < k → i ≤ s.size → dhcp_client.l0 k s (s.size : Int) (i : Int) = some (((L s).drop i).all vis) := by
  intro n
  induction n with
  | zero =>
    intro k i hn hk hi
    obtain ⟨k, rfl⟩ : ∃ q, k = q + 1 := ⟨k - 1, by omega⟩
    rw [dhcp_client.l0, if_neg (by omega), List.drop_eq_nil_of_le (by rw [L_len]; omega)]; rfl
  | succ n ih =>
    intro k i hn hk hi
    obtain ⟨k, rfl⟩ : ∃ q, k = q + 1 := ⟨k - 1, by omega⟩
    by_cases hlt : i < s.size
    · have hL : i < (L s).length := by rw [L_len]; exact hlt
      rw [dhcp_client.l0, if_pos (by omega), if_pos (by omega), if_pos (by omega), bt_L s i hL, drop_at hL, List.all_cons]
      by_cases h1 : (L s)[i].toNat < 33
      · rw [if_pos (by omega), show vis (L s)[i] = false from decide_eq_false (by omega)]; rfl
      · rw [if_neg (by omega)]
        by_cases h2 : 126 < (L s)[i].toNat
        · rw [if_pos (by omega), show vis (L s)[i] = false from decide_eq_false (by omega)]; rfl
        · rw [if_neg (by omega), show vis (L s)[i] = true from decide_eq_true (by omega), Bool.true_and, wsucc (by omega)]
          exact ih k (i + 1) (by omega) (by omega) (by omega)
    · rw [dhcp_client.l0, if_neg (by omega), List.drop_eq_nil_of_le (by rw [L_len]; omega)]; rfl
theorem rclient_l (s : ByteArray) (hs : s.size ≤ 32) : ∀ (n k i : Nat), s.size - i ≤ n → n < k → i ≤ s.size → ddiref36_isClient.l0 k s (i : Int) = some (((L s).drop i).all vis) := by
  intro n
  induction n with
  | zero =>
    intro k i hn hk hi
    obtain ⟨k, rfl⟩ : ∃ q, k = q + 1 := ⟨k - 1, by omega⟩
    rw [ddiref36_isClient.l0, if_neg (by omega), List.drop_eq_nil_of_le (by rw [L_len]; omega)]; rfl
  | succ n ih =>
    intro k i hn hk hi
    obtain ⟨k, rfl⟩ : ∃ q, k = q + 1 := ⟨k - 1, by omega⟩
    by_cases hlt : i < s.size
    · have hL : i < (L s).length := by rw [L_len]; exact hlt
      rw [ddiref36_isClient.l0, if_pos (by omega), if_pos (by omega), bt_L s i hL, drop_at hL, List.all_cons]
      by_cases h1 : (L s)[i].toNat < 33
      · rw [if_pos (by omega), show vis (L s)[i] = false from decide_eq_false (by omega)]; rfl
      · rw [if_neg (by omega)]
        by_cases h2 : 126 < (L s)[i].toNat
        · rw [if_pos (by omega), show vis (L s)[i] = false from decide_eq_false (by omega)]; rfl
        · rw [if_neg (by omega), show vis (L s)[i] = true from decide_eq_true (by omega), Bool.true_and, wsucc (by omega)]
          exact ih k (i + 1) (by omega) (by omega) (by omega)
    · rw [ddiref36_isClient.l0, if_neg (by omega), List.drop_eq_nil_of_le (by rw [L_len]; omega)]; rfl
theorem client_f (s : ByteArray) (k : Nat) (hk : 100 < k) : dhcp_client.f k s = some (cli s) ∧ ddiref36_isClient.f k s = some (cli s) := by
  obtain ⟨k, rfl⟩ : ∃ q, k = q + 1 := ⟨k - 1, by omega⟩
  unfold dhcp_client.f ddiref36_isClient.f cli
  have he : s.toList = ([] : List UInt8) ↔ s.size = 0 := by rw [toList_L, ← L_len]; exact List.length_eq_zero_iff.symm
  by_cases h0 : s.size = 0
  · rw [if_pos (he.2 h0), if_pos (by omega), dhcp_client.j0, if_pos rfl, ddiref36_isClient.j0, if_pos rfl, decide_eq_false (by omega)]; exact ⟨rfl, rfl⟩
  · rw [if_neg (fun e => h0 (he.1 e)), if_neg (by omega), dhcp_client.j0, ddiref36_isClient.j0]
    by_cases h : s.size ≤ 32
    · rw [decide_eq_false (show ¬ ((s.size : Int) > 32) by omega), if_neg (by decide), if_neg (by decide), decide_eq_true (by omega), Bool.true_and]
      exact ⟨client_l s h s.size k 0 (by omega) (by omega) (by omega), rclient_l s h s.size k 0 (by omega) (by omega) (by omega)⟩
    · rw [decide_eq_true (show (s.size : Int) > 32 by omega), if_pos rfl, if_pos rfl, decide_eq_false (by omega)]; exact ⟨rfl, rfl⟩

theorem ipv4_f (x : S24) (h0 : 0 ≤ x.f2) : dhcp_ipv4.f x.f0 x.f1 x.f2 = some (decide (okA x)) := by
  unfold dhcp_ipv4.f addr_Valid.f
  obtain ⟨b, hi, lo⟩ := x
  simp only at h0 ⊢
  cases b
  · by_cases h1 : hi = 0
    · subst h1
      by_cases h2 : lo ≤ 4294967295
      · have h3 : lo < 4294967296 := by omega
        simp [okA, h2, h3]
      · have h3 : ¬ lo < 4294967296 := by omega
        simp [okA, h2, h3]
    · simp [okA, h1]
  · simp [okA]
def opr (n : Int) : Int := if n = 1 ∨ n = 3 ∨ n = 4 ∨ n = 7 ∨ n = 8 then 1 else if n = 2 ∨ n = 5 ∨ n = 6 then 2 else 0
theorem operation_f (n : Int) (k : Nat) (hk : 1 ≤ k) : dhcp_operation.f k n = some (opr n) := by
  obtain ⟨k, rfl⟩ : ∃ q, k = q + 1 := ⟨k - 1, by omega⟩
  unfold dhcp_operation.f opr
  simp only [dhcp_operation.j0]
  by_cases h1 : n = 1
  · simp [h1]
  by_cases h3 : n = 3
  · simp [h3]
  by_cases h4 : n = 4
  · simp [h4]
  by_cases h7 : n = 7
  · simp [h7]
  by_cases h8 : n = 8
  · simp [h8]
  by_cases h2 : n = 2
  · simp [h2]
  by_cases h5 : n = 5
  · simp [h5]
  by_cases h6 : n = 6
  · simp [h6]
  simp [h1, h2, h3, h4, h5, h6, h7, h8]
theorem opr_zero (n : Int) : opr n = 0 ↔ ¬ (1 ≤ n ∧ n ≤ 8) := by
  unfold opr
  split
  · constructor
    · intro h; cases h
    · intro h; omega
  · split
    · constructor
      · intro h; cases h
      · intro h; omega
    · constructor
      · intro _; omega
      · intro _; rfl

def zeroA (x : S24) : Prop := x.f0 = false ∧ x.f1 = 0 ∧ x.f2 = 0
instance (x : S24) : Decidable (zeroA x) := inferInstanceAs (Decidable (_ ∧ _ ∧ _))
/-- a message but for its options -/
def vhd (a0 a1 a2 : Int) (a3 : ByteArray) (x y z : S24) (a13 : Bool) : Bool :=
  decide ((1 ≤ a0 ∧ a0 ≤ 8) ∧ (0 ≤ a1 ∧ a1 < 4294967296) ∧ (0 ≤ a2 ∧ a2 < 65536) ∧ cli a3 = true ∧ okA x ∧ okA y ∧ okA z ∧ (a13 = true ∨ zeroA z))
def vpk (a0 a1 a2 : Int) (a3 : ByteArray) (x y z : S24) (a13 : Bool) (l : List S61) : Bool := vhd a0 a1 a2 a3 x y z a13 && decide (vld (ab l))
theorem ne_zeroA (x : S24) : (x.f0 || (!(x.f1 == 0) || (!(x.f2 == 0)))) = !decide (zeroA x) := by
  obtain ⟨b, h, l⟩ := x
  cases b
  · by_cases h1 : h = 0
    · by_cases h2 : l = 0
      · subst h1; subst h2; rfl
      · subst h1; simp [zeroA, h2]
    · simp [zeroA, h1]
  · simp [zeroA]
theorem vhd_false {a0 a1 a2 : Int} {a3 : ByteArray} {x y z : S24} {a13 : Bool} {l : List S61} (h : ¬ ((1 ≤ a0 ∧ a0 ≤ 8) ∧ (0 ≤ a1 ∧ a1 < 4294967296) ∧ (0 ≤ a2 ∧ a2 < 65536) ∧ cli a3 = true ∧ okA x ∧ okA y ∧ okA z ∧ (a13 = true ∨ zeroA z))) : vpk a0 a1 a2 a3 x y z a13 l = false := by
  unfold vpk vhd; rw [decide_eq_false h]; rfl
theorem vhd_true {a0 a1 a2 : Int} {a3 : ByteArray} {x y z : S24} {a13 : Bool} {l : List S61} (h : (1 ≤ a0 ∧ a0 ≤ 8) ∧ (0 ≤ a1 ∧ a1 < 4294967296) ∧ (0 ≤ a2 ∧ a2 < 65536) ∧ cli a3 = true ∧ okA x ∧ okA y ∧ okA z ∧ (a13 = true ∨ zeroA z)) : vpk a0 a1 a2 a3 x y z a13 l = decide (vld (ab l)) := by
  unfold vpk vhd; rw [decide_eq_true h, Bool.true_and]
theorem dtail (a0 a1 a2 : Int) (a3 : ByteArray) (x y z : S24) (a13 : Bool) (l : List S61) (hx : 0 ≤ x.f2) (hy : 0 ≤ y.f2) (hz : 0 ≤ z.f2) (hl : ∀ o ∈ l, o.f1.size ≤ 140737488351232) (k : Nat) (hk : 100 < k)
    (h0 : 1 ≤ a0 ∧ a0 ≤ 8) (h1 : 0 ≤ a1 ∧ a1 < 4294967296) (h2 : 0 ≤ a2 ∧ a2 < 65536) (hc : cli a3 = true) :
    dhcp_Valid.j0 (k + 1) false a0 a1 a2 a3 x.f0 x.f1 x.f2 y.f0 y.f1 y.f2 z.f0 z.f1 z.f2 a13 l = some (vpk a0 a1 a2 a3 x y z a13 l) := by
  rw [dhcp_Valid.j0, if_neg Bool.false_ne_true, ipv4_f x hx, Option.bind_some]
  by_cases hx' : okA x
  case neg => rw [decide_eq_false hx', if_neg Bool.false_ne_true, vhd_false (fun h => hx' h.2.2.2.2.1)]
  rw [decide_eq_true hx', if_pos rfl, ipv4_f y hy, Option.bind_some]
  by_cases hy' : okA y
  case neg => rw [decide_eq_false hy', if_neg Bool.false_ne_true, vhd_false (fun h => hy' h.2.2.2.2.2.1)]
  rw [decide_eq_true hy', if_pos rfl, ipv4_f z hz, Option.bind_some]
  by_cases hz' : okA z
  case neg => rw [decide_eq_false hz', if_neg Bool.false_ne_true, vhd_false (fun h => hz' h.2.2.2.2.2.2.1)]
  rw [decide_eq_true hz', if_pos rfl, ne_zeroA z, valid_f l hl k hk]
  by_cases h13 : a13 = true
  · rw [if_pos h13]
    rw [vhd_true ⟨h0, h1, h2, hc, hx', hy', hz', .inl h13⟩]
    rfl
  · rw [if_neg h13]
    by_cases hz0 : zeroA z
    · rw [decide_eq_true hz0, Bool.not_true, if_neg Bool.false_ne_true]
      rw [vhd_true ⟨h0, h1, h2, hc, hx', hy', hz', .inr hz0⟩]
      rfl
    · rw [decide_eq_false hz0, Bool.not_false, if_pos rfl, vhd_false (fun h => h.2.2.2.2.2.2.2.elim h13 hz0)]
theorem dj_true (k : Nat) (a0 a1 a2 : Int) (a3 : ByteArray) (b4 : Bool) (a5 a6 : Int) (b7 : Bool) (a8 a9 : Int) (b10 : Bool) (a11 a12 : Int) (a13 : Bool) (l : List S61) :
    dhcp_Valid.j0 (k + 1) true a0 a1 a2 a3 b4 a5 a6 b7 a8 a9 b10 a11 a12 a13 l = some false := by rw [dhcp_Valid.j0, if_pos rfl]
theorem dvalid_f (a0 a1 a2 : Int) (a3 : ByteArray) (x y z : S24) (a13 : Bool) (l : List S61) (hx : 0 ≤ x.f2) (hy : 0 ≤ y.f2) (hz : 0 ≤ z.f2) (hl : ∀ o ∈ l, o.f1.size ≤ 140737488351232) (k : Nat) (hk : 200 < k) :
    dhcp_Valid.f k a0 a1 a2 a3 x.f0 x.f1 x.f2 y.f0 y.f1 y.f2 z.f0 z.f1 z.f2 a13 l = some (vpk a0 a1 a2 a3 x y z a13 l) := by
  obtain ⟨k, rfl⟩ : ∃ q, k = q + 1 := ⟨k - 1, by omega⟩
  unfold dhcp_Valid.f
  rw [operation_f a0 (k + 1) (by omega), Option.bind_some, (client_f a3 (k + 1) (by omega)).1, Option.bind_some]
  by_cases h0 : 1 ≤ a0 ∧ a0 ≤ 8
  case neg => rw [if_pos ((opr_zero a0).2 h0), dj_true k, vhd_false (fun h => h0 h.1)]
  rw [if_neg (fun e => (opr_zero a0).1 e h0)]
  by_cases h1 : a1 < 0
  · rw [if_pos h1, dj_true k, vhd_false (fun h => by have := h.2.1; omega)]
  rw [if_neg h1]
  by_cases h2 : a1 ≥ 4294967296
  · rw [if_pos h2, dj_true k, vhd_false (fun h => by have := h.2.1; omega)]
  rw [if_neg h2]
  by_cases h3 : a2 < 0
  · rw [if_pos h3, dj_true k, vhd_false (fun h => by have := h.2.2.1; omega)]
  rw [if_neg h3]
  by_cases h4 : a2 ≥ 65536
  · rw [if_pos (by omega), dj_true k, vhd_false (fun h => by have := h.2.2.1; omega)]
  rw [if_neg (by omega)]
  by_cases hc : cli a3 = true
  · rw [hc]; exact dtail a0 a1 a2 a3 x y z a13 l hx hy hz hl k (by omega) h0 (by omega) (by omega) hc
  · rw [Bool.not_eq_true] at hc
    rw [hc, Bool.not_false, dj_true k, vhd_false (fun h => by rw [hc] at h; cases h.2.2.2.1)]
theorem vpk_parts {a0 a1 a2 : Int} {a3 : ByteArray} {x y z : S24} {a13 : Bool} {l : List S61} (h : vpk a0 a1 a2 a3 x y z a13 l = true) :
    ((1 ≤ a0 ∧ a0 ≤ 8) ∧ (0 ≤ a1 ∧ a1 < 4294967296) ∧ (0 ≤ a2 ∧ a2 < 65536) ∧ cli a3 = true ∧ okA x ∧ okA y ∧ okA z ∧ (a13 = true ∨ zeroA z)) ∧ vld (ab l) := by
  unfold vpk vhd at h
  rw [Bool.and_eq_true] at h
  exact ⟨of_decide_eq_true h.1, of_decide_eq_true h.2⟩
end Go.Proofs.YtcoekgnbncocnaaDoor.PK


namespace Go.Proofs.YtcoekgnbncocnaaDoor.OPT
open Go Go.RowKit Go.Proofs.YtcoekgnbncocnaaDoorW.PrintWords Go.Proofs.YtcoekgnbncocnaaDoor.DN Go.Proofs.YtcoekgnbncocnaaDoor.Pa
set_option linter.unusedVariables false
set_option linter.unusedSimpArgs false

theorem fnd_split {a : List S61} {x : S61} {b : List S61} {c : Int} (h1 : ∀ y ∈ a, y.f0 ≠ c) (h2 : x.f0 = c) : fndA (ab (a ++ x :: b)) c = (x.f1, true) := by
  have : fnd (ab (a ++ x :: b)) c = some (L x.f1) := by
    induction a with
    | nil => rw [List.nil_append, ab_cons, fnd, if_pos (show (o1 x).1 = c from h2)]; rfl
    | cons y a ih => rw [List.cons_append, ab_cons, fnd, if_neg (show ¬ (o1 y).1 = c from h1 y (by simp)), ih (fun z hz => h1 z (by simp [hz]))]
  unfold fndA; rw [this]; simp
theorem fnd_new {l : List S61} {c : Int} (h1 : ∀ y ∈ l, y.f0 ≠ c) : fndA (ab l) c = (⟨#[]⟩, false) := by
  have : fnd (ab l) c = none := by
    induction l with
    | nil => rfl
    | cons y a ih => rw [ab_cons, fnd, if_neg (show ¬ (o1 y).1 = c from h1 y (by simp)), ih (fun z hz => h1 z (by simp [hz]))]
  unfold fndA; rw [this]

theorem rfind_f (l : List S61) (c : Int) (hl : l.length ≤ 5864062014800) (k : Nat) (hk : l.length < k) : ddiref35_Find.f k l c = some (fndA (ab l) c) := by
  unfold ddiref35_Find.f
  rw [index_f l c (by omega) k hk, Option.bind_some]
  rcases idx_cases l c 0 with ⟨h1, h2⟩ | ⟨a, x, b, h1, h2, h3, h4⟩
  · rw [h2, if_pos (by decide), fnd_new h1]
  · rw [h4, if_neg (by omega), if_pos (by omega), Nat.zero_add]
    subst h1
    rw [if_pos (by simp; omega), rd_split, fnd_split h3 h2]
end Go.Proofs.YtcoekgnbncocnaaDoor.OPT


namespace Go.Proofs.YtcoekgnbncocnaaDoor.PK
open Go Go.RowKit Go.Proofs.YtcoekgnbncocnaaDoorW.PrintWords Go.Proofs.YtcoekgnbncocnaaDoorW.PrintLast Go.Proofs.YtcoekgnbncocnaaDoorW.PrintMore Go.Proofs.YtcoekgnbncocnaaDoor.DN Go.Proofs.YtcoekgnbncocnaaDoor.OPT Go.Proofs.YtcoekgnbncocnaaDoor.ADR Go.Proofs.YtcoekgnbncocnaaDoor.Pa
set_option linter.unusedVariables false
set_option linter.unusedSimpArgs false

def numP (s : ByteArray) : Int × Bool := if s.size = 1 ∨ s.size = 2 ∨ s.size = 4 then (((foldN (L s) 0 : Nat) : Int), true) else (0, false)
theorem foldN_lt : ∀ (l : List UInt8) (n : Nat), foldN l n < (n + 1) * 256 ^ l.length
  | [], n => by simp [foldN]
  | c :: l, n => by
    have h := foldN_lt l (n * 256 + c.toNat)
    have hc := c.toNat_lt
    show foldN l (n * 256 + c.toNat) < _
    rw [List.length_cons, Nat.pow_succ]
    refine Nat.lt_of_lt_of_le h ?_
    rw [Nat.mul_comm (256 ^ l.length) 256, ← Nat.mul_assoc]
    exact Nat.mul_le_mul_right _ (by omega)
theorem numP_range (s : ByteArray) : 0 ≤ (numP s).1 ∧ (numP s).1 < 4294967296 := by
  unfold numP
  split
  · rename_i h
    have := foldN_lt (L s) 0
    rw [L_len, Nat.zero_add, Nat.one_mul] at this
    have h2 : (256 : Nat) ^ s.size ≤ 4294967296 := by rcases h with h | h | h <;> rw [h] <;> decide
    dsimp only; omega
  · decide
theorem num_f (s : ByteArray) (k : Nat) (hk : 100 < k) : option_Number.f k s = some (numP s) ∧ ddiref35_Number.f k s = some (numP s) := by
  obtain ⟨k, rfl⟩ : ∃ q, k = q + 1 := ⟨k - 1, by omega⟩
  unfold numP
  by_cases h : s.size = 1 ∨ s.size = 2 ∨ s.size = 4
  · rw [if_pos h]
    have hp : (0 + 1) * 256 ^ (s.size - 0) ≤ 4294967296 := by rcases h with h | h | h <;> rw [h] <;> decide
    have h0 : (1 : Nat) ≤ s.size ∧ s.size ≤ 4 := by omega
    have a := num_l s h0.2 s.size (k + 1) 0 0 (by omega) (by omega) (by omega) hp
    have b := num_l s h0.2 s.size k 0 0 (by omega) (by omega) (by omega) hp
    refine ⟨?_, ?_⟩
    · unfold option_Number.f
      rw [isSize_f, Option.bind_some, if_pos (decide_eq_true (by omega))]
      exact a.1
    · unfold ddiref35_Number.f
      rcases h with h | h | h
      · rw [if_pos (by omega), ddiref35_Number.j0, if_neg (by decide)]; exact b.2
      · rw [if_neg (by omega), if_pos (by omega), ddiref35_Number.j0, if_neg (by decide)]; exact b.2
      · rw [if_neg (by omega), if_neg (by omega), ddiref35_Number.j0, if_neg (by rw [h]; decide)]; exact b.2
  · rw [if_neg h]
    refine ⟨?_, ?_⟩
    · unfold option_Number.f
      rw [isSize_f, Option.bind_some, if_neg (by rw [decide_eq_false (by omega)]; decide)]
    · unfold ddiref35_Number.f
      rw [if_neg (by omega), if_neg (by omega), ddiref35_Number.j0, if_pos (by simp; omega)]
theorem and7 (n : Int) (h0 : -9223372036854775808 ≤ n) (h1 : n ≤ 9223372036854775807) : Go.bits .and .i64 n 7 = n % 8 := by
  have h2 : (BitVec.ofInt 64 (7 : Int)).toNat = 7 := by decide
  have h3 : (BitVec.ofInt 64 n).toNat = (n % 18446744073709551616).toNat := by rw [BitVec.toNat_ofInt]; rfl
  show IntKind.i64.wrap ((BitVec.ofInt 64 n &&& BitVec.ofInt 64 (7 : Int)).toNat : Int) = _
  rw [BitVec.toNat_and, h2, h3, show (7 : Nat) = 2 ^ 3 - 1 from rfl, Nat.and_two_pow_sub_one_eq_mod, i64_w, wrap_id (by omega) (by omega)]
  omega
theorem most_f (n : Int) (h0 : -9223372036854775808 ≤ n) (h1 : n ≤ 9223372036854775807) : dhcp_most.f n = some (n * 7 / 8) := by
  unfold dhcp_most.f
  rw [and7 n h0 h1, wrap_id (x := n / 8 * 7) (by omega) (by omega), wrap_id (x := n % 8 * 7) (by omega) (by omega), wrap_id (by omega) (by omega)]
  congr 1; omega
theorem half_f (n : Int) : dhcp_half.f n = some (n / 2) := rfl

def timeP (l : List S61) (c o : Int) : Int × Bool := if (fndA (ab l) c).2 = true then numP (fndA (ab l) c).1 else (o, true)
theorem span_f (a0 a1 a2 : Int) (a3 : ByteArray) (a4 : Bool) (a5 a6 : Int) (a7 : Bool) (a8 a9 : Int) (a10 : Bool) (a11 a12 : Int) (a13 : Bool) (l : List S61) (c o : Int) (hl : l.length ≤ 5864062014800) (k : Nat) (hk : 100 < k) (hk2 : l.length < k) :
    dhcp_span.f k a0 a1 a2 a3 a4 a5 a6 a7 a8 a9 a10 a11 a12 a13 l c o = some (timeP l c o) := by
  unfold dhcp_span.f timeP
  rw [find_f l c hl k hk2, Option.bind_some]
  by_cases h : (fndA (ab l) c).2 = true
  · rw [if_pos h, if_pos h, (num_f _ k hk).1]; rfl
  · rw [if_neg h, if_neg h]
def leaseT (n : Int) (t1 t2 : Int × Bool) : Int × Int × Int × Bool :=
  if t1.2 = true then (if t2.2 = true then (if t2.1 < t1.1 then (0, 0, 0, false) else if n < t2.1 then (0, 0, 0, false) else (n, t1.1, t2.1, true)) else (0, 0, 0, false)) else (0, 0, 0, false)
def leaseP (l : List S61) : Int × Int × Int × Bool :=
  if (fndA (ab l) 51).2 = true then (if (numP (fndA (ab l) 51).1).2 = true then leaseT (numP (fndA (ab l) 51).1).1 (timeP l 58 ((numP (fndA (ab l) 51).1).1 / 2)) (timeP l 59 ((numP (fndA (ab l) 51).1).1 * 7 / 8)) else (0, 0, 0, false)) else (0, 0, 0, false)
theorem lease_end (n : Int) (t1 t2 : Int × Bool) : (if t1.2 = true then (if t2.2 = true then (if t1.1 > t2.1 then some ((0 : Int), (0 : Int), (0 : Int), false) else (if t2.1 > n then some (0, 0, 0, false) else some (n, t1.1, t2.1, true))) else some (0, 0, 0, false)) else some (0, 0, 0, false)) = some (leaseT n t1 t2) := by
  unfold leaseT
  by_cases h3 : t1.2 = true
  case neg => rw [if_neg h3, if_neg h3]
  rw [if_pos h3, if_pos h3]
  by_cases h4 : t2.2 = true
  case neg => rw [if_neg h4, if_neg h4]
  rw [if_pos h4, if_pos h4]
  by_cases h5 : t2.1 < t1.1
  · rw [if_pos h5, if_pos h5]
  rw [if_neg h5, if_neg h5]
  by_cases h6 : n < t2.1
  · rw [if_pos h6, if_pos h6]
  rw [if_neg h6, if_neg h6]
theorem lease_f (a0 a1 a2 : Int) (a3 : ByteArray) (a4 : Bool) (a5 a6 : Int) (a7 : Bool) (a8 a9 : Int) (a10 : Bool) (a11 a12 : Int) (a13 : Bool) (l : List S61) (hl : l.length ≤ 5864062014800) (k : Nat) (hk : 100 < k) (hk2 : l.length < k) :
    dhcp_Lease.f k a0 a1 a2 a3 a4 a5 a6 a7 a8 a9 a10 a11 a12 a13 l = some (leaseP l) := by
  unfold dhcp_Lease.f leaseP
  rw [find_f l 51 hl k hk2, Option.bind_some]
  by_cases h : (fndA (ab l) 51).2 = true
  case neg => rw [if_neg h, if_neg h]
  rw [if_pos h, if_pos h, (num_f _ k hk).1, Option.bind_some]
  by_cases h2 : (numP (fndA (ab l) 51).1).2 = true
  case neg => rw [if_neg h2, if_neg h2]
  have hr := numP_range (fndA (ab l) 51).1
  rw [if_pos h2, if_pos h2, half_f, Option.bind_some, span_f _ _ _ _ _ _ _ _ _ _ _ _ _ _ l 58 _ hl k hk hk2, Option.bind_some, most_f _ (by omega) (by omega), Option.bind_some, span_f _ _ _ _ _ _ _ _ _ _ _ _ _ _ l 59 _ hl k hk hk2, Option.bind_some]
  exact lease_end _ _ _
def adrsP (s : ByteArray) : List S24 × Bool := if s.size = 0 ∨ s.size % 4 ≠ 0 then ([], false) else (adrs (L s), true)
def wantedP (l : List S61) (x : S24) : Bool × Int × Int × Bool :=
  let r := adrsP (fndA (ab l) 50).1
  if (fndA (ab l) 50).2 = true ∧ r.2 = true ∧ r.1.length = 1 then ((rd_T24 r.1 0).f0, (rd_T24 r.1 0).f1, (rd_T24 r.1 0).f2, true) else if zeroA x then (false, 0, 0, false) else (x.f0, x.f1, x.f2, true)
theorem fndA_size {l : List S61} {c : Int} {M : Nat} (h : ∀ o ∈ l, o.f1.size ≤ M) : (fndA (ab l) c).1.size ≤ M := by
  unfold fndA
  induction l with
  | nil => exact Nat.zero_le _
  | cons o l ih =>
    rw [ab_cons, fnd]
    by_cases hc : (o1 o).1 = c
    · rw [if_pos hc]
      show (B (L o.f1)).size ≤ M
      rw [B_L]; exact h o (List.mem_cons_self ..)
    · rw [if_neg hc]; exact ih (fun o ho => h o (List.mem_cons_of_mem _ ho))
theorem zero_tuple (x : S24) (h : zeroA x) : (x.f0, x.f1, x.f2, !decide (zeroA x)) = (false, 0, 0, false) := by
  rw [decide_eq_true h, h.1, h.2.1, h.2.2]; rfl
theorem wanted_f (a0 a1 a2 : Int) (a3 : ByteArray) (x : S24) (a7 : Bool) (a8 a9 : Int) (a10 : Bool) (a11 a12 : Int) (a13 : Bool) (l : List S61) (hl : l.length ≤ 5864062014800) (hz : ∀ o ∈ l, o.f1.size ≤ 2000) (k : Nat) (hk : 3000 < k) (hk2 : l.length < k) :
    dhcp_Wanted.f k a0 a1 a2 a3 x.f0 x.f1 x.f2 a7 a8 a9 a10 a11 a12 a13 l = some (wantedP l x) := by
  have hs := fndA_size (c := 50) hz
  have hcur : (if zeroA x then (false, (0 : Int), (0 : Int), false) else (x.f0, x.f1, x.f2, true)) = (x.f0, x.f1, x.f2, !decide (zeroA x)) := by
    by_cases h : zeroA x
    · rw [if_pos h, zero_tuple x h]
    · rw [if_neg h, decide_eq_false h]; rfl
  unfold dhcp_Wanted.f wantedP
  dsimp only
  rw [find_f l 50 hl k hk2, Option.bind_some, ne_zeroA x, hcur, addrs_f _ (by omega) k (by omega), Option.bind_some, show (if (fndA (ab l) 50).1.size = 0 ∨ (fndA (ab l) 50).1.size % 4 ≠ 0 then (([] : List S24), false) else (adrs (L (fndA (ab l) 50).1), true)) = adrsP (fndA (ab l) 50).1 from rfl]
  generalize adrsP (fndA (ab l) 50).1 = r
  by_cases h : (fndA (ab l) 50).2 = true
  case neg => rw [if_neg h, if_neg (fun e => h e.1)]
  rw [if_pos h]
  by_cases h2 : r.2 = true
  case neg => rw [if_neg h2, if_neg (fun e => h2 e.2.1)]
  rw [if_pos h2]
  by_cases h3 : r.1.length = 1
  · rw [if_pos (by omega), if_pos (by omega), if_pos ⟨h, h2, h3⟩]
  · rw [if_neg (by omega), if_neg (fun e => h3 e.2.2)]
def replyO (l : List S61) : List S61 := if (fndA (ab l) 82).2 = true then [⟨82, (fndA (ab l) 82).1⟩] else []
theorem reply_f (a0 a1 a2 : Int) (a3 : ByteArray) (a4 : Bool) (a5 a6 : Int) (a7 : Bool) (a8 a9 : Int) (a10 : Bool) (a11 a12 : Int) (a13 : Bool) (l : List S61) (b1 b2 : Int) (hl : l.length ≤ 5864062014800) (k : Nat) (hk : l.length < k) :
    dhcp_Reply.f k a0 a1 a2 a3 a4 a5 a6 a7 a8 a9 a10 a11 a12 a13 l b1 b2 = some (b1, a1, b2, a3, false, 0, 0, false, 0, 0, a10, a11, a12, a13, replyO l)
    ∧ ddiref36_Reply.f k a0 a1 a2 a3 a4 a5 a6 a7 a8 a9 a10 a11 a12 a13 l b1 b2 = some (b1, a1, b2, a3, false, 0, 0, false, 0, 0, a10, a11, a12, a13, replyO l) := by
  unfold dhcp_Reply.f ddiref36_Reply.f replyO
  rw [find_f l 82 hl k hk, rfind_f l 82 hl k hk, Option.bind_some]
  by_cases h : (fndA (ab l) 82).2 = true
  · simp only [if_pos h, and_self]
  · simp only [if_neg h, and_self]
end Go.Proofs.YtcoekgnbncocnaaDoor.PK


namespace Go.Proofs.YtcoekgnbncocnaaDoor.PK
open Go Go.RowKit Go.Proofs.YtcoekgnbncocnaaDoorW.PrintWords Go.Proofs.YtcoekgnbncocnaaDoorW.PrintLast Go.Proofs.YtcoekgnbncocnaaDoorW.PrintMore Go.Proofs.YtcoekgnbncocnaaDoor.DN Go.Proofs.YtcoekgnbncocnaaDoor.OPT Go.Proofs.YtcoekgnbncocnaaDoor.ADR Go.Proofs.YtcoekgnbncocnaaDoor.Pa
set_option linter.unusedVariables false
set_option linter.unusedSimpArgs false

def cutO (x : S61) : S61 := ⟨x.f0, x.f1.extract 0 (min x.f1.size 1100)⟩
def shl (l : List S61) : List S61 := (l.take 40).map cutO
theorem mn_nat (a b : Nat) : mn (a : Int) (b : Int) = ((min a b : Nat) : Int) := by unfold mn; split <;> omega
theorem mn_1100 (a : Nat) : mn (a : Int) 1100 = ((min a 1100 : Nat) : Int) := mn_nat a 1100
theorem mn_100 (a : Nat) : mn (a : Int) 100 = ((min a 100 : Nat) : Int) := mn_nat a 100
theorem cutO_size (x : S61) : (cutO x).f1.size ≤ 1100 := by
  unfold cutO; simp only [ByteArray.size_extract]; omega
theorem opts_l (l : List S61) (hl : l.length ≤ 5864062014805) : ∀ (n k i : Nat), 40 - i ≤ n → n < k → i ≤ 40 → i ≤ l.length →
    ddiref36_options.l0 k l ((l.take i).map cutO) (i : Int) = some (shl l) := by
  intro n
  induction n with
  | zero =>
    intro k i hn hk hi hil
    obtain ⟨k, rfl⟩ : ∃ q, k = q + 1 := ⟨k - 1, by omega⟩
    obtain rfl : i = 40 := by omega
    rw [ddiref36_options.l0]
    by_cases h : 40 < l.length
    · rw [if_pos (by omega), if_neg (by omega)]; rfl
    · rw [if_neg (by omega)]; rfl
  | succ n ih =>
    intro k i hn hk hi hil
    obtain ⟨k, rfl⟩ : ∃ q, k = q + 1 := ⟨k - 1, by omega⟩
    rw [ddiref36_options.l0]
    by_cases h1 : i < l.length
    · rw [if_pos (by omega)]
      by_cases h2 : i < 40
      · have h3 : ((l.take i).map cutO).length ≤ 40 := by rw [List.length_map, List.length_take]; omega
        rw [if_pos (by omega), if_pos (by omega), rd_at h1, mn_1100, if_pos (by omega), if_pos (by omega), if_pos (by omega), Int.toNat_natCast, wsucc (by omega)]
        have h4 : (l.take (i + 1)).map cutO = (l.take i).map cutO ++ [(⟨l[i].f0, l[i].f1.extract 0 (min l[i].f1.size 1100)⟩ : S61)] := by
          rw [List.take_succ_eq_append_getElem h1, List.map_append]; rfl
        rw [← h4]
        exact ih k (i + 1) (by omega) (by omega) (by omega) (by omega)
      · rw [if_neg (by omega)]
        obtain rfl : i = 40 := by omega
        rfl
    · rw [if_neg (by omega)]
      obtain rfl : i = l.length := by omega
      unfold shl
      rw [List.take_length, List.take_of_length_le hi]
theorem opts_f (l : List S61) (hl : l.length ≤ 5864062014805) (k : Nat) (hk : 100 < k) : ddiref36_options.f k l = some (shl l) := by
  have := opts_l l hl 40 k 0 (by omega) (by omega) (by omega) (by omega)
  simpa [ddiref36_options.f] using this
theorem short_f (a0 a1 a2 : Int) (a3 : ByteArray) (a4 : Bool) (a5 a6 : Int) (a7 : Bool) (a8 a9 : Int) (a10 : Bool) (a11 a12 : Int) (a13 : Bool) (l : List S61) (hl : l.length ≤ 5864062014805) (k : Nat) (hk : 100 < k) :
    ddiref36_Short.f k a0 a1 a2 a3 a4 a5 a6 a7 a8 a9 a10 a11 a12 a13 l = some (a0, a1, a2, a3.extract 0 (min a3.size 100), a4, a5, a6, a7, a8, a9, a10, a11, a12, a13, shl l) := by
  unfold ddiref36_Short.f
  rw [mn_100, if_pos (by omega), if_pos (by omega), opts_f l hl k hk, Option.bind_some, Int.toNat_natCast]
theorem shl_length (l : List S61) : (shl l).length ≤ 40 := by unfold shl; rw [List.length_map, List.length_take]; omega
theorem shl_size (l : List S61) : ∀ x ∈ shl l, x.f1.size ≤ 1100 := by
  intro x hx
  obtain ⟨y, _, rfl⟩ := List.mem_map.1 hx
  exact cutO_size y
theorem cut_size (s : ByteArray) : (s.extract 0 (min s.size 100)).size ≤ 100 := by rw [ByteArray.size_extract]; omega

end Go.Proofs.YtcoekgnbncocnaaDoor.PK


namespace Go.Proofs.YtcoekgnbncocnaaDoor.PK
open Go Go.RowKit Go.Proofs.YtcoekgnbncocnaaDoorW.PrintWords Go.Proofs.YtcoekgnbncocnaaDoorW.PrintLast Go.Proofs.YtcoekgnbncocnaaDoorW.PrintMore Go.Proofs.YtcoekgnbncocnaaDoor.DN Go.Proofs.YtcoekgnbncocnaaDoor.OPT Go.Proofs.YtcoekgnbncocnaaDoor.ADR Go.Proofs.YtcoekgnbncocnaaDoor.Pa
set_option linter.unusedVariables false
set_option linter.unusedSimpArgs false
theorem awake36_f (k : Nat) (hk : 100 ≤ k) : ddilaw36_awake.f k = some true := by
  refine up (fun k => ddilaw36_awake.mono k) hk ?_
  kernel_rfl
theorem wf_u64 {n : Int} (h : (Lit.int .u64 n).wf = true) : 0 ≤ n ∧ n ≤ 18446744073709551615 := by
  have e1 : IntKind.u64.min = 0 := rfl
  have e2 : IntKind.u64.max = 18446744073709551615 := rfl
  simp [Lit.wf, e1, e2] at h
  exact h
theorem wf_u8 {n : Int} (h : (Lit.int .u8 n).wf = true) : 0 ≤ n ∧ n ≤ 255 := by
  have e1 : IntKind.u8.min = 0 := rfl
  have e2 : IntKind.u8.max = 255 := rfl
  simp [Lit.wf, e1, e2] at h
  exact h
theorem wf_u16 {n : Int} (h : (Lit.int .u16 n).wf = true) : 0 ≤ n ∧ n ≤ 65535 := by
  have e1 : IntKind.u16.min = 0 := rfl
  have e2 : IntKind.u16.max = 65535 := rfl
  simp [Lit.wf, e1, e2] at h
  exact h
end Go.Proofs.YtcoekgnbncocnaaDoor.PK


namespace Go.Proofs.YtcoekgnbncocnaaDoor.Pure
open Go Go.RowKit Go.Proofs.YtcoekgnbncocnaaDoorW.PrintWords Go.Proofs.YtcoekgnbncocnaaDoorW.PrintLast Go.Proofs.YtcoekgnbncocnaaDoorW.PrintMore Go.Proofs.YtcoekgnbncocnaaDoor.DN Go.Proofs.YtcoekgnbncocnaaDoor.OPT Go.Proofs.YtcoekgnbncocnaaDoor.ADR Go.Proofs.YtcoekgnbncocnaaDoor.PK Go.Proofs.YtcoekgnbncocnaaDoor.Pa
set_option linter.unusedVariables false
set_option linter.unusedSimpArgs false
theorem fnd_reply (l : List S61) (c : Int) (h : c ≠ 82) : fndA (ab (replyO l)) c = (⟨#[]⟩, false) := by
  unfold replyO
  split
  · unfold fndA ab
    simp [fnd, o1, Ne.symm h]
  · rfl
theorem fnd_reply82 (l : List S61) : fndA (ab (replyO l)) 82 = fndA (ab l) 82 := by
  unfold replyO
  by_cases h : (fndA (ab l) 82).2 = true
  · rw [if_pos h]
    generalize hr : fndA (ab l) 82 = r at h
    obtain ⟨v, b⟩ := r
    dsimp only at h
    subst h
    show (B (L v), true) = _
    rw [B_L]
  · rw [if_neg h]
    rw [fndA_some] at h
    unfold fndA
    cases hf : fnd (ab l) 82 with
    | none => rfl
    | some v => rw [hf] at h; exact absurd rfl h
theorem vld_reply {l : List S61} (h : vld (ab l)) : vld (ab (replyO l)) := by
  unfold replyO
  split
  · rename_i h2
    have hm : (82 : Int) ∈ (ab l).map (·.1) := by rw [← fnd_some_iff, ← fndA_some]; exact h2
    have hv : ∃ o ∈ ab l, L (fndA (ab l) 82).1 = o.2 := by
      unfold fndA
      have : ∀ m : List O, (fnd m 82).isSome = true → ∃ o ∈ m, fnd m 82 = some o.2 := by
        intro m
        induction m with
        | nil => intro h; cases h
        | cons o m ih =>
          intro h
          rw [fnd] at h ⊢
          by_cases hc : o.1 = 82
          · rw [if_pos hc]; exact ⟨o, List.mem_cons_self .., rfl⟩
          · rw [if_neg hc] at h ⊢
            obtain ⟨o', ho', e⟩ := ih h
            exact ⟨o', List.mem_cons_of_mem _ ho', e⟩
      obtain ⟨o, ho, e⟩ := this (ab l) ((fnd_some_iff _ _).2 hm)
      exact ⟨o, ho, by rw [e]; rfl⟩
    obtain ⟨o, ho, e⟩ := hv
    have h3 := h.1.2.2 o ho
    have h4 : sz (ab [(⟨82, (fndA (ab l) 82).1⟩ : S61)]) = (L (fndA (ab l) 82).1).length := by simp [ab, sz, o1]
    refine ⟨⟨by simp [ab], by rw [h4, e]; omega, ?_⟩, by simp [ab], ?_⟩
    · intro o' ho'
      have : o' = (82, L (fndA (ab l) 82).1) := by simpa [ab, o1] using ho'
      rw [this, e]; exact h3
    · intro o' ho'
      have : o' = (82, L (fndA (ab l) 82).1) := by simpa [ab, o1] using ho'
      rw [this]; show (1 : Int) ≤ 82 ∧ (82 : Int) ≤ 254; decide
  · exact vld_nil
theorem DhcpAnswers_a : ∀ (a0_0 : Int) (a0_1 : Int) (a0_2 : Int) (a0_3 : ByteArray) (a0_4 : Bool) (a0_5 : Int) (a0_6 : Int) (a0_7 : Bool) (a0_8 : Int) (a0_9 : Int) (a0_10 : Bool) (a0_11 : Int) (a0_12 : Int) (a0_13 : Bool) (l0_14 : List S61) (a1 : Int) (a2 : Int), (Lit.int .i64 a0_0).wf = true → (Lit.int .i64 a0_1).wf = true → (Lit.int .i64 a0_2).wf = true → a0_3.size ≤ 140737488351232 → (Lit.int .u64 a0_5).wf = true → (Lit.int .u64 a0_6).wf = true → (Lit.int .u64 a0_8).wf = true → (Lit.int .u64 a0_9).wf = true → (Lit.int .u64 a0_11).wf = true → (Lit.int .u64 a0_12).wf = true → l0_14.length * 24 ≤ 140737488351232 → (∀ y ∈ l0_14, Wf61 y) → (Lit.int .u8 a1).wf = true → (Lit.int .u16 a2).wf = true → ddilaw36_DhcpAnswers_a.f 200000 a0_0 a0_1 a0_2 a0_3 a0_4 a0_5 a0_6 a0_7 a0_8 a0_9 a0_10 a0_11 a0_12 a0_13 l0_14 a1 a2 = if vpk a0_0 a0_1 a0_2 (a0_3.extract 0 (min a0_3.size 100)) ⟨a0_4, a0_5, a0_6⟩ ⟨a0_7, a0_8, a0_9⟩ ⟨a0_10, a0_11, a0_12⟩ a0_13 (shl l0_14) = true then some true else none := by
  intro a0_0 a0_1 a0_2 a0_3 a0_4 a0_5 a0_6 a0_7 a0_8 a0_9 a0_10 a0_11 a0_12 a0_13 l0_14 a1 a2 w0 w1 w2 w3 w5 w6 w8 w9 w11 w12 hl hwf v0 v1
  have hx := (wf_u64 w6).1
  have hy := (wf_u64 w9).1
  have hz := (wf_u64 w12).1
  obtain ⟨a3, h3⟩ : ∃ a3, a3 = a0_3.extract 0 (min a0_3.size 100) := ⟨_, rfl⟩
  rw [← h3]
  have hs3 : a3.size ≤ 100 := by rw [h3]; exact cut_size a0_3
  have hs := short_f a0_0 a0_1 a0_2 a0_3 a0_4 a0_5 a0_6 a0_7 a0_8 a0_9 a0_10 a0_11 a0_12 a0_13 l0_14 (by omega) 200000 (by omega)
  rw [← h3] at hs
  have hl1 := shl_length l0_14
  have hl2 := shl_size l0_14
  generalize shl l0_14 = l at hs hl1 hl2 ⊢
  have b1 := wf_u8 v0
  have b2 := wf_u16 v1
  have hl4 : ∀ o ∈ l, o.f1.size ≤ 2000 := fun o ho => by have := hl2 o ho; omega
  have hl3 : ∀ o ∈ l, o.f1.size ≤ 140737488351232 := fun o ho => by have := hl2 o ho; omega
  unfold ddilaw36_DhcpAnswers_a.f
  rw [hs, Option.bind_some]
  dsimp only
  have hk1 : wrap64 (wrap64 (Int.tmod a1 8) + 1) = a1 % 8 + 1 := by
    rw [Int.tmod_eq_emod_of_nonneg b1.1, wrap_id (x := a1 % 8) (by omega) (by omega), wrap_id (by omega) (by omega)]
  have hk2 : wrap64 a2 = a2 := wrap_id (by omega) (by omega)
  rw [hk1, hk2]
  have e5 := reply_f a0_0 a0_1 a0_2 a3 a0_4 a0_5 a0_6 a0_7 a0_8 a0_9 a0_10 a0_11 a0_12 a0_13 l (a1 % 8 + 1) a2 (by omega) 200000 (by omega)
  rw [e5.1, Option.bind_some]
  have hro : (replyO l).length ≤ 1 := by unfold replyO; split <;> simp
  have hrz : ∀ o ∈ replyO l, o.f1.size ≤ 2000 := by
    unfold replyO
    split
    · intro o ho
      rw [List.mem_singleton] at ho
      rw [ho]; exact fndA_size hl4
    · intro o ho; cases ho
  dsimp only
  have e6 := wanted_f (a1 % 8 + 1) a0_1 a2 a3 ⟨false, 0, 0⟩ false 0 0 a0_10 a0_11 a0_12 a0_13 (replyO l) (by omega) hrz 200000 (by omega) (by omega)
  have e7 := lease_f (a1 % 8 + 1) a0_1 a2 a3 false 0 0 false 0 0 a0_10 a0_11 a0_12 a0_13 (replyO l) (by omega) 200000 (by omega) (by omega)
  have hw : wantedP (replyO l) ⟨false, 0, 0⟩ = (false, 0, 0, false) := by
    unfold wantedP
    rw [fnd_reply l 50 (by decide)]
    rw [if_neg (fun h => by cases h.1), if_pos ⟨rfl, rfl, rfl⟩]
  have hle : leaseP (replyO l) = (0, 0, 0, false) := by
    unfold leaseP
    rw [fnd_reply l 51 (by decide)]
    rfl
  dsimp only at e6
  rw [hw] at e6
  rw [hle] at e7
  rw [find_f (replyO l) 82 (by omega) 200000 (by omega), Option.bind_some, find_f l 82 (by omega) 200000 (by omega), Option.bind_some, e6, Option.bind_some, e7, Option.bind_some, fnd_reply82]
  have e8 := dvalid_f a0_0 a0_1 a0_2 a3 ⟨a0_4, a0_5, a0_6⟩ ⟨a0_7, a0_8, a0_9⟩ ⟨a0_10, a0_11, a0_12⟩ a0_13 l hx hy hz hl3 200000 (by omega)
  have e9 := dvalid_f (a1 % 8 + 1) a0_1 a2 a3 ⟨false, 0, 0⟩ ⟨false, 0, 0⟩ ⟨a0_10, a0_11, a0_12⟩ a0_13 (replyO l) (Int.le_refl 0) (Int.le_refl 0) hz (fun o ho => by have := hrz o ho; omega) 200000 (by omega)
  dsimp only at e8 e9
  dsimp only
  rw [e8, e9]
  simp only [awake36_f 200000 (by omega), BEq.rfl, Bool.not_true, Bool.or_self, bne_self_eq_false, Bool.false_eq_true, if_false, if_true, Option.bind_some]
  rw [if_neg (by omega)]
  by_cases hv : vpk a0_0 a0_1 a0_2 a3 ⟨a0_4, a0_5, a0_6⟩ ⟨a0_7, a0_8, a0_9⟩ ⟨a0_10, a0_11, a0_12⟩ a0_13 l = true
  · rw [if_pos hv, if_pos hv]
    obtain ⟨⟨h0, h1, h2, hc, hx', hy', hz', h13⟩, hvl⟩ := vpk_parts hv
    have : vpk (a1 % 8 + 1) a0_1 a2 a3 ⟨false, 0, 0⟩ ⟨false, 0, 0⟩ ⟨a0_10, a0_11, a0_12⟩ a0_13 (replyO l) = true := by
      rw [vhd_true ⟨by omega, h1, by omega, hc, ⟨rfl, rfl, by decide⟩, ⟨rfl, rfl, by decide⟩, hz', h13⟩]
      exact decide_eq_true (vld_reply hvl)
    rw [if_pos this]
  · rw [if_neg hv, if_neg hv]
theorem DhcpAnswers_b : ∀ (a0_0 : Int) (a0_1 : Int) (a0_2 : Int) (a0_3 : ByteArray) (a0_4 : Bool) (a0_5 : Int) (a0_6 : Int) (a0_7 : Bool) (a0_8 : Int) (a0_9 : Int) (a0_10 : Bool) (a0_11 : Int) (a0_12 : Int) (a0_13 : Bool) (l0_14 : List S61) (a1 : Int) (a2 : Int), (Lit.int .i64 a0_0).wf = true → (Lit.int .i64 a0_1).wf = true → (Lit.int .i64 a0_2).wf = true → a0_3.size ≤ 140737488351232 → (Lit.int .u64 a0_5).wf = true → (Lit.int .u64 a0_6).wf = true → (Lit.int .u64 a0_8).wf = true → (Lit.int .u64 a0_9).wf = true → (Lit.int .u64 a0_11).wf = true → (Lit.int .u64 a0_12).wf = true → l0_14.length * 24 ≤ 140737488351232 → (∀ y ∈ l0_14, Wf61 y) → (Lit.int .u8 a1).wf = true → (Lit.int .u16 a2).wf = true → ddilaw36_DhcpAnswers_b.f 200000 a0_0 a0_1 a0_2 a0_3 a0_4 a0_5 a0_6 a0_7 a0_8 a0_9 a0_10 a0_11 a0_12 a0_13 l0_14 a1 a2 = if vpk a0_0 a0_1 a0_2 (a0_3.extract 0 (min a0_3.size 100)) ⟨a0_4, a0_5, a0_6⟩ ⟨a0_7, a0_8, a0_9⟩ ⟨a0_10, a0_11, a0_12⟩ a0_13 (shl l0_14) = true then none else some true := by
  intro a0_0 a0_1 a0_2 a0_3 a0_4 a0_5 a0_6 a0_7 a0_8 a0_9 a0_10 a0_11 a0_12 a0_13 l0_14 a1 a2 w0 w1 w2 w3 w5 w6 w8 w9 w11 w12 hl hwf v0 v1
  have hx := (wf_u64 w6).1
  have hy := (wf_u64 w9).1
  have hz := (wf_u64 w12).1
  obtain ⟨a3, h3⟩ : ∃ a3, a3 = a0_3.extract 0 (min a0_3.size 100) := ⟨_, rfl⟩
  rw [← h3]
  have hs3 : a3.size ≤ 100 := by rw [h3]; exact cut_size a0_3
  have hs := short_f a0_0 a0_1 a0_2 a0_3 a0_4 a0_5 a0_6 a0_7 a0_8 a0_9 a0_10 a0_11 a0_12 a0_13 l0_14 (by omega) 200000 (by omega)
  rw [← h3] at hs
  have hl1 := shl_length l0_14
  have hl2 := shl_size l0_14
  generalize shl l0_14 = l at hs hl1 hl2 ⊢
  have b1 := wf_u8 v0
  have b2 := wf_u16 v1
  have hl4 : ∀ o ∈ l, o.f1.size ≤ 2000 := fun o ho => by have := hl2 o ho; omega
  have hl3 : ∀ o ∈ l, o.f1.size ≤ 140737488351232 := fun o ho => by have := hl2 o ho; omega
  unfold ddilaw36_DhcpAnswers_b.f
  rw [hs, Option.bind_some]
  dsimp only
  have hk1 : wrap64 (wrap64 (Int.tmod a1 8) + 1) = a1 % 8 + 1 := by
    rw [Int.tmod_eq_emod_of_nonneg b1.1, wrap_id (x := a1 % 8) (by omega) (by omega), wrap_id (by omega) (by omega)]
  have hk2 : wrap64 a2 = a2 := wrap_id (by omega) (by omega)
  rw [hk1, hk2]
  have e5 := reply_f a0_0 a0_1 a0_2 a3 a0_4 a0_5 a0_6 a0_7 a0_8 a0_9 a0_10 a0_11 a0_12 a0_13 l (a1 % 8 + 1) a2 (by omega) 200000 (by omega)
  rw [e5.1, Option.bind_some]
  have hro : (replyO l).length ≤ 1 := by unfold replyO; split <;> simp
  have hrz : ∀ o ∈ replyO l, o.f1.size ≤ 2000 := by
    unfold replyO
    split
    · intro o ho
      rw [List.mem_singleton] at ho
      rw [ho]; exact fndA_size hl4
    · intro o ho; cases ho
  dsimp only
  have e6 := wanted_f (a1 % 8 + 1) a0_1 a2 a3 ⟨false, 0, 0⟩ false 0 0 a0_10 a0_11 a0_12 a0_13 (replyO l) (by omega) hrz 200000 (by omega) (by omega)
  have e7 := lease_f (a1 % 8 + 1) a0_1 a2 a3 false 0 0 false 0 0 a0_10 a0_11 a0_12 a0_13 (replyO l) (by omega) 200000 (by omega) (by omega)
  have hw : wantedP (replyO l) ⟨false, 0, 0⟩ = (false, 0, 0, false) := by
    unfold wantedP
    rw [fnd_reply l 50 (by decide)]
    rw [if_neg (fun h => by cases h.1), if_pos ⟨rfl, rfl, rfl⟩]
  have hle : leaseP (replyO l) = (0, 0, 0, false) := by
    unfold leaseP
    rw [fnd_reply l 51 (by decide)]
    rfl
  dsimp only at e6
  rw [hw] at e6
  rw [hle] at e7
  rw [find_f (replyO l) 82 (by omega) 200000 (by omega), Option.bind_some, find_f l 82 (by omega) 200000 (by omega), Option.bind_some, e6, Option.bind_some, e7, Option.bind_some, fnd_reply82]
  have e8 := dvalid_f a0_0 a0_1 a0_2 a3 ⟨a0_4, a0_5, a0_6⟩ ⟨a0_7, a0_8, a0_9⟩ ⟨a0_10, a0_11, a0_12⟩ a0_13 l hx hy hz hl3 200000 (by omega)
  have e9 := dvalid_f (a1 % 8 + 1) a0_1 a2 a3 ⟨false, 0, 0⟩ ⟨false, 0, 0⟩ ⟨a0_10, a0_11, a0_12⟩ a0_13 (replyO l) (Int.le_refl 0) (Int.le_refl 0) hz (fun o ho => by have := hrz o ho; omega) 200000 (by omega)
  dsimp only at e8 e9
  dsimp only
  rw [e8]
  simp only [awake36_f 200000 (by omega), BEq.rfl, Bool.not_true, Bool.or_self, bne_self_eq_false, Bool.false_eq_true, if_false, if_true, Option.bind_some]
  rw [if_neg (by omega)]
theorem DhcpAnswers : ∀ (a0_0 : Int) (a0_1 : Int) (a0_2 : Int) (a0_3 : ByteArray) (a0_4 : Bool) (a0_5 : Int) (a0_6 : Int) (a0_7 : Bool) (a0_8 : Int) (a0_9 : Int) (a0_10 : Bool) (a0_11 : Int) (a0_12 : Int) (a0_13 : Bool) (l0_14 : List S61) (a1 : Int) (a2 : Int), (Lit.int .i64 a0_0).wf = true → (Lit.int .i64 a0_1).wf = true → (Lit.int .i64 a0_2).wf = true → a0_3.size ≤ 140737488351232 → (Lit.int .u64 a0_5).wf = true → (Lit.int .u64 a0_6).wf = true → (Lit.int .u64 a0_8).wf = true → (Lit.int .u64 a0_9).wf = true → (Lit.int .u64 a0_11).wf = true → (Lit.int .u64 a0_12).wf = true → l0_14.length * 24 ≤ 140737488351232 → (∀ y ∈ l0_14, Wf61 y) → (Lit.int .u8 a1).wf = true → (Lit.int .u16 a2).wf = true → ∃ k, ddilaw36_DhcpAnswers.f k a0_0 a0_1 a0_2 a0_3 a0_4 a0_5 a0_6 a0_7 a0_8 a0_9 a0_10 a0_11 a0_12 a0_13 l0_14 a1 a2 = some true := by
  intro a0_0 a0_1 a0_2 a0_3 a0_4 a0_5 a0_6 a0_7 a0_8 a0_9 a0_10 a0_11 a0_12 a0_13 l0_14 a1 a2 w0 w1 w2 w3 w5 w6 w8 w9 w11 w12 hl hwf v0 v1
  refine ⟨200000, ?_⟩
  unfold ddilaw36_DhcpAnswers.f
  rw [DhcpAnswers_a a0_0 a0_1 a0_2 a0_3 a0_4 a0_5 a0_6 a0_7 a0_8 a0_9 a0_10 a0_11 a0_12 a0_13 l0_14 a1 a2 w0 w1 w2 w3 w5 w6 w8 w9 w11 w12 hl hwf v0 v1, DhcpAnswers_b a0_0 a0_1 a0_2 a0_3 a0_4 a0_5 a0_6 a0_7 a0_8 a0_9 a0_10 a0_11 a0_12 a0_13 l0_14 a1 a2 w0 w1 w2 w3 w5 w6 w8 w9 w11 w12 hl hwf v0 v1]
  by_cases hv : vpk a0_0 a0_1 a0_2 (a0_3.extract 0 (min a0_3.size 100)) ⟨a0_4, a0_5, a0_6⟩ ⟨a0_7, a0_8, a0_9⟩ ⟨a0_10, a0_11, a0_12⟩ a0_13 (shl l0_14) = true
  · rw [if_pos hv]; rfl
  · rw [if_neg hv, if_neg hv]; rfl
end Go.Proofs.YtcoekgnbncocnaaDoor.Pure

