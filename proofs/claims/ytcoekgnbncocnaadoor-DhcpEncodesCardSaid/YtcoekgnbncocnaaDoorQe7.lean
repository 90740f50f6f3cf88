/- Parts of the proof of this claim's statement (joined by a program of this session): Pax43. -/
import Derived.Test.YtcoekgnbncocnaaDoorQe1
import Derived.Test.YtcoekgnbncocnaaDoorQe5
import Derived.Test.YtcoekgnbncocnaaDoorQe6
import Derived.Test.YtcoekgnbncocnaaDoorQe3
import Derived.Test.YtcoekgnbncocnaaDoorQe4
namespace Go.Proofs.YtcoekgnbncocnaaDoor.Pa
open Go.RowKit Go.Proofs.YtcoekgnbncocnaaDoorW.PrintWords Go.Proofs.YtcoekgnbncocnaaDoorW.PrintLast Go.Proofs.YtcoekgnbncocnaaDoorW.PrintMore
attribute [local go_sem] max2_int min2_int max_two min_two max_three min_three max_four min_four   -- for this text's walks alone
set_option linter.unusedVariables false
set_option linter.unusedSimpArgs false

def ddilaw36_DhcpEncodes.f (k : Nat) (a0_0 : Int) (a0_1 : Int) (a0_2 : Int) (a0_3 : ByteArray) (a0_4 : Bool) (a0_5 : Int) (a0_6 : Int) (a0_7 : Bool) (a0_8 : Int) (a0_9 : Int) (a0_10 : Bool) (a0_11 : Int) (a0_12 : Int) (a0_13 : Bool) (l0_14 : List (S61)) : Option (Bool) := (ddiref36_Short.f k a0_0 a0_1 a0_2 a0_3 a0_4 a0_5 a0_6 a0_7 a0_8 a0_9 a0_10 a0_11 a0_12 a0_13 l0_14).bind fun bt606 => ((dhcp_Encode.f k bt606.1 bt606.2.1 bt606.2.2.1 bt606.2.2.2.1 bt606.2.2.2.2.1 bt606.2.2.2.2.2.1 bt606.2.2.2.2.2.2.1 bt606.2.2.2.2.2.2.2.1 bt606.2.2.2.2.2.2.2.2.1 bt606.2.2.2.2.2.2.2.2.2.1 bt606.2.2.2.2.2.2.2.2.2.2.1 bt606.2.2.2.2.2.2.2.2.2.2.2.1 bt606.2.2.2.2.2.2.2.2.2.2.2.2.1 bt606.2.2.2.2.2.2.2.2.2.2.2.2.2.1 bt606.2.2.2.2.2.2.2.2.2.2.2.2.2.2).bind fun bt623 => ((ddiref36_Encode.f k bt606.1 bt606.2.1 bt606.2.2.1 bt606.2.2.2.1 bt606.2.2.2.2.1 bt606.2.2.2.2.2.1 bt606.2.2.2.2.2.2.1 bt606.2.2.2.2.2.2.2.1 bt606.2.2.2.2.2.2.2.2.1 bt606.2.2.2.2.2.2.2.2.2.1 bt606.2.2.2.2.2.2.2.2.2.2.1 bt606.2.2.2.2.2.2.2.2.2.2.2.1 bt606.2.2.2.2.2.2.2.2.2.2.2.2.1 bt606.2.2.2.2.2.2.2.2.2.2.2.2.2.1 bt606.2.2.2.2.2.2.2.2.2.2.2.2.2.2).bind fun bt625 => ((dhcp_Valid.f k bt606.1 bt606.2.1 bt606.2.2.1 bt606.2.2.2.1 bt606.2.2.2.2.1 bt606.2.2.2.2.2.1 bt606.2.2.2.2.2.2.1 bt606.2.2.2.2.2.2.2.1 bt606.2.2.2.2.2.2.2.2.1 bt606.2.2.2.2.2.2.2.2.2.1 bt606.2.2.2.2.2.2.2.2.2.2.1 bt606.2.2.2.2.2.2.2.2.2.2.2.1 bt606.2.2.2.2.2.2.2.2.2.2.2.2.1 bt606.2.2.2.2.2.2.2.2.2.2.2.2.2.1 bt606.2.2.2.2.2.2.2.2.2.2.2.2.2.2).bind fun t627 => ((ddiref36_Valid.f k bt606.1 bt606.2.1 bt606.2.2.1 bt606.2.2.2.1 bt606.2.2.2.2.1 bt606.2.2.2.2.2.1 bt606.2.2.2.2.2.2.1 bt606.2.2.2.2.2.2.2.1 bt606.2.2.2.2.2.2.2.2.1 bt606.2.2.2.2.2.2.2.2.2.1 bt606.2.2.2.2.2.2.2.2.2.2.1 bt606.2.2.2.2.2.2.2.2.2.2.2.1 bt606.2.2.2.2.2.2.2.2.2.2.2.2.1 bt606.2.2.2.2.2.2.2.2.2.2.2.2.2.1 bt606.2.2.2.2.2.2.2.2.2.2.2.2.2.2).bind fun t628 => (if (t627 == t628) = true then (if bt623.1.toList = bt625.1.toList then (if bt623.2 = bt625.2 then ((ddilaw36_awake.f k).bind fun t629 => (some t629)) else (none)) else (none)) else (none))))))
def ddilaw36_DhcpEncodes.T4 : Bool × List (List Nat × List Nat) := (true, [([], []), ([0], [0]), ([], []), ([2, 1], [2]), ([1, 3], [1, 3]), ([4, 3], [4]), ([5], [5]), ([5], [5]), ([6, 7, 5], [5, 6, 7]), ([5, 8], [5, 8]), ([9, 5], [9]), ([10], [10]), ([10], [10]), ([11, 12, 10], [10, 11, 12]), ([10, 13], [10, 13]), ([14, 10], [14]), ([15, 15], [15]), ([15, 16], [15, 16]), ([17, 16, 0, 1, 2, 3, 4, 5, 6, 7, 8, 9, 10, 11, 12, 13, 14, 15, 16, 17], [17])])
def ddilaw36_DhcpEncodes.B4 : List Nat := [0, 1, 0, 7, 15, 31, 63, 63, 255, 511, 1023, 2047, 2047, 8191, 16383, 32767, 65535, 131071, 262143]
theorem ddilaw36_DhcpEncodes.tab4 : rtab .any (opsOf Tryd.f5 4) = ddilaw36_DhcpEncodes.T4 := by kernel_rfl
theorem ddilaw36_DhcpEncodes.bits4 : waitsOk ddilaw36_DhcpEncodes.T4.2 ddilaw36_DhcpEncodes.B4 = true := by kernel_rfl
set_option maxHeartbeats 8000000 in
set_option maxRecDepth 100000 in
theorem ddilaw36_DhcpEncodes.calls (k : Nat) (a0_0 : Int) (a0_1 : Int) (a0_2 : Int) (a0_3 : ByteArray) (a0_4 : Bool) (a0_5 : Int) (a0_6 : Int) (a0_7 : Bool) (a0_8 : Int) (a0_9 : Int) (a0_10 : Bool) (a0_11 : Int) (a0_12 : Int) (a0_13 : Bool) (A0_14 : Option Addr) (c0_14 : Nat) (l0_14 : List (S61)) (r : Bool) (w : World) (hr0_14 : Kd.C k61 w A0_14 l0_14.length l0_14) (hc0_14 : l0_14.length ≤ c0_14) (h : ddilaw36_DhcpEncodes.f k a0_0 a0_1 a0_2 a0_3 a0_4 a0_5 a0_6 a0_7 a0_8 a0_9 a0_10 a0_11 a0_12 a0_13 l0_14 = some r) :
  Calls Tryd.prog 5 #[.agg #[.int .i64 a0_0, .int .i64 a0_1, .int .i64 a0_2, .string a0_3, .bool a0_4, .int .u64 a0_5, .int .u64 a0_6, .bool a0_7, .int .u64 a0_8, .int .u64 a0_9, .bool a0_10, .int .u64 a0_11, .int .u64 a0_12, .bool a0_13, .slice A0_14 l0_14.length c0_14]] w fun e w' => e = .returned (.bool r) ∧ Below w.heap.size w w' := by
 have hu27 := Tryd.underlying27
 have HR0_14 := Aside0.mk hr0_14
 have HC0_14 := Aside0.mk hc0_14
 clear hr0_14 hc0_14
 have HB := Aside0.mk (Below.refl w.heap.size w)
 have H : ((ddiref36_Short.f k a0_0 a0_1 a0_2 a0_3 a0_4 a0_5 a0_6 a0_7 a0_8 a0_9 a0_10 a0_11 a0_12 a0_13 l0_14).bind fun bt606 => ((dhcp_Encode.f k bt606.1 bt606.2.1 bt606.2.2.1 bt606.2.2.2.1 bt606.2.2.2.2.1 bt606.2.2.2.2.2.1 bt606.2.2.2.2.2.2.1 bt606.2.2.2.2.2.2.2.1 bt606.2.2.2.2.2.2.2.2.1 bt606.2.2.2.2.2.2.2.2.2.1 bt606.2.2.2.2.2.2.2.2.2.2.1 bt606.2.2.2.2.2.2.2.2.2.2.2.1 bt606.2.2.2.2.2.2.2.2.2.2.2.2.1 bt606.2.2.2.2.2.2.2.2.2.2.2.2.2.1 bt606.2.2.2.2.2.2.2.2.2.2.2.2.2.2).bind fun bt623 => ((ddiref36_Encode.f k bt606.1 bt606.2.1 bt606.2.2.1 bt606.2.2.2.1 bt606.2.2.2.2.1 bt606.2.2.2.2.2.1 bt606.2.2.2.2.2.2.1 bt606.2.2.2.2.2.2.2.1 bt606.2.2.2.2.2.2.2.2.1 bt606.2.2.2.2.2.2.2.2.2.1 bt606.2.2.2.2.2.2.2.2.2.2.1 bt606.2.2.2.2.2.2.2.2.2.2.2.1 bt606.2.2.2.2.2.2.2.2.2.2.2.2.1 bt606.2.2.2.2.2.2.2.2.2.2.2.2.2.1 bt606.2.2.2.2.2.2.2.2.2.2.2.2.2.2).bind fun bt625 => ((dhcp_Valid.f k bt606.1 bt606.2.1 bt606.2.2.1 bt606.2.2.2.1 bt606.2.2.2.2.1 bt606.2.2.2.2.2.1 bt606.2.2.2.2.2.2.1 bt606.2.2.2.2.2.2.2.1 bt606.2.2.2.2.2.2.2.2.1 bt606.2.2.2.2.2.2.2.2.2.1 bt606.2.2.2.2.2.2.2.2.2.2.1 bt606.2.2.2.2.2.2.2.2.2.2.2.1 bt606.2.2.2.2.2.2.2.2.2.2.2.2.1 bt606.2.2.2.2.2.2.2.2.2.2.2.2.2.1 bt606.2.2.2.2.2.2.2.2.2.2.2.2.2.2).bind fun t627 => ((ddiref36_Valid.f k bt606.1 bt606.2.1 bt606.2.2.1 bt606.2.2.2.1 bt606.2.2.2.2.1 bt606.2.2.2.2.2.1 bt606.2.2.2.2.2.2.1 bt606.2.2.2.2.2.2.2.1 bt606.2.2.2.2.2.2.2.2.1 bt606.2.2.2.2.2.2.2.2.2.1 bt606.2.2.2.2.2.2.2.2.2.2.1 bt606.2.2.2.2.2.2.2.2.2.2.2.1 bt606.2.2.2.2.2.2.2.2.2.2.2.2.1 bt606.2.2.2.2.2.2.2.2.2.2.2.2.2.1 bt606.2.2.2.2.2.2.2.2.2.2.2.2.2.2).bind fun t628 => (if (t627 == t628) = true then (if bt623.1.toList = bt625.1.toList then (if bt623.2 = bt625.2 then ((ddilaw36_awake.f k).bind fun t629 => (some t629)) else (none)) else (none)) else (none))))))) = some r := h
 clear h
 replace H := Option.bind_eq_some_iff.mp H
 obtain ⟨⟨t606, t607, t608, t609, t610, t611, t612, t613, t614, t615, t616, t617, t618, t619, t620⟩, A20, H⟩ := H
 (try dsimp only at H)
 have A2 := Aside0.mk A20
 clear A20
 replace H := Option.bind_eq_some_iff.mp H
 obtain ⟨⟨t623, t624⟩, A30, H⟩ := H
 (try dsimp only at H)
 have A3 := Aside0.mk A30
 clear A30
 replace H := Option.bind_eq_some_iff.mp H
 obtain ⟨⟨t625, t626⟩, A40, H⟩ := H
 (try dsimp only at H)
 have A4 := Aside0.mk A40
 clear A40
 replace H := Option.bind_eq_some_iff.mp H
 obtain ⟨t627, A50, H⟩ := H
 (try dsimp only at H)
 have A5 := Aside0.mk A50
 clear A50
 replace H := Option.bind_eq_some_iff.mp H
 obtain ⟨t628, A60, H⟩ := H
 (try dsimp only at H)
 have A6 := Aside0.mk A60
 clear A60
 by_cases c7 : (t627 == t628) = true
 ·rw [if_pos c7] at H
  have c7b0 : (t627 == t628) = true := c7
  (try (have c7b1 : decide (t627 = t628) = true := by simpa using c7))
  (try (have c7b2 : (t627 == t628) = true := by simpa using c7))
  clear c7
  by_cases c8 : t623.toList = t625.toList
  ·rw [if_pos c8] at H
   have c8b0 : (t623.toList == t625.toList) = true := beq_iff_eq.mpr c8
   have c8b1 : (t623.toList != t625.toList) = false := bne_eq_false_iff_eq.mpr c8
   clear c8
   by_cases c9 : t624 = t626
   ·rw [if_pos c9] at H
    have c9b0 : (t624 == t626) = true := beq_iff_eq.mpr c9
    have c9b1 : (t624 != t626) = false := bne_eq_false_iff_eq.mpr c9
    clear c9
    replace H := Option.bind_eq_some_iff.mp H
    obtain ⟨t629, A100, H⟩ := H
    replace H : (some t629) = some r := H
    have A10 := Aside0.mk A100
    clear A100
    obtain rfl := Option.some.inj H
    go_enter Tryd.func5, Tryd.ntmps5
    try go_wp2_with (first | ((with_reducible refine gate_dst (N := 1) rfl ?_); refine box_event ?hg (N := 1) ?hd (cs := #[.int .i64 a0_0, .int .i64 a0_1, .int .i64 a0_2, .string a0_3, .bool a0_4, .int .u64 a0_5, .int .u64 a0_6, .bool a0_7, .int .u64 a0_8, .int .u64 a0_9, .bool a0_10, .int .u64 a0_11, .int .u64 a0_12, .bool a0_13, .slice A0_14 l0_14.length c0_14]) (t := 27) ?hr ?_; (case hd => rfl); (case hg => rfl); (case hr => first | (go_simp; done) | (go_simp; rfl)); intro gb605 hg w11 hbox hb; have n0_ := Aside0.mk (below_step (hbx HB.out) hb); have n1_ := Aside0.mk (hbox); have n2_ := Aside0.mk ((by rw [hg]; exact (below_size (hbx HB.out)) : w.heap.size ≤ gb605)); have n3_ := Aside0.mk ((by rw [hg]; exact (below_size (hbx HB.out)) : w.heap.size ≤ gb605)); clear HB; have HB := n0_; have BK605 := n1_; have GW605 := n2_; have GE605 := n3_; clear n0_ n1_ n2_ n3_; clear hb hbox hg; obtain ⟨⟨hcz12_0, hcz12_1, hcz12_2, hcz12_3, hcz12_4, hcz12_5, hcz12_6, hcz12_7, hcz12_8, hcz12_9, hcz12_10, hcz12_11, hcz12_12, hcz12_13, hcz12_14⟩, hfz12_0, hfz12_1, hfz12_2, hfz12_3, hfz12_4, hfz12_5, hfz12_6, hfz12_7, hfz12_8, hfz12_9, hfz12_10, hfz12_11, hfz12_12, hfz12_13, hfz12_14⟩ := cf15 BK605.out) | ((with_reducible refine gate_callee (f := 10) rfl ?_); refine goesL_ (some 8) rfl rfl Tryd.func10 (by kernel_rfl) rfl #[.agg #[.int .i64 a0_0, .int .i64 a0_1, .int .i64 a0_2, .string a0_3, .bool a0_4, .int .u64 a0_5, .int .u64 a0_6, .bool a0_7, .int .u64 a0_8, .int .u64 a0_9, .bool a0_10, .int .u64 a0_11, .int .u64 a0_12, .bool a0_13, .slice A0_14 l0_14.length c0_14]] rfl (by (try simp only [List.map_toArray, List.map_cons, List.map_nil]); first | done | rfl | (simp only [List.length_drop, List.length_take]; rfl)) ?_; (with_reducible refine (ddiref36_Short.calls k a0_0 a0_1 a0_2 a0_3 a0_4 a0_5 a0_6 a0_7 a0_8 a0_9 a0_10 a0_11 a0_12 a0_13 _ _ l0_14 t606 t607 t608 t609 t610 t611 t612 t613 t614 t615 t616 t617 t618 t619 t620 _ ?side1 ?side2 A2.out).mono ?_); (case side1 => repeat (first | exact (Kd.C_below HR0_14.out HB.out) | (with_reducible refine Kd.C_alloc ?_ _) | (with_reducible refine Kd.C_drewN ?_ _) | (with_reducible refine Kd.C_drew ?_))); (case side2 => exact HC0_14.out); rintro e w13 ⟨v621, rfl, ho0, hb⟩; refine ⟨_, rfl, ?_⟩; have n0_ := Aside0.mk (Kd.R_lower ho0 (below_size (hbx HB.out))); have n1_ := Aside0.mk (blk_below (bkx BK605.out) hb); have n2_ := Aside0.mk (below_step (hbx HB.out) hb); clear BK605; clear HB; have HO622 := n0_; have BK605 := n1_; have HB := n2_; clear n0_ n1_ n2_; (try clear hb); (try clear hb2); (try clear hk); (try clear hi); (try clear ho0); obtain ⟨⟨hcz14_0, hcz14_1, hcz14_2, hcz14_3, hcz14_4, hcz14_5, hcz14_6, hcz14_7, hcz14_8, hcz14_9, hcz14_10, hcz14_11, hcz14_12, hcz14_13, hcz14_14⟩, hfz14_0, hfz14_1, hfz14_2, hfz14_3, hfz14_4, hfz14_5, hfz14_6, hfz14_7, hfz14_8, hfz14_9, hfz14_10, hfz14_11, hfz14_12, hfz14_13, hfz14_14⟩ := cf15 BK605.out; obtain ⟨Ao15, co15, eo15⟩ := Kd.R_slice HO622.out; subst eo15) | ((with_reducible refine gate_callee (f := 21) rfl ?_); refine goesL_ (some 11) rfl rfl Tryd.func21 (by kernel_rfl) rfl #[.agg #[.int .i64 t606, .int .i64 t607, .int .i64 t608, .string t609, .bool t610, .int .u64 t611, .int .u64 t612, .bool t613, .int .u64 t614, .int .u64 t615, .bool t616, .int .u64 t617, .int .u64 t618, .bool t619, .slice Ao15 t620.length co15]] rfl (by (try simp only [List.map_toArray, List.map_cons, List.map_nil]); first | done | rfl | (simp only [List.length_drop, List.length_take]; rfl)) ?_; (with_reducible refine (dhcp_Encode.calls k t606 t607 t608 t609 t610 t611 t612 t613 t614 t615 t616 t617 t618 t619 _ _ t620 t623 t624 _ ?side1 ?side2 A3.out).mono ?_); (case side1 => refine (Kd.R_reads' (e := 61) (base := w.heap.size) (ok := fun k_ => True) (n := t620.length) (c := co15) ?_).2.2; exact (by (with_reducible repeat (first | apply Kd.R_alloc | apply Kd.R_drewN | apply Kd.R_drew)); exact (Kd.R_mono (Kd.R_far (p := ⟨gb605, 14, none⟩) (Kd.R_far (p := ⟨gb605, 13, none⟩) (Kd.R_far (p := ⟨gb605, 12, none⟩) (Kd.R_far (p := ⟨gb605, 11, none⟩) (Kd.R_far (p := ⟨gb605, 10, none⟩) (Kd.R_far (p := ⟨gb605, 9, none⟩) (Kd.R_far (p := ⟨gb605, 8, none⟩) (Kd.R_far (p := ⟨gb605, 7, none⟩) (Kd.R_far (p := ⟨gb605, 6, none⟩) (Kd.R_far (p := ⟨gb605, 5, none⟩) (Kd.R_far (p := ⟨gb605, 4, none⟩) (Kd.R_far (p := ⟨gb605, 3, none⟩) (Kd.R_far (p := ⟨gb605, 2, none⟩) (Kd.R_far (p := ⟨gb605, 1, none⟩) (Kd.R_far (p := ⟨gb605, 0, none⟩) (Kd.R_types HO622.out BK605.out (by decide)) (fun _ hk => hk.2) (.int .i64 t606)) (fun _ hk => hk.2) (.int .i64 t607)) (fun _ hk => hk.2) (.int .i64 t608)) (fun _ hk => hk.2) (.string t609)) (fun _ hk => hk.2) (.bool t610)) (fun _ hk => hk.2) (.int .u64 t611)) (fun _ hk => hk.2) (.int .u64 t612)) (fun _ hk => hk.2) (.bool t613)) (fun _ hk => hk.2) (.int .u64 t614)) (fun _ hk => hk.2) (.int .u64 t615)) (fun _ hk => hk.2) (.bool t616)) (fun _ hk => hk.2) (.int .u64 t617)) (fun _ hk => hk.2) (.int .u64 t618)) (fun _ hk => hk.2) (.bool t619)) (fun _ hk => hk.2) (.slice Ao15 t620.length co15)) (fun _ h_ => h_.1)))); (case side2 => exact (Kd.R_reads' HO622.out).2.1); rintro e w16 ⟨rfl, hb⟩; refine ⟨_, rfl, ?_⟩; have n0_ := Aside0.mk (Kd.R_below (by (with_reducible repeat (first | apply Kd.R_alloc | apply Kd.R_drewN | apply Kd.R_drew)); exact (Kd.R_mono (Kd.R_far (p := ⟨gb605, 14, none⟩) (Kd.R_far (p := ⟨gb605, 13, none⟩) (Kd.R_far (p := ⟨gb605, 12, none⟩) (Kd.R_far (p := ⟨gb605, 11, none⟩) (Kd.R_far (p := ⟨gb605, 10, none⟩) (Kd.R_far (p := ⟨gb605, 9, none⟩) (Kd.R_far (p := ⟨gb605, 8, none⟩) (Kd.R_far (p := ⟨gb605, 7, none⟩) (Kd.R_far (p := ⟨gb605, 6, none⟩) (Kd.R_far (p := ⟨gb605, 5, none⟩) (Kd.R_far (p := ⟨gb605, 4, none⟩) (Kd.R_far (p := ⟨gb605, 3, none⟩) (Kd.R_far (p := ⟨gb605, 2, none⟩) (Kd.R_far (p := ⟨gb605, 1, none⟩) (Kd.R_far (p := ⟨gb605, 0, none⟩) (Kd.R_types HO622.out BK605.out (by decide)) (fun _ hk => hk.2) (.int .i64 t606)) (fun _ hk => hk.2) (.int .i64 t607)) (fun _ hk => hk.2) (.int .i64 t608)) (fun _ hk => hk.2) (.string t609)) (fun _ hk => hk.2) (.bool t610)) (fun _ hk => hk.2) (.int .u64 t611)) (fun _ hk => hk.2) (.int .u64 t612)) (fun _ hk => hk.2) (.bool t613)) (fun _ hk => hk.2) (.int .u64 t614)) (fun _ hk => hk.2) (.int .u64 t615)) (fun _ hk => hk.2) (.bool t616)) (fun _ hk => hk.2) (.int .u64 t617)) (fun _ hk => hk.2) (.int .u64 t618)) (fun _ hk => hk.2) (.bool t619)) (fun _ hk => hk.2) (.slice Ao15 t620.length co15)) (fun _ h_ => h_.1))) hb); have n1_ := Aside0.mk (blk_below (g := gb605) (o := .cells #[.int .i64 t606, .int .i64 t607, .int .i64 t608, .string t609, .bool t610, .int .u64 t611, .int .u64 t612, .bool t613, .int .u64 t614, .int .u64 t615, .bool t616, .int .u64 t617, .int .u64 t618, .bool t619, .slice Ao15 t620.length co15] 27 (0, 0)) (by (with_reducible repeat (first | refine blk_drewN ?_ _ | refine blk_drew ?_ | refine blk_alloc ?_ _)); refine blk_put (cs := #[.int .i64 t606, .int .i64 t607, .int .i64 t608, .string t609, .bool t610, .int .u64 t611, .int .u64 t612, .bool t613, .int .u64 t614, .int .u64 t615, .bool t616, .int .u64 t617, .int .u64 t618, .bool t619, .slice A0_14 l0_14.length c0_14]) ?_ 14 _ rfl; (with_reducible repeat (first | refine blk_drewN ?_ _ | refine blk_drew ?_ | refine blk_alloc ?_ _)); refine blk_put (cs := #[.int .i64 t606, .int .i64 t607, .int .i64 t608, .string t609, .bool t610, .int .u64 t611, .int .u64 t612, .bool t613, .int .u64 t614, .int .u64 t615, .bool t616, .int .u64 t617, .int .u64 t618, .bool a0_13, .slice A0_14 l0_14.length c0_14]) ?_ 13 _ rfl; (with_reducible repeat (first | refine blk_drewN ?_ _ | refine blk_drew ?_ | refine blk_alloc ?_ _)); refine blk_put (cs := #[.int .i64 t606, .int .i64 t607, .int .i64 t608, .string t609, .bool t610, .int .u64 t611, .int .u64 t612, .bool t613, .int .u64 t614, .int .u64 t615, .bool t616, .int .u64 t617, .int .u64 a0_12, .bool a0_13, .slice A0_14 l0_14.length c0_14]) ?_ 12 _ rfl; (with_reducible repeat (first | refine blk_drewN ?_ _ | refine blk_drew ?_ | refine blk_alloc ?_ _)); refine blk_put (cs := #[.int .i64 t606, .int .i64 t607, .int .i64 t608, .string t609, .bool t610, .int .u64 t611, .int .u64 t612, .bool t613, .int .u64 t614, .int .u64 t615, .bool t616, .int .u64 a0_11, .int .u64 a0_12, .bool a0_13, .slice A0_14 l0_14.length c0_14]) ?_ 11 _ rfl; (with_reducible repeat (first | refine blk_drewN ?_ _ | refine blk_drew ?_ | refine blk_alloc ?_ _)); refine blk_put (cs := #[.int .i64 t606, .int .i64 t607, .int .i64 t608, .string t609, .bool t610, .int .u64 t611, .int .u64 t612, .bool t613, .int .u64 t614, .int .u64 t615, .bool a0_10, .int .u64 a0_11, .int .u64 a0_12, .bool a0_13, .slice A0_14 l0_14.length c0_14]) ?_ 10 _ rfl; (with_reducible repeat (first | refine blk_drewN ?_ _ | refine blk_drew ?_ | refine blk_alloc ?_ _)); refine blk_put (cs := #[.int .i64 t606, .int .i64 t607, .int .i64 t608, .string t609, .bool t610, .int .u64 t611, .int .u64 t612, .bool t613, .int .u64 t614, .int .u64 a0_9, .bool a0_10, .int .u64 a0_11, .int .u64 a0_12, .bool a0_13, .slice A0_14 l0_14.length c0_14]) ?_ 9 _ rfl; (with_reducible repeat (first | refine blk_drewN ?_ _ | refine blk_drew ?_ | refine blk_alloc ?_ _)); refine blk_put (cs := #[.int .i64 t606, .int .i64 t607, .int .i64 t608, .string t609, .bool t610, .int .u64 t611, .int .u64 t612, .bool t613, .int .u64 a0_8, .int .u64 a0_9, .bool a0_10, .int .u64 a0_11, .int .u64 a0_12, .bool a0_13, .slice A0_14 l0_14.length c0_14]) ?_ 8 _ rfl; (with_reducible repeat (first | refine blk_drewN ?_ _ | refine blk_drew ?_ | refine blk_alloc ?_ _)); refine blk_put (cs := #[.int .i64 t606, .int .i64 t607, .int .i64 t608, .string t609, .bool t610, .int .u64 t611, .int .u64 t612, .bool a0_7, .int .u64 a0_8, .int .u64 a0_9, .bool a0_10, .int .u64 a0_11, .int .u64 a0_12, .bool a0_13, .slice A0_14 l0_14.length c0_14]) ?_ 7 _ rfl; (with_reducible repeat (first | refine blk_drewN ?_ _ | refine blk_drew ?_ | refine blk_alloc ?_ _)); refine blk_put (cs := #[.int .i64 t606, .int .i64 t607, .int .i64 t608, .string t609, .bool t610, .int .u64 t611, .int .u64 a0_6, .bool a0_7, .int .u64 a0_8, .int .u64 a0_9, .bool a0_10, .int .u64 a0_11, .int .u64 a0_12, .bool a0_13, .slice A0_14 l0_14.length c0_14]) ?_ 6 _ rfl; (with_reducible repeat (first | refine blk_drewN ?_ _ | refine blk_drew ?_ | refine blk_alloc ?_ _)); refine blk_put (cs := #[.int .i64 t606, .int .i64 t607, .int .i64 t608, .string t609, .bool t610, .int .u64 a0_5, .int .u64 a0_6, .bool a0_7, .int .u64 a0_8, .int .u64 a0_9, .bool a0_10, .int .u64 a0_11, .int .u64 a0_12, .bool a0_13, .slice A0_14 l0_14.length c0_14]) ?_ 5 _ rfl; (with_reducible repeat (first | refine blk_drewN ?_ _ | refine blk_drew ?_ | refine blk_alloc ?_ _)); refine blk_put (cs := #[.int .i64 t606, .int .i64 t607, .int .i64 t608, .string t609, .bool a0_4, .int .u64 a0_5, .int .u64 a0_6, .bool a0_7, .int .u64 a0_8, .int .u64 a0_9, .bool a0_10, .int .u64 a0_11, .int .u64 a0_12, .bool a0_13, .slice A0_14 l0_14.length c0_14]) ?_ 4 _ rfl; (with_reducible repeat (first | refine blk_drewN ?_ _ | refine blk_drew ?_ | refine blk_alloc ?_ _)); refine blk_put (cs := #[.int .i64 t606, .int .i64 t607, .int .i64 t608, .string a0_3, .bool a0_4, .int .u64 a0_5, .int .u64 a0_6, .bool a0_7, .int .u64 a0_8, .int .u64 a0_9, .bool a0_10, .int .u64 a0_11, .int .u64 a0_12, .bool a0_13, .slice A0_14 l0_14.length c0_14]) ?_ 3 _ rfl; (with_reducible repeat (first | refine blk_drewN ?_ _ | refine blk_drew ?_ | refine blk_alloc ?_ _)); refine blk_put (cs := #[.int .i64 t606, .int .i64 t607, .int .i64 a0_2, .string a0_3, .bool a0_4, .int .u64 a0_5, .int .u64 a0_6, .bool a0_7, .int .u64 a0_8, .int .u64 a0_9, .bool a0_10, .int .u64 a0_11, .int .u64 a0_12, .bool a0_13, .slice A0_14 l0_14.length c0_14]) ?_ 2 _ rfl; (with_reducible repeat (first | refine blk_drewN ?_ _ | refine blk_drew ?_ | refine blk_alloc ?_ _)); refine blk_put (cs := #[.int .i64 t606, .int .i64 a0_1, .int .i64 a0_2, .string a0_3, .bool a0_4, .int .u64 a0_5, .int .u64 a0_6, .bool a0_7, .int .u64 a0_8, .int .u64 a0_9, .bool a0_10, .int .u64 a0_11, .int .u64 a0_12, .bool a0_13, .slice A0_14 l0_14.length c0_14]) ?_ 1 _ rfl; (with_reducible repeat (first | refine blk_drewN ?_ _ | refine blk_drew ?_ | refine blk_alloc ?_ _)); refine blk_put (cs := #[.int .i64 a0_0, .int .i64 a0_1, .int .i64 a0_2, .string a0_3, .bool a0_4, .int .u64 a0_5, .int .u64 a0_6, .bool a0_7, .int .u64 a0_8, .int .u64 a0_9, .bool a0_10, .int .u64 a0_11, .int .u64 a0_12, .bool a0_13, .slice A0_14 l0_14.length c0_14]) ?_ 0 _ rfl; (with_reducible repeat (first | refine blk_drewN ?_ _ | refine blk_drew ?_ | refine blk_alloc ?_ _)); exact BK605.out) hb); have n2_ := Aside0.mk (below_step (hbx HB.out) hb); clear HO622; clear BK605; clear HB; have HO622 := n0_; have BK605 := n1_; have HB := n2_; clear n0_ n1_ n2_; (try clear hb); (try clear hb2); (try clear hk); (try clear hi); obtain ⟨⟨hcz17_0, hcz17_1, hcz17_2, hcz17_3, hcz17_4, hcz17_5, hcz17_6, hcz17_7, hcz17_8, hcz17_9, hcz17_10, hcz17_11, hcz17_12, hcz17_13, hcz17_14⟩, hfz17_0, hfz17_1, hfz17_2, hfz17_3, hfz17_4, hfz17_5, hfz17_6, hfz17_7, hfz17_8, hfz17_9, hfz17_10, hfz17_11, hfz17_12, hfz17_13, hfz17_14⟩ := cf15 BK605.out) | ((with_reducible refine gate_callee (f := 22) rfl ?_); refine goesL_ (some 16) rfl rfl Tryd.func22 (by kernel_rfl) rfl #[.agg #[.int .i64 t606, .int .i64 t607, .int .i64 t608, .string t609, .bool t610, .int .u64 t611, .int .u64 t612, .bool t613, .int .u64 t614, .int .u64 t615, .bool t616, .int .u64 t617, .int .u64 t618, .bool t619, .slice Ao15 t620.length co15]] rfl (by (try simp only [List.map_toArray, List.map_cons, List.map_nil]); first | done | rfl | (simp only [List.length_drop, List.length_take]; rfl)) ?_; (with_reducible refine (ddiref36_Encode.calls k t606 t607 t608 t609 t610 t611 t612 t613 t614 t615 t616 t617 t618 t619 _ _ t620 t625 t626 _ ?side1 ?side2 A4.out).mono ?_); (case side1 => repeat (first | exact (Kd.R_reads' HO622.out).2.2 | (with_reducible refine Kd.C_alloc ?_ _) | (with_reducible refine Kd.C_drewN ?_ _) | (with_reducible refine Kd.C_drew ?_))); (case side2 => exact (Kd.R_reads' HO622.out).2.1); rintro e w18 ⟨rfl, hb⟩; refine ⟨_, rfl, ?_⟩; have n0_ := Aside0.mk (Kd.R_below (by (with_reducible repeat (first | apply Kd.R_alloc | apply Kd.R_drewN | apply Kd.R_drew)); exact HO622.out) hb); have n1_ := Aside0.mk (blk_below (bkx BK605.out) hb); have n2_ := Aside0.mk (below_step (hbx HB.out) hb); clear HO622; clear BK605; clear HB; have HO622 := n0_; have BK605 := n1_; have HB := n2_; clear n0_ n1_ n2_; (try clear hb); (try clear hb2); (try clear hk); (try clear hi)))
    have n0_ := Aside0.mk (Kd.R_drew HO622.out)
    have n1_ := Aside0.mk (blk_drew BK605.out)
    have n2_ := Aside0.mk (below_drew1 HB.out)
    clear HO622
    clear BK605
    clear HB
    have HO622 := n0_
    have BK605 := n1_
    have HB := n2_
    clear n0_ n1_ n2_
    refine start_ (n := 19) (S := fun w' => w'.cell? ⟨gb605, 0, none⟩ = some (.int .i64 t606) ∧ w'.cell? ⟨gb605, 1, none⟩ = some (.int .i64 t607) ∧ w'.cell? ⟨gb605, 2, none⟩ = some (.int .i64 t608) ∧ w'.cell? ⟨gb605, 3, none⟩ = some (.string t609) ∧ w'.cell? ⟨gb605, 4, none⟩ = some (.bool t610) ∧ w'.cell? ⟨gb605, 5, none⟩ = some (.int .u64 t611) ∧ w'.cell? ⟨gb605, 6, none⟩ = some (.int .u64 t612) ∧ w'.cell? ⟨gb605, 7, none⟩ = some (.bool t613) ∧ w'.cell? ⟨gb605, 8, none⟩ = some (.int .u64 t614) ∧ w'.cell? ⟨gb605, 9, none⟩ = some (.int .u64 t615) ∧ w'.cell? ⟨gb605, 10, none⟩ = some (.bool t616) ∧ w'.cell? ⟨gb605, 11, none⟩ = some (.int .u64 t617) ∧ w'.cell? ⟨gb605, 12, none⟩ = some (.int .u64 t618) ∧ w'.cell? ⟨gb605, 13, none⟩ = some (.bool t619) ∧ w'.cell? ⟨gb605, 14, none⟩ = some (.slice Ao15 t620.length co15)) (ds := []) #[false, false, false, false, false, false, false, false, false, false, false, false, false, false, false, false, false, false, false] (by kernel_rfl) rfl rfl (cz15 BK605.out) (fun hHeld => ?_); refine with_tabW ddilaw36_DhcpEncodes.tab4 ddilaw36_DhcpEncodes.bits4 (fun HT_ HW_ => ?_)
    generalize w18.drew = w19 at HO622 BK605 HB hHeld ⊢
    refine take_ (i := 0) (N := some 19) (v := ?_) (a' := ?_) #[true, false, false, false, false, false, false, false, false, false, false, false, false, false, false, false, false, false, false] rfl rfl (take_ofW HT_.out HW_.out (by kernel_rfl)) (fun _ _ _ h => h) (Or.inl ⟨by rfl, ?_⟩) hHeld ?_ ?_
    rotate_left
    ·rintro w' ⟨s0, s1, s2, s3, s4, s5, s6, s7, s8, s9, s10, s11, s12, s13, s14⟩
     go_simp
     with_reducible rfl
    rotate_left
    ·simp only [Act.put, List.setIfInBounds_toArray, List.set_cons_zero, List.set_cons_succ, i64_w, i32_w]
     rfl
    refine take_ (i := 2) (N := some 21) (v := ?_) (a' := ?_) #[true, false, true, false, false, false, false, false, false, false, false, false, false, false, false, false, false, false, false] rfl rfl (take_ofW HT_.out HW_.out (by kernel_rfl)) (fun _ _ _ h => h) (Or.inl ⟨by rfl, ?_⟩) hHeld ?_ ?_
    rotate_left
    ·rintro w' ⟨s0, s1, s2, s3, s4, s5, s6, s7, s8, s9, s10, s11, s12, s13, s14⟩
     go_simp
     with_reducible rfl
    rotate_left
    ·simp only [Act.put, List.setIfInBounds_toArray, List.set_cons_zero, List.set_cons_succ, i64_w, i32_w]
     rfl
    refine one_ (i := 1) (N := some 20) #[true, true, true, false, false, false, false, false, false, false, false, false, false, false, false, false, false, false, false] rfl rfl (one_of HT_.out (by kernel_rfl)) (by decide) (fun K hK => ?_)
    refine goes_ Tryd.func20 (by kernel_rfl) rfl #[.agg #[.int .i64 t606, .int .i64 t607, .int .i64 t608, .string t609, .bool t610, .int .u64 t611, .int .u64 t612, .bool t613, .int .u64 t614, .int .u64 t615, .bool t616, .int .u64 t617, .int .u64 t618, .bool t619, .slice Ao15 t620.length co15]] (by rfl) rfl rfl (by (try simp only [List.map_toArray, List.map_cons, List.map_nil]); first | done | rfl | (simp only [List.length_drop, List.length_take]; rfl)) ?_
    with_reducible refine (dhcp_Valid.calls k t606 t607 t608 t609 t610 t611 t612 t613 t614 t615 t616 t617 t618 t619 _ _ t620 t627 _ ?side1 ?side2 A5.out).mono ?_
    (case side1 => repeat (first | exact (Kd.R_reads' HO622.out).2.2 | (with_reducible refine Kd.C_alloc ?_ _) | (with_reducible refine Kd.C_drewN ?_ _) | (with_reducible refine Kd.C_drew ?_)))
    (case side2 => exact (Kd.R_reads' HO622.out).2.1)
    rintro e w20 ⟨rfl, hb⟩
    refine ⟨_, rfl, ?_⟩
    have n0_ := Aside0.mk (Kd.R_below (by (with_reducible repeat (first | apply Kd.R_alloc | apply Kd.R_drewN | apply Kd.R_drew)); exact HO622.out) hb)
    have n1_ := Aside0.mk (blk_below (bkx BK605.out) hb)
    have n2_ := Aside0.mk (below_step (hbx HB.out) hb)
    clear HO622
    clear BK605
    clear HB
    have HO622 := n0_
    have BK605 := n1_
    have HB := n2_
    clear n0_ n1_ n2_
    (try clear hb)
    (try clear hb2)
    (try clear hk)
    (try clear hi)
    refine hK.out _ _ (cz15 BK605.out) (fun hHeld => ?_)
    clear hK K
    refine norm_ (a' := ?_) ?_ ?_
    rotate_left
    ·show Act.put _ (some 20) _ = _
     simp only [Act.put, List.setIfInBounds_toArray, List.set_cons_zero, List.set_cons_succ, i64_w, i32_w]
     rfl
    refine one_ (i := 3) (N := some 22) #[true, true, true, true, false, false, false, false, false, false, false, false, false, false, false, false, false, false, false] rfl rfl (one_of HT_.out (by kernel_rfl)) (by decide) (fun K hK => ?_)
    refine goes_ Tryd.func23 (by kernel_rfl) rfl #[.agg #[.int .i64 t606, .int .i64 t607, .int .i64 t608, .string t609, .bool t610, .int .u64 t611, .int .u64 t612, .bool t613, .int .u64 t614, .int .u64 t615, .bool t616, .int .u64 t617, .int .u64 t618, .bool t619, .slice Ao15 t620.length co15]] (by rfl) rfl rfl (by (try simp only [List.map_toArray, List.map_cons, List.map_nil]); first | done | rfl | (simp only [List.length_drop, List.length_take]; rfl)) ?_
    with_reducible refine (ddiref36_Valid.calls k t606 t607 t608 t609 t610 t611 t612 t613 t614 t615 t616 t617 t618 t619 _ _ t620 t628 _ ?side1 ?side2 A6.out).mono ?_
    (case side1 => repeat (first | exact (Kd.R_reads' HO622.out).2.2 | (with_reducible refine Kd.C_alloc ?_ _) | (with_reducible refine Kd.C_drewN ?_ _) | (with_reducible refine Kd.C_drew ?_)))
    (case side2 => exact (Kd.R_reads' HO622.out).2.1)
    rintro e w21 ⟨rfl, hb⟩
    refine ⟨_, rfl, ?_⟩
    have n0_ := Aside0.mk (Kd.R_below (by (with_reducible repeat (first | apply Kd.R_alloc | apply Kd.R_drewN | apply Kd.R_drew)); exact HO622.out) hb)
    have n1_ := Aside0.mk (blk_below (bkx BK605.out) hb)
    have n2_ := Aside0.mk (below_step (hbx HB.out) hb)
    clear HO622
    clear BK605
    clear HB
    have HO622 := n0_
    have BK605 := n1_
    have HB := n2_
    clear n0_ n1_ n2_
    (try clear hb)
    (try clear hb2)
    (try clear hk)
    (try clear hi)
    refine hK.out _ _ (cz15 BK605.out) (fun hHeld => ?_)
    clear hK K
    refine norm_ (a' := ?_) ?_ ?_
    rotate_left
    ·show Act.put _ (some 22) _ = _
     simp only [Act.put, List.setIfInBounds_toArray, List.set_cons_zero, List.set_cons_succ, i64_w, i32_w]
     rfl
    refine pure_ (i := 4) (N := some 23) (v := ?_) (a' := ?_) #[true, true, true, true, true, false, false, false, false, false, false, false, false, false, false, false, false, false, false] rfl rfl (any_of HT_.out (by kernel_rfl)) (fun _ _ _ h => h) (Or.inl ⟨by rfl, ?_⟩) ?_ ?_
    rotate_left
    ·intro w'
     go_simp
     with_reducible rfl
    rotate_left
    ·simp only [Act.put, List.setIfInBounds_toArray, List.set_cons_zero, List.set_cons_succ, i64_w, i32_w]
     rfl
    refine pure_ (i := 5) (N := some 24) (v := ?_) (a' := ?_) #[true, true, true, true, true, true, false, false, false, false, false, false, false, false, false, false, false, false, false] rfl rfl (any_of HT_.out (by kernel_rfl)) (fun _ _ _ h => h) (Or.inl ⟨by rfl, ?_⟩) ?_ ?_
    rotate_left
    ·intro w'
     go_simp
     with_reducible rfl
    rotate_left
    ·simp only [Act.put, List.setIfInBounds_toArray, List.set_cons_zero, List.set_cons_succ, i64_w, i32_w]
     rfl
    refine pure_ (i := 6) (N := some 25) (v := ?_) (a' := ?_) #[true, true, true, true, true, true, true, false, false, false, false, false, false, false, false, false, false, false, false] rfl rfl (any_of HT_.out (by kernel_rfl)) (fun _ _ _ h => h) (Or.inl ⟨by rfl, ?_⟩) ?_ ?_
    rotate_left
    ·intro w'
     go_simp
     with_reducible rfl
    rotate_left
    ·simp only [Act.put, List.setIfInBounds_toArray, List.set_cons_zero, List.set_cons_succ, i64_w, i32_w]
     rfl
    refine pure_ (i := 7) (N := some 26) (v := ?_) (a' := ?_) #[true, true, true, true, true, true, true, true, false, false, false, false, false, false, false, false, false, false, false] rfl rfl (any_of HT_.out (by kernel_rfl)) (fun _ _ _ h => h) (Or.inl ⟨by rfl, ?_⟩) ?_ ?_
    rotate_left
    ·intro w'
     go_simp
     with_reducible rfl
    rotate_left
    ·simp only [Act.put, List.setIfInBounds_toArray, List.set_cons_zero, List.set_cons_succ, i64_w, i32_w]
     rfl
    refine pure_ (i := 8) (N := some 27) (v := ?_) (a' := ?_) #[true, true, true, true, true, true, true, true, true, false, false, false, false, false, false, false, false, false, false] rfl rfl (any_of HT_.out (by kernel_rfl)) (fun _ _ _ h => h) (Or.inl ⟨by rfl, ?_⟩) ?_ ?_
    rotate_left
    ·intro w'
     go_simp
     with_reducible rfl
    rotate_left
    ·simp only [Act.put, List.setIfInBounds_toArray, List.set_cons_zero, List.set_cons_succ, i64_w, i32_w]
     rfl
    refine pure_ (i := 9) (N := some 28) (v := ?_) (a' := ?_) #[true, true, true, true, true, true, true, true, true, true, false, false, false, false, false, false, false, false, false] rfl rfl (any_of HT_.out (by kernel_rfl)) (fun _ _ _ h => h) (Or.inl ⟨by rfl, ?_⟩) ?_ ?_
    rotate_left
    ·intro w'
     go_simp
     with_reducible rfl
    rotate_left
    ·simp only [Act.put, List.setIfInBounds_toArray, List.set_cons_zero, List.set_cons_succ, i64_w, i32_w]
     rfl
    refine pure_ (i := 10) (N := some 29) (v := ?_) (a' := ?_) #[true, true, true, true, true, true, true, true, true, true, true, false, false, false, false, false, false, false, false] rfl rfl (any_of HT_.out (by kernel_rfl)) (fun _ _ _ h => h) (Or.inl ⟨by rfl, ?_⟩) ?_ ?_
    rotate_left
    ·intro w'
     go_simp
     with_reducible rfl
    rotate_left
    ·simp only [Act.put, List.setIfInBounds_toArray, List.set_cons_zero, List.set_cons_succ, i64_w, i32_w]
     rfl
    refine pure_ (i := 11) (N := some 30) (v := ?_) (a' := ?_) #[true, true, true, true, true, true, true, true, true, true, true, true, false, false, false, false, false, false, false] rfl rfl (any_of HT_.out (by kernel_rfl)) (fun _ _ _ h => h) (Or.inl ⟨by rfl, ?_⟩) ?_ ?_
    rotate_left
    ·intro w'
     go_simp
     with_reducible rfl
    rotate_left
    ·simp only [Act.put, List.setIfInBounds_toArray, List.set_cons_zero, List.set_cons_succ, i64_w, i32_w]
     rfl
    refine pure_ (i := 12) (N := some 31) (v := ?_) (a' := ?_) #[true, true, true, true, true, true, true, true, true, true, true, true, true, false, false, false, false, false, false] rfl rfl (any_of HT_.out (by kernel_rfl)) (fun _ _ _ h => h) (Or.inl ⟨by rfl, ?_⟩) ?_ ?_
    rotate_left
    ·intro w'
     go_simp
     with_reducible rfl
    rotate_left
    ·simp only [Act.put, List.setIfInBounds_toArray, List.set_cons_zero, List.set_cons_succ, i64_w, i32_w]
     rfl
    refine pure_ (i := 13) (N := some 32) (v := ?_) (a' := ?_) #[true, true, true, true, true, true, true, true, true, true, true, true, true, true, false, false, false, false, false] rfl rfl (any_of HT_.out (by kernel_rfl)) (fun _ _ _ h => h) (Or.inl ⟨by rfl, ?_⟩) ?_ ?_
    rotate_left
    ·intro w'
     go_simp
     with_reducible rfl
    rotate_left
    ·simp only [Act.put, List.setIfInBounds_toArray, List.set_cons_zero, List.set_cons_succ, i64_w, i32_w]
     rfl
    refine pure_ (i := 14) (N := some 33) (v := ?_) (a' := ?_) #[true, true, true, true, true, true, true, true, true, true, true, true, true, true, true, false, false, false, false] rfl rfl (any_of HT_.out (by kernel_rfl)) (fun _ _ _ h => h) (Or.inl ⟨by rfl, ?_⟩) ?_ ?_
    rotate_left
    ·intro w'
     go_simp
     with_reducible rfl
    rotate_left
    ·simp only [Act.put, List.setIfInBounds_toArray, List.set_cons_zero, List.set_cons_succ, i64_w, i32_w]
     rfl
    refine pure_ (i := 15) (N := some 34) (v := ?_) (a' := ?_) #[true, true, true, true, true, true, true, true, true, true, true, true, true, true, true, true, false, false, false] rfl rfl (any_of HT_.out (by kernel_rfl)) (fun _ _ _ h => h) (Or.inl ⟨by rfl, ?_⟩) ?_ ?_
    rotate_left
    ·intro w'
     go_simp
     with_reducible rfl
    rotate_left
    ·simp only [Act.put, List.setIfInBounds_toArray, List.set_cons_zero, List.set_cons_succ, i64_w, i32_w]
     rfl
    refine one_ (i := 16) (N := some 35) #[true, true, true, true, true, true, true, true, true, true, true, true, true, true, true, true, true, false, false] rfl rfl (one_of HT_.out (by kernel_rfl)) (by decide) (fun K hK => ?_)
    refine goes_ Tryd.func18 (by kernel_rfl) rfl #[] (by rfl) rfl rfl (by (try simp only [List.map_toArray, List.map_cons, List.map_nil]); first | done | rfl | (simp only [List.length_drop, List.length_take]; rfl)) ?_
    with_reducible refine (ddilaw36_awake.calls k  t629 _ A10.out).mono ?_
    rintro e w22 ⟨rfl, hb⟩
    refine ⟨_, rfl, ?_⟩
    have n0_ := Aside0.mk (Kd.R_below (by (with_reducible repeat (first | apply Kd.R_alloc | apply Kd.R_drewN | apply Kd.R_drew)); exact HO622.out) hb)
    have n1_ := Aside0.mk (blk_below (bkx BK605.out) hb)
    have n2_ := Aside0.mk (below_step (hbx HB.out) hb)
    clear HO622
    clear BK605
    clear HB
    have HO622 := n0_
    have BK605 := n1_
    have HB := n2_
    clear n0_ n1_ n2_
    (try clear hb)
    (try clear hb2)
    (try clear hk)
    (try clear hi)
    refine hK.out _ _ (cz15 BK605.out) (fun hHeld => ?_)
    clear hK K
    refine norm_ (a' := ?_) ?_ ?_
    rotate_left
    ·show Act.put _ (some 35) _ = _
     simp only [Act.put, List.setIfInBounds_toArray, List.set_cons_zero, List.set_cons_succ, i64_w, i32_w]
     rfl
    refine pure_ (i := 17) (N := some 36) (v := ?_) (a' := ?_) #[true, true, true, true, true, true, true, true, true, true, true, true, true, true, true, true, true, true, false] rfl rfl (any_of HT_.out (by kernel_rfl)) (fun _ _ _ h => h) (Or.inl ⟨by rfl, ?_⟩) ?_ ?_
    rotate_left
    ·intro w'
     go_simp
     with_reducible rfl
    rotate_left
    ·simp only [Act.put, List.setIfInBounds_toArray, List.set_cons_zero, List.set_cons_succ, i64_w, i32_w]
     rfl
    refine pure_ (i := 18) (N := some 2) (v := ?_) (a' := ?_) #[true, true, true, true, true, true, true, true, true, true, true, true, true, true, true, true, true, true, true] rfl rfl (any_of HT_.out (by kernel_rfl)) (fun _ _ _ h => h) (Or.inl ⟨by rfl, ?_⟩) ?_ ?_
    rotate_left
    ·intro w'
     go_simp
     with_reducible rfl
    rotate_left
    ·simp only [Act.put, List.setIfInBounds_toArray, List.set_cons_zero, List.set_cons_succ, i64_w, i32_w]
     rfl
    refine done_ (done_of HT_.out (by kernel_rfl)) ?_
    try go_wp2
    go_ret
    exact ⟨by first | rfl | (simp [errW_none, errW_some] <;> rfl) | (simp [*, errW_none, errW_some] <;> rfl), by repeat (first | (with_reducible first | exact HB.out | apply below_alloc | apply pw_below_drewN | apply below_drew1 | refine below_set ?_ GE605.out) | exact HB.out)⟩
   ·rw [if_neg c9] at H
    exact absurd H (by simp)
  ·rw [if_neg c8] at H
   exact absurd H (by simp)
 ·rw [if_neg c7] at H
  exact absurd H (by simp)

end Go.Proofs.YtcoekgnbncocnaaDoor.Pa

