/- Parts of the proof of this claim's statement (joined by a program of this session): Pax52. -/
import Derived.Test.YtcoekgnbncocnaaDoorGr4
import Derived.Test.YtcoekgnbncocnaaDoorGr1
import Derived.Test.YtcoekgnbncocnaaDoorGr5
import Derived.Test.YtcoekgnbncocnaaDoorGr3
namespace Go.Proofs.YtcoekgnbncocnaaDoor.Pa
open Go.RowKit Go.Proofs.YtcoekgnbncocnaaDoorW.PrintWords Go.Proofs.YtcoekgnbncocnaaDoorW.PrintLast Go.Proofs.YtcoekgnbncocnaaDoorW.PrintMore
attribute [local go_sem] max2_int min2_int max_two min_two max_three min_three max_four min_four   -- for this text's walks alone
set_option linter.unusedVariables false
set_option linter.unusedSimpArgs false

def ddilaw36_DhcpGrants.f (k : Nat) (a0_0 : Int) (a0_1 : Int) (a0_2 : Int) (a0_3 : ByteArray) (a0_4 : Bool) (a0_5 : Int) (a0_6 : Int) (a0_7 : Bool) (a0_8 : Int) (a0_9 : Int) (a0_10 : Bool) (a0_11 : Int) (a0_12 : Int) (a0_13 : Bool) (l0_14 : List (S61)) (a1_0 : Bool) (a1_1 : Int) (a1_2 : Int) (a2_0 : Bool) (a2_1 : Int) (a2_2 : Int) (a2_3 : Int) (a2_4 : ByteArray) (l2_5 : List (S139)) (l2_6 : List (S141)) (l2_7 : List (S61)) (a2_8 : Int) : Option (Bool) := (ddiref36_Short.f k a0_0 a0_1 a0_2 a0_3 a0_4 a0_5 a0_6 a0_7 a0_8 a0_9 a0_10 a0_11 a0_12 a0_13 l0_14).bind fun bt730 => ((ddiref36_Short.f k 0 0 0 (⟨#[]⟩ : ByteArray) false 0 0 false 0 0 false 0 0 false l2_7).bind fun bt747 => ((dhcp_Grant.f k bt730.1 bt730.2.1 bt730.2.2.1 bt730.2.2.2.1 bt730.2.2.2.2.1 bt730.2.2.2.2.2.1 bt730.2.2.2.2.2.2.1 bt730.2.2.2.2.2.2.2.1 bt730.2.2.2.2.2.2.2.2.1 bt730.2.2.2.2.2.2.2.2.2.1 bt730.2.2.2.2.2.2.2.2.2.2.1 bt730.2.2.2.2.2.2.2.2.2.2.2.1 bt730.2.2.2.2.2.2.2.2.2.2.2.2.1 bt730.2.2.2.2.2.2.2.2.2.2.2.2.2.1 bt730.2.2.2.2.2.2.2.2.2.2.2.2.2.2 a1_0 a1_1 a1_2 a2_0 a2_1 a2_2 a2_3 a2_4 l2_5 l2_6 bt747.2.2.2.2.2.2.2.2.2.2.2.2.2.2 a2_8).bind fun bt764 => ((ddiref36_Grant.f k bt730.1 bt730.2.1 bt730.2.2.1 bt730.2.2.2.1 bt730.2.2.2.2.1 bt730.2.2.2.2.2.1 bt730.2.2.2.2.2.2.1 bt730.2.2.2.2.2.2.2.1 bt730.2.2.2.2.2.2.2.2.1 bt730.2.2.2.2.2.2.2.2.2.1 bt730.2.2.2.2.2.2.2.2.2.2.1 bt730.2.2.2.2.2.2.2.2.2.2.2.1 bt730.2.2.2.2.2.2.2.2.2.2.2.2.1 bt730.2.2.2.2.2.2.2.2.2.2.2.2.2.1 bt730.2.2.2.2.2.2.2.2.2.2.2.2.2.2 a1_0 a1_1 a1_2 a2_0 a2_1 a2_2 a2_3 a2_4 l2_5 l2_6 bt747.2.2.2.2.2.2.2.2.2.2.2.2.2.2 a2_8).bind fun bt781 => ((ddiref36_Same.f k bt764.1 bt764.2.1 bt764.2.2.1 bt764.2.2.2.1 bt764.2.2.2.2.1 bt764.2.2.2.2.2.1 bt764.2.2.2.2.2.2.1 bt764.2.2.2.2.2.2.2.1 bt764.2.2.2.2.2.2.2.2.1 bt764.2.2.2.2.2.2.2.2.2.1 bt764.2.2.2.2.2.2.2.2.2.2.1 bt764.2.2.2.2.2.2.2.2.2.2.2.1 bt764.2.2.2.2.2.2.2.2.2.2.2.2.1 bt764.2.2.2.2.2.2.2.2.2.2.2.2.2.1 bt764.2.2.2.2.2.2.2.2.2.2.2.2.2.2 bt781.1 bt781.2.1 bt781.2.2.1 bt781.2.2.2.1 bt781.2.2.2.2.1 bt781.2.2.2.2.2.1 bt781.2.2.2.2.2.2.1 bt781.2.2.2.2.2.2.2.1 bt781.2.2.2.2.2.2.2.2.1 bt781.2.2.2.2.2.2.2.2.2.1 bt781.2.2.2.2.2.2.2.2.2.2.1 bt781.2.2.2.2.2.2.2.2.2.2.2.1 bt781.2.2.2.2.2.2.2.2.2.2.2.2.1 bt781.2.2.2.2.2.2.2.2.2.2.2.2.2.1 bt781.2.2.2.2.2.2.2.2.2.2.2.2.2.2).bind fun t798 => (if t798 = true then ((ddilaw36_awake.f k).bind fun t799 => (some t799)) else (none))))))
def ddilaw36_DhcpGrants.T3 : Bool × List (List Nat × List Nat) := (true, [([], []), ([], []), ([], []), ([0, 1, 2], [0, 1, 2]), ([], []), ([], []), ([], []), ([4, 5, 6, 3], [4, 5, 6]), ([3, 7, 7], [3, 7]), ([8, 8], [8]), ([9, 9], [9]), ([9, 10], [9, 10]), ([11, 10, 0, 1, 2, 3, 4, 5, 6, 7, 8, 9, 10, 11], [11])])
def ddilaw36_DhcpGrants.B3 : List Nat := [0, 0, 0, 7, 0, 0, 0, 127, 255, 511, 1023, 2047, 4095]
theorem ddilaw36_DhcpGrants.tab3 : rtab .any (opsOf Tryd.f7 3) = ddilaw36_DhcpGrants.T3 := by kernel_rfl
theorem ddilaw36_DhcpGrants.bits3 : waitsOk ddilaw36_DhcpGrants.T3.2 ddilaw36_DhcpGrants.B3 = true := by kernel_rfl
set_option maxHeartbeats 8000000 in
set_option maxRecDepth 100000 in
theorem ddilaw36_DhcpGrants.calls (k : Nat) (a0_0 : Int) (a0_1 : Int) (a0_2 : Int) (a0_3 : ByteArray) (a0_4 : Bool) (a0_5 : Int) (a0_6 : Int) (a0_7 : Bool) (a0_8 : Int) (a0_9 : Int) (a0_10 : Bool) (a0_11 : Int) (a0_12 : Int) (a0_13 : Bool) (A0_14 : Option Addr) (c0_14 : Nat) (l0_14 : List (S61)) (a1_0 : Bool) (a1_1 : Int) (a1_2 : Int) (a2_0 : Bool) (a2_1 : Int) (a2_2 : Int) (a2_3 : Int) (a2_4 : ByteArray) (A2_5 : Option Addr) (c2_5 : Nat) (l2_5 : List (S139)) (A2_6 : Option Addr) (c2_6 : Nat) (l2_6 : List (S141)) (A2_7 : Option Addr) (c2_7 : Nat) (l2_7 : List (S61)) (a2_8 : Int) (r : Bool) (w : World) (hr0_14 : Kd.C k61 w A0_14 l0_14.length l0_14) (hc0_14 : l0_14.length ≤ c0_14) (hr2_5 : Kd.C k139 w A2_5 l2_5.length l2_5) (hc2_5 : l2_5.length ≤ c2_5) (hr2_6 : Kd.C k141 w A2_6 l2_6.length l2_6) (hc2_6 : l2_6.length ≤ c2_6) (hr2_7 : Kd.C k61 w A2_7 l2_7.length l2_7) (hc2_7 : l2_7.length ≤ c2_7) (h : ddilaw36_DhcpGrants.f k a0_0 a0_1 a0_2 a0_3 a0_4 a0_5 a0_6 a0_7 a0_8 a0_9 a0_10 a0_11 a0_12 a0_13 l0_14 a1_0 a1_1 a1_2 a2_0 a2_1 a2_2 a2_3 a2_4 l2_5 l2_6 l2_7 a2_8 = some r) :
  Calls Tryd.prog 7 #[.agg #[.int .i64 a0_0, .int .i64 a0_1, .int .i64 a0_2, .string a0_3, .bool a0_4, .int .u64 a0_5, .int .u64 a0_6, .bool a0_7, .int .u64 a0_8, .int .u64 a0_9, .bool a0_10, .int .u64 a0_11, .int .u64 a0_12, .bool a0_13, .slice A0_14 l0_14.length c0_14], .agg #[.bool a1_0, .int .u64 a1_1, .int .u64 a1_2], .agg #[.bool a2_0, .int .u64 a2_1, .int .u64 a2_2, .int .i64 a2_3, .string a2_4, .slice A2_5 l2_5.length c2_5, .slice A2_6 l2_6.length c2_6, .slice A2_7 l2_7.length c2_7, .int .i64 a2_8]] w fun e w' => e = .returned (.bool r) ∧ Below w.heap.size w w' := by
 have hfld14 := @fld14
 have hu27 := Tryd.underlying27
 have hu24 := Tryd.underlying24
 have hu53 := Tryd.underlying53
 have HR0_14 := Aside0.mk hr0_14
 have HC0_14 := Aside0.mk hc0_14
 clear hr0_14 hc0_14
 have HR2_5 := Aside0.mk hr2_5
 have HC2_5 := Aside0.mk hc2_5
 clear hr2_5 hc2_5
 have HR2_6 := Aside0.mk hr2_6
 have HC2_6 := Aside0.mk hc2_6
 clear hr2_6 hc2_6
 have HR2_7 := Aside0.mk hr2_7
 have HC2_7 := Aside0.mk hc2_7
 clear hr2_7 hc2_7
 have HB := Aside0.mk (Below.refl w.heap.size w)
 have H : ((ddiref36_Short.f k a0_0 a0_1 a0_2 a0_3 a0_4 a0_5 a0_6 a0_7 a0_8 a0_9 a0_10 a0_11 a0_12 a0_13 l0_14).bind fun bt730 => ((ddiref36_Short.f k 0 0 0 (⟨#[]⟩ : ByteArray) false 0 0 false 0 0 false 0 0 false l2_7).bind fun bt747 => ((dhcp_Grant.f k bt730.1 bt730.2.1 bt730.2.2.1 bt730.2.2.2.1 bt730.2.2.2.2.1 bt730.2.2.2.2.2.1 bt730.2.2.2.2.2.2.1 bt730.2.2.2.2.2.2.2.1 bt730.2.2.2.2.2.2.2.2.1 bt730.2.2.2.2.2.2.2.2.2.1 bt730.2.2.2.2.2.2.2.2.2.2.1 bt730.2.2.2.2.2.2.2.2.2.2.2.1 bt730.2.2.2.2.2.2.2.2.2.2.2.2.1 bt730.2.2.2.2.2.2.2.2.2.2.2.2.2.1 bt730.2.2.2.2.2.2.2.2.2.2.2.2.2.2 a1_0 a1_1 a1_2 a2_0 a2_1 a2_2 a2_3 a2_4 l2_5 l2_6 bt747.2.2.2.2.2.2.2.2.2.2.2.2.2.2 a2_8).bind fun bt764 => ((ddiref36_Grant.f k bt730.1 bt730.2.1 bt730.2.2.1 bt730.2.2.2.1 bt730.2.2.2.2.1 bt730.2.2.2.2.2.1 bt730.2.2.2.2.2.2.1 bt730.2.2.2.2.2.2.2.1 bt730.2.2.2.2.2.2.2.2.1 bt730.2.2.2.2.2.2.2.2.2.1 bt730.2.2.2.2.2.2.2.2.2.2.1 bt730.2.2.2.2.2.2.2.2.2.2.2.1 bt730.2.2.2.2.2.2.2.2.2.2.2.2.1 bt730.2.2.2.2.2.2.2.2.2.2.2.2.2.1 bt730.2.2.2.2.2.2.2.2.2.2.2.2.2.2 a1_0 a1_1 a1_2 a2_0 a2_1 a2_2 a2_3 a2_4 l2_5 l2_6 bt747.2.2.2.2.2.2.2.2.2.2.2.2.2.2 a2_8).bind fun bt781 => ((ddiref36_Same.f k bt764.1 bt764.2.1 bt764.2.2.1 bt764.2.2.2.1 bt764.2.2.2.2.1 bt764.2.2.2.2.2.1 bt764.2.2.2.2.2.2.1 bt764.2.2.2.2.2.2.2.1 bt764.2.2.2.2.2.2.2.2.1 bt764.2.2.2.2.2.2.2.2.2.1 bt764.2.2.2.2.2.2.2.2.2.2.1 bt764.2.2.2.2.2.2.2.2.2.2.2.1 bt764.2.2.2.2.2.2.2.2.2.2.2.2.1 bt764.2.2.2.2.2.2.2.2.2.2.2.2.2.1 bt764.2.2.2.2.2.2.2.2.2.2.2.2.2.2 bt781.1 bt781.2.1 bt781.2.2.1 bt781.2.2.2.1 bt781.2.2.2.2.1 bt781.2.2.2.2.2.1 bt781.2.2.2.2.2.2.1 bt781.2.2.2.2.2.2.2.1 bt781.2.2.2.2.2.2.2.2.1 bt781.2.2.2.2.2.2.2.2.2.1 bt781.2.2.2.2.2.2.2.2.2.2.1 bt781.2.2.2.2.2.2.2.2.2.2.2.1 bt781.2.2.2.2.2.2.2.2.2.2.2.2.1 bt781.2.2.2.2.2.2.2.2.2.2.2.2.2.1 bt781.2.2.2.2.2.2.2.2.2.2.2.2.2.2).bind fun t798 => (if t798 = true then ((ddilaw36_awake.f k).bind fun t799 => (some t799)) else (none))))))) = some r := h
 clear h
 replace H := Option.bind_eq_some_iff.mp H
 obtain ⟨⟨t730, t731, t732, t733, t734, t735, t736, t737, t738, t739, t740, t741, t742, t743, t744⟩, A40, H⟩ := H
 (try dsimp only at H)
 have A4 := Aside0.mk A40
 clear A40
 replace H := Option.bind_eq_some_iff.mp H
 obtain ⟨⟨t747, t748, t749, t750, t751, t752, t753, t754, t755, t756, t757, t758, t759, t760, t761⟩, A50, H⟩ := H
 (try dsimp only at H)
 have A5 := Aside0.mk A50
 clear A50
 replace H := Option.bind_eq_some_iff.mp H
 obtain ⟨⟨t764, t765, t766, t767, t768, t769, t770, t771, t772, t773, t774, t775, t776, t777, t778⟩, A60, H⟩ := H
 (try dsimp only at H)
 have A6 := Aside0.mk A60
 clear A60
 replace H := Option.bind_eq_some_iff.mp H
 obtain ⟨⟨t781, t782, t783, t784, t785, t786, t787, t788, t789, t790, t791, t792, t793, t794, t795⟩, A70, H⟩ := H
 (try dsimp only at H)
 have A7 := Aside0.mk A70
 clear A70
 replace H := Option.bind_eq_some_iff.mp H
 obtain ⟨t798, A80, H⟩ := H
 (try dsimp only at H)
 have A8 := Aside0.mk A80
 clear A80
 by_cases c9 : t798 = true
 ·subst c9
  rw [if_pos rfl] at H
  replace H := Option.bind_eq_some_iff.mp H
  obtain ⟨t799, A100, H⟩ := H
  replace H : (some t799) = some r := H
  have A10 := Aside0.mk A100
  clear A100
  obtain rfl := Option.some.inj H
  go_enter Tryd.func7, Tryd.ntmps7
  try go_wp2_with (first | ((with_reducible refine gate_dst (N := 3) rfl ?_); refine box_event ?hg (N := 3) ?hd (cs := #[.int .i64 a0_0, .int .i64 a0_1, .int .i64 a0_2, .string a0_3, .bool a0_4, .int .u64 a0_5, .int .u64 a0_6, .bool a0_7, .int .u64 a0_8, .int .u64 a0_9, .bool a0_10, .int .u64 a0_11, .int .u64 a0_12, .bool a0_13, .slice A0_14 l0_14.length c0_14]) (t := 27) ?hr ?_; (case hd => rfl); (case hg => rfl); (case hr => first | (go_simp; done) | (go_simp; rfl)); intro gb727 hg w11 hbox hb; have n0_ := Aside0.mk (below_step (hbx HB.out) hb); have n1_ := Aside0.mk (hbox); have n2_ := Aside0.mk ((by rw [hg]; exact (below_size (hbx HB.out)) : w.heap.size ≤ gb727)); have n3_ := Aside0.mk ((by rw [hg]; exact (below_size (hbx HB.out)) : w.heap.size ≤ gb727)); clear HB; have HB := n0_; have BK727 := n1_; have GW727 := n2_; have GE727 := n3_; clear n0_ n1_ n2_ n3_; clear hb hbox hg) | ((with_reducible refine gate_dst (N := 4) rfl ?_); refine box_event ?hg (N := 4) ?hd (cs := #[.bool a1_0, .int .u64 a1_1, .int .u64 a1_2]) (t := 24) ?hr ?_; (case hd => rfl); (case hg => rfl); (case hr => first | (go_simp; done) | (go_simp; rfl)); intro gb728 hg w12 hbox hb; have n0_ := Aside0.mk (blk_below (bkx BK727.out) hb); have n1_ := Aside0.mk (below_step (hbx HB.out) hb); have n2_ := Aside0.mk (hbox); have n3_ := Aside0.mk ((by rw [hg]; exact (below_size (hbx HB.out)) : w.heap.size ≤ gb728)); have n4_ := Aside0.mk ((by rw [hg]; exact (below_size (hbx HB.out)) : w.heap.size ≤ gb728)); have n5_ := Aside0.mk ((by rw [hg]; exact Nat.ne_of_lt (blk_lt (bkx BK727.out)) : gb727 ≠ gb728)); have n6_ := Aside0.mk ((by rw [hg]; exact Nat.ne_of_gt (blk_lt (bkx BK727.out)) : gb728 ≠ gb727)); clear BK727; clear HB; have BK727 := n0_; have HB := n1_; have BK728 := n2_; have GW728 := n3_; have GE728 := n4_; have NB727_728 := n5_; have NB728_727 := n6_; clear n0_ n1_ n2_ n3_ n4_ n5_ n6_; clear hb hbox hg) | ((with_reducible refine gate_dst (N := 5) rfl ?_); refine box_event ?hg (N := 5) ?hd (cs := #[.bool a2_0, .int .u64 a2_1, .int .u64 a2_2, .int .i64 a2_3, .string a2_4, .slice A2_5 l2_5.length c2_5, .slice A2_6 l2_6.length c2_6, .slice A2_7 l2_7.length c2_7, .int .i64 a2_8]) (t := 53) ?hr ?_; (case hd => rfl); (case hg => rfl); (case hr => first | (go_simp; done) | (go_simp; rfl)); intro gb729 hg w13 hbox hb; have n0_ := Aside0.mk (blk_below (bkx BK727.out) hb); have n1_ := Aside0.mk (blk_below (bkx BK728.out) hb); have n2_ := Aside0.mk (below_step (hbx HB.out) hb); have n3_ := Aside0.mk (hbox); have n4_ := Aside0.mk ((by rw [hg]; exact (below_size (hbx HB.out)) : w.heap.size ≤ gb729)); have n5_ := Aside0.mk ((by rw [hg]; exact (below_size (hbx HB.out)) : w.heap.size ≤ gb729)); have n6_ := Aside0.mk ((by rw [hg]; exact Nat.ne_of_lt (blk_lt (bkx BK727.out)) : gb727 ≠ gb729)); have n7_ := Aside0.mk ((by rw [hg]; exact Nat.ne_of_gt (blk_lt (bkx BK727.out)) : gb729 ≠ gb727)); have n8_ := Aside0.mk ((by rw [hg]; exact Nat.ne_of_lt (blk_lt (bkx BK728.out)) : gb728 ≠ gb729)); have n9_ := Aside0.mk ((by rw [hg]; exact Nat.ne_of_gt (blk_lt (bkx BK728.out)) : gb729 ≠ gb728)); clear BK727; clear BK728; clear HB; have BK727 := n0_; have BK728 := n1_; have HB := n2_; have BK729 := n3_; have GW729 := n4_; have GE729 := n5_; have NB727_729 := n6_; have NB729_727 := n7_; have NB728_729 := n8_; have NB729_728 := n9_; clear n0_ n1_ n2_ n3_ n4_ n5_ n6_ n7_ n8_ n9_; clear hb hbox hg; have hnb14 := NB727_728.out; have hnc14 := NB728_727.out; have hnb15 := NB727_729.out; have hnc15 := NB729_727.out; obtain ⟨⟨hcz16_0, hcz16_1, hcz16_2, hcz16_3, hcz16_4, hcz16_5, hcz16_6, hcz16_7, hcz16_8, hcz16_9, hcz16_10, hcz16_11, hcz16_12, hcz16_13, hcz16_14⟩, hfz16_0, hfz16_1, hfz16_2, hfz16_3, hfz16_4, hfz16_5, hfz16_6, hfz16_7, hfz16_8, hfz16_9, hfz16_10, hfz16_11, hfz16_12, hfz16_13, hfz16_14⟩ := cf15 BK727.out) | ((with_reducible refine gate_callee (f := 10) rfl ?_); refine goesL_ (some 8) rfl rfl Tryd.func10 (by kernel_rfl) rfl #[.agg #[.int .i64 a0_0, .int .i64 a0_1, .int .i64 a0_2, .string a0_3, .bool a0_4, .int .u64 a0_5, .int .u64 a0_6, .bool a0_7, .int .u64 a0_8, .int .u64 a0_9, .bool a0_10, .int .u64 a0_11, .int .u64 a0_12, .bool a0_13, .slice A0_14 l0_14.length c0_14]] rfl (by (try simp only [List.map_toArray, List.map_cons, List.map_nil]); first | done | rfl | (simp only [List.length_drop, List.length_take]; rfl)) ?_; (with_reducible refine (ddiref36_Short.calls k a0_0 a0_1 a0_2 a0_3 a0_4 a0_5 a0_6 a0_7 a0_8 a0_9 a0_10 a0_11 a0_12 a0_13 _ _ l0_14 t730 t731 t732 t733 t734 t735 t736 t737 t738 t739 t740 t741 t742 t743 t744 _ ?side1 ?side2 A4.out).mono ?_); (case side1 => repeat (first | exact (Kd.C_below HR0_14.out HB.out) | (with_reducible refine Kd.C_alloc ?_ _) | (with_reducible refine Kd.C_drewN ?_ _) | (with_reducible refine Kd.C_drew ?_))); (case side2 => exact HC0_14.out); rintro e w17 ⟨v745, rfl, ho0, hb⟩; refine ⟨_, rfl, ?_⟩; have n0_ := Aside0.mk (Kd.R_lower ho0 (below_size (hbx HB.out))); have n1_ := Aside0.mk (blk_below (bkx BK727.out) hb); have n2_ := Aside0.mk (blk_below (bkx BK728.out) hb); have n3_ := Aside0.mk (blk_below (bkx BK729.out) hb); have n4_ := Aside0.mk (below_step (hbx HB.out) hb); clear BK727; clear BK728; clear BK729; clear HB; have HO746 := n0_; have BK727 := n1_; have BK728 := n2_; have BK729 := n3_; have HB := n4_; clear n0_ n1_ n2_ n3_ n4_; (try clear hb); (try clear hb2); (try clear hk); (try clear hi); (try clear ho0); obtain ⟨⟨hcz18_0, hcz18_1, hcz18_2, hcz18_3, hcz18_4, hcz18_5, hcz18_6, hcz18_7, hcz18_8, hcz18_9, hcz18_10, hcz18_11, hcz18_12, hcz18_13, hcz18_14⟩, hfz18_0, hfz18_1, hfz18_2, hfz18_3, hfz18_4, hfz18_5, hfz18_6, hfz18_7, hfz18_8, hfz18_9, hfz18_10, hfz18_11, hfz18_12, hfz18_13, hfz18_14⟩ := cf15 BK727.out; obtain ⟨Ao19, co19, eo19⟩ := Kd.R_slice HO746.out; subst eo19; have hnb20 := NB729_728.out; have hnc20 := NB728_729.out; obtain ⟨⟨hcz21_0, hcz21_1, hcz21_2, hcz21_3, hcz21_4, hcz21_5, hcz21_6, hcz21_7, hcz21_8⟩, hfz21_0, hfz21_1, hfz21_2, hfz21_3, hfz21_4, hfz21_5, hfz21_6, hfz21_7, hfz21_8⟩ := cf9 BK729.out) | ((with_reducible refine gate_callee (f := 10) rfl ?_); refine goesL_ (some 12) rfl rfl Tryd.func10 (by kernel_rfl) rfl #[.agg #[.int .i64 0, .int .i64 0, .int .i64 0, .string (⟨#[]⟩ : ByteArray), .bool false, .int .u64 0, .int .u64 0, .bool false, .int .u64 0, .int .u64 0, .bool false, .int .u64 0, .int .u64 0, .bool false, .slice A2_7 l2_7.length c2_7]] rfl (by (try simp only [List.map_toArray, List.map_cons, List.map_nil]); first | done | rfl | (simp only [List.length_drop, List.length_take]; rfl)) ?_; (with_reducible refine (ddiref36_Short.calls k 0 0 0 (⟨#[]⟩ : ByteArray) false 0 0 false 0 0 false 0 0 false _ _ l2_7 t747 t748 t749 t750 t751 t752 t753 t754 t755 t756 t757 t758 t759 t760 t761 _ ?side1 ?side2 A5.out).mono ?_); (case side1 => exact Kd.C_below HR2_7.out (hbx HB.out)); (case side2 => exact HC2_7.out); rintro e w22 ⟨v762, rfl, ho0, hb⟩; refine ⟨_, rfl, ?_⟩; have n0_ := Aside0.mk (Kd.R_elder' (by (with_reducible repeat (first | apply Kd.R_alloc | apply Kd.R_drewN | apply Kd.R_drew)); exact (Kd.R_mono (rf15 (g := gb727) (Kd.R_types HO746.out BK727.out (by decide)) (fun _ hk => hk.2)) (fun _ h_ => h_.1))) (Kd.R_base ho0) hb); have n1_ := Aside0.mk (Kd.R_lower (Kd.R_new' ho0 (Kd.R_lt (by (with_reducible repeat (first | apply Kd.R_alloc | apply Kd.R_drewN | apply Kd.R_drew)); exact (Kd.R_mono (rf15 (g := gb727) (Kd.R_types HO746.out BK727.out (by decide)) (fun _ hk => hk.2)) (fun _ h_ => h_.1))))) (below_size (hbx HB.out))); have n2_ := Aside0.mk (blk_below (g := gb727) (o := .cells #[.int .i64 t730, .int .i64 t731, .int .i64 t732, .string t733, .bool t734, .int .u64 t735, .int .u64 t736, .bool t737, .int .u64 t738, .int .u64 t739, .bool t740, .int .u64 t741, .int .u64 t742, .bool t743, .slice Ao19 t744.length co19] 27 (0, 0)) (by (with_reducible repeat (first | refine blk_drewN ?_ _ | refine blk_drew ?_ | refine blk_alloc ?_ _)); refine blk_put (cs := #[.int .i64 t730, .int .i64 t731, .int .i64 t732, .string t733, .bool t734, .int .u64 t735, .int .u64 t736, .bool t737, .int .u64 t738, .int .u64 t739, .bool t740, .int .u64 t741, .int .u64 t742, .bool t743, .slice A0_14 l0_14.length c0_14]) ?_ 14 _ rfl; (with_reducible repeat (first | refine blk_drewN ?_ _ | refine blk_drew ?_ | refine blk_alloc ?_ _)); refine blk_put (cs := #[.int .i64 t730, .int .i64 t731, .int .i64 t732, .string t733, .bool t734, .int .u64 t735, .int .u64 t736, .bool t737, .int .u64 t738, .int .u64 t739, .bool t740, .int .u64 t741, .int .u64 t742, .bool a0_13, .slice A0_14 l0_14.length c0_14]) ?_ 13 _ rfl; (with_reducible repeat (first | refine blk_drewN ?_ _ | refine blk_drew ?_ | refine blk_alloc ?_ _)); refine blk_put (cs := #[.int .i64 t730, .int .i64 t731, .int .i64 t732, .string t733, .bool t734, .int .u64 t735, .int .u64 t736, .bool t737, .int .u64 t738, .int .u64 t739, .bool t740, .int .u64 t741, .int .u64 a0_12, .bool a0_13, .slice A0_14 l0_14.length c0_14]) ?_ 12 _ rfl; (with_reducible repeat (first | refine blk_drewN ?_ _ | refine blk_drew ?_ | refine blk_alloc ?_ _)); refine blk_put (cs := #[.int .i64 t730, .int .i64 t731, .int .i64 t732, .string t733, .bool t734, .int .u64 t735, .int .u64 t736, .bool t737, .int .u64 t738, .int .u64 t739, .bool t740, .int .u64 a0_11, .int .u64 a0_12, .bool a0_13, .slice A0_14 l0_14.length c0_14]) ?_ 11 _ rfl; (with_reducible repeat (first | refine blk_drewN ?_ _ | refine blk_drew ?_ | refine blk_alloc ?_ _)); refine blk_put (cs := #[.int .i64 t730, .int .i64 t731, .int .i64 t732, .string t733, .bool t734, .int .u64 t735, .int .u64 t736, .bool t737, .int .u64 t738, .int .u64 t739, .bool a0_10, .int .u64 a0_11, .int .u64 a0_12, .bool a0_13, .slice A0_14 l0_14.length c0_14]) ?_ 10 _ rfl; (with_reducible repeat (first | refine blk_drewN ?_ _ | refine blk_drew ?_ | refine blk_alloc ?_ _)); refine blk_put (cs := #[.int .i64 t730, .int .i64 t731, .int .i64 t732, .string t733, .bool t734, .int .u64 t735, .int .u64 t736, .bool t737, .int .u64 t738, .int .u64 a0_9, .bool a0_10, .int .u64 a0_11, .int .u64 a0_12, .bool a0_13, .slice A0_14 l0_14.length c0_14]) ?_ 9 _ rfl; (with_reducible repeat (first | refine blk_drewN ?_ _ | refine blk_drew ?_ | refine blk_alloc ?_ _)); refine blk_put (cs := #[.int .i64 t730, .int .i64 t731, .int .i64 t732, .string t733, .bool t734, .int .u64 t735, .int .u64 t736, .bool t737, .int .u64 a0_8, .int .u64 a0_9, .bool a0_10, .int .u64 a0_11, .int .u64 a0_12, .bool a0_13, .slice A0_14 l0_14.length c0_14]) ?_ 8 _ rfl; (with_reducible repeat (first | refine blk_drewN ?_ _ | refine blk_drew ?_ | refine blk_alloc ?_ _)); refine blk_put (cs := #[.int .i64 t730, .int .i64 t731, .int .i64 t732, .string t733, .bool t734, .int .u64 t735, .int .u64 t736, .bool a0_7, .int .u64 a0_8, .int .u64 a0_9, .bool a0_10, .int .u64 a0_11, .int .u64 a0_12, .bool a0_13, .slice A0_14 l0_14.length c0_14]) ?_ 7 _ rfl; (with_reducible repeat (first | refine blk_drewN ?_ _ | refine blk_drew ?_ | refine blk_alloc ?_ _)); refine blk_put (cs := #[.int .i64 t730, .int .i64 t731, .int .i64 t732, .string t733, .bool t734, .int .u64 t735, .int .u64 a0_6, .bool a0_7, .int .u64 a0_8, .int .u64 a0_9, .bool a0_10, .int .u64 a0_11, .int .u64 a0_12, .bool a0_13, .slice A0_14 l0_14.length c0_14]) ?_ 6 _ rfl; (with_reducible repeat (first | refine blk_drewN ?_ _ | refine blk_drew ?_ | refine blk_alloc ?_ _)); refine blk_put (cs := #[.int .i64 t730, .int .i64 t731, .int .i64 t732, .string t733, .bool t734, .int .u64 a0_5, .int .u64 a0_6, .bool a0_7, .int .u64 a0_8, .int .u64 a0_9, .bool a0_10, .int .u64 a0_11, .int .u64 a0_12, .bool a0_13, .slice A0_14 l0_14.length c0_14]) ?_ 5 _ rfl; (with_reducible repeat (first | refine blk_drewN ?_ _ | refine blk_drew ?_ | refine blk_alloc ?_ _)); refine blk_put (cs := #[.int .i64 t730, .int .i64 t731, .int .i64 t732, .string t733, .bool a0_4, .int .u64 a0_5, .int .u64 a0_6, .bool a0_7, .int .u64 a0_8, .int .u64 a0_9, .bool a0_10, .int .u64 a0_11, .int .u64 a0_12, .bool a0_13, .slice A0_14 l0_14.length c0_14]) ?_ 4 _ rfl; (with_reducible repeat (first | refine blk_drewN ?_ _ | refine blk_drew ?_ | refine blk_alloc ?_ _)); refine blk_put (cs := #[.int .i64 t730, .int .i64 t731, .int .i64 t732, .string a0_3, .bool a0_4, .int .u64 a0_5, .int .u64 a0_6, .bool a0_7, .int .u64 a0_8, .int .u64 a0_9, .bool a0_10, .int .u64 a0_11, .int .u64 a0_12, .bool a0_13, .slice A0_14 l0_14.length c0_14]) ?_ 3 _ rfl; (with_reducible repeat (first | refine blk_drewN ?_ _ | refine blk_drew ?_ | refine blk_alloc ?_ _)); refine blk_put (cs := #[.int .i64 t730, .int .i64 t731, .int .i64 a0_2, .string a0_3, .bool a0_4, .int .u64 a0_5, .int .u64 a0_6, .bool a0_7, .int .u64 a0_8, .int .u64 a0_9, .bool a0_10, .int .u64 a0_11, .int .u64 a0_12, .bool a0_13, .slice A0_14 l0_14.length c0_14]) ?_ 2 _ rfl; (with_reducible repeat (first | refine blk_drewN ?_ _ | refine blk_drew ?_ | refine blk_alloc ?_ _)); refine blk_put (cs := #[.int .i64 t730, .int .i64 a0_1, .int .i64 a0_2, .string a0_3, .bool a0_4, .int .u64 a0_5, .int .u64 a0_6, .bool a0_7, .int .u64 a0_8, .int .u64 a0_9, .bool a0_10, .int .u64 a0_11, .int .u64 a0_12, .bool a0_13, .slice A0_14 l0_14.length c0_14]) ?_ 1 _ rfl; (with_reducible repeat (first | refine blk_drewN ?_ _ | refine blk_drew ?_ | refine blk_alloc ?_ _)); refine blk_put (cs := #[.int .i64 a0_0, .int .i64 a0_1, .int .i64 a0_2, .string a0_3, .bool a0_4, .int .u64 a0_5, .int .u64 a0_6, .bool a0_7, .int .u64 a0_8, .int .u64 a0_9, .bool a0_10, .int .u64 a0_11, .int .u64 a0_12, .bool a0_13, .slice A0_14 l0_14.length c0_14]) ?_ 0 _ rfl; (with_reducible repeat (first | refine blk_drewN ?_ _ | refine blk_drew ?_ | refine blk_alloc ?_ _)); exact BK727.out) hb); have n3_ := Aside0.mk (blk_below (bkx BK728.out) hb); have n4_ := Aside0.mk (blk_below (bkx BK729.out) hb); have n5_ := Aside0.mk (below_step (hbx HB.out) hb); clear HO746; clear BK727; clear BK728; clear BK729; clear HB; have HO746 := n0_; have HO763 := n1_; have BK727 := n2_; have BK728 := n3_; have BK729 := n4_; have HB := n5_; clear n0_ n1_ n2_ n3_ n4_ n5_; (try clear hb); (try clear hb2); (try clear hk); (try clear hi); (try clear ho0); obtain ⟨Ao23, co23, eo23⟩ := Kd.R_slice HO763.out; subst eo23; obtain ⟨⟨hcz24_0, hcz24_1, hcz24_2, hcz24_3, hcz24_4, hcz24_5, hcz24_6, hcz24_7, hcz24_8⟩, hfz24_0, hfz24_1, hfz24_2, hfz24_3, hfz24_4, hfz24_5, hfz24_6, hfz24_7, hfz24_8⟩ := cf9 BK729.out))
  have n0_ : Aside0 (Kd.R k61 61 (w22.setCell ⟨gb729, 7, none⟩ (.slice Ao23 t761.length co23)) w.heap.size (fun k_ => some k_ ≠ (.slice Ao23 t761.length co23 : Value).ownBlock) (.slice Ao19 t744.length co19) t744) := ⟨by (with_reducible repeat (first | apply Kd.R_alloc | apply Kd.R_drewN | apply Kd.R_drew)); exact Kd.R_mono (Kd.R_far (p := ⟨gb729, 7, none⟩) (Kd.R_types HO746.out BK729.out (by decide)) (fun _ hk => hk.2) (.slice Ao23 t761.length co23)) (fun _ hk => hk.1.2)⟩
  have n1_ : Aside0 (Kd.R k61 61 (w22.setCell ⟨gb729, 7, none⟩ (.slice Ao23 t761.length co23)) w.heap.size (fun k_ => some k_ ≠ (.slice Ao19 t744.length co19 : Value).ownBlock) (.slice Ao23 t761.length co23) t761) := ⟨by (with_reducible repeat (first | apply Kd.R_alloc | apply Kd.R_drewN | apply Kd.R_drew)); exact Kd.R_mono (Kd.R_far (p := ⟨gb729, 7, none⟩) (Kd.R_types HO763.out BK729.out (by decide)) (fun _ hk => hk.2) (.slice Ao23 t761.length co23)) (fun _ hk => hk.1.2)⟩
  have n2_ : Aside0 ((w22.setCell ⟨gb729, 7, none⟩ (.slice Ao23 t761.length co23)).heap[gb727]? = some (.cells #[.int .i64 t730, .int .i64 t731, .int .i64 t732, .string t733, .bool t734, .int .u64 t735, .int .u64 t736, .bool t737, .int .u64 t738, .int .u64 t739, .bool t740, .int .u64 t741, .int .u64 t742, .bool t743, .slice Ao19 t744.length co19] 27 (0, 0))) := ⟨bkx BK727.out⟩
  have n3_ : Aside0 ((w22.setCell ⟨gb729, 7, none⟩ (.slice Ao23 t761.length co23)).heap[gb728]? = some (.cells #[.bool a1_0, .int .u64 a1_1, .int .u64 a1_2] 24 (0, 0))) := ⟨bkx BK728.out⟩
  have n4_ : Aside0 ((w22.setCell ⟨gb729, 7, none⟩ (.slice Ao23 t761.length co23)).heap[gb729]? = some (.cells #[.bool a2_0, .int .u64 a2_1, .int .u64 a2_2, .int .i64 a2_3, .string a2_4, .slice A2_5 l2_5.length c2_5, .slice A2_6 l2_6.length c2_6, .slice Ao23 t761.length co23, .int .i64 a2_8] 53 (0, 0))) := ⟨by (with_reducible repeat (first | refine blk_drewN ?_ _ | refine blk_drew ?_ | refine blk_alloc ?_ _)); refine blk_put (cs := #[.bool a2_0, .int .u64 a2_1, .int .u64 a2_2, .int .i64 a2_3, .string a2_4, .slice A2_5 l2_5.length c2_5, .slice A2_6 l2_6.length c2_6, .slice A2_7 l2_7.length c2_7, .int .i64 a2_8]) ?_ 7 _ rfl; (with_reducible repeat (first | refine blk_drewN ?_ _ | refine blk_drew ?_ | refine blk_alloc ?_ _)); exact BK729.out⟩
  have n5_ : Aside0 (Below w.heap.size w (w22.setCell ⟨gb729, 7, none⟩ (.slice Ao23 t761.length co23))) := ⟨hbx HB.out⟩
  (try clear HO746)
  (try clear HO763)
  (try clear BK727)
  (try clear BK728)
  (try clear BK729)
  (try clear HB)
  generalize (w22.setCell ⟨gb729, 7, none⟩ (.slice Ao23 t761.length co23)) = w25 at n0_ n1_ n2_ n3_ n4_ n5_ ⊢
  have HO746 := n0_
  have HO763 := n1_
  have BK727 := n2_
  have BK728 := n3_
  have BK729 := n4_
  have HB := n5_
  clear n0_ n1_ n2_ n3_ n4_ n5_
  have n0_ := Aside0.mk (Kd.R_drew HO746.out)
  have n1_ := Aside0.mk (Kd.R_drew HO763.out)
  have n2_ := Aside0.mk (blk_drew BK727.out)
  have n3_ := Aside0.mk (blk_drew BK728.out)
  have n4_ := Aside0.mk (blk_drew BK729.out)
  have n5_ := Aside0.mk (below_drew1 HB.out)
  clear HO746
  clear HO763
  clear BK727
  clear BK728
  clear BK729
  clear HB
  have HO746 := n0_
  have HO763 := n1_
  have BK727 := n2_
  have BK728 := n3_
  have BK729 := n4_
  have HB := n5_
  clear n0_ n1_ n2_ n3_ n4_ n5_
  refine start_ (n := 13) (S := fun w' => w'.cell? ⟨gb727, 0, none⟩ = some (.int .i64 t730) ∧ w'.cell? ⟨gb727, 1, none⟩ = some (.int .i64 t731) ∧ w'.cell? ⟨gb727, 2, none⟩ = some (.int .i64 t732) ∧ w'.cell? ⟨gb727, 3, none⟩ = some (.string t733) ∧ w'.cell? ⟨gb727, 4, none⟩ = some (.bool t734) ∧ w'.cell? ⟨gb727, 5, none⟩ = some (.int .u64 t735) ∧ w'.cell? ⟨gb727, 6, none⟩ = some (.int .u64 t736) ∧ w'.cell? ⟨gb727, 7, none⟩ = some (.bool t737) ∧ w'.cell? ⟨gb727, 8, none⟩ = some (.int .u64 t738) ∧ w'.cell? ⟨gb727, 9, none⟩ = some (.int .u64 t739) ∧ w'.cell? ⟨gb727, 10, none⟩ = some (.bool t740) ∧ w'.cell? ⟨gb727, 11, none⟩ = some (.int .u64 t741) ∧ w'.cell? ⟨gb727, 12, none⟩ = some (.int .u64 t742) ∧ w'.cell? ⟨gb727, 13, none⟩ = some (.bool t743) ∧ w'.cell? ⟨gb727, 14, none⟩ = some (.slice Ao19 t744.length co19) ∧ w'.cell? ⟨gb728, 0, none⟩ = some (.bool a1_0) ∧ w'.cell? ⟨gb728, 1, none⟩ = some (.int .u64 a1_1) ∧ w'.cell? ⟨gb728, 2, none⟩ = some (.int .u64 a1_2) ∧ w'.cell? ⟨gb729, 0, none⟩ = some (.bool a2_0) ∧ w'.cell? ⟨gb729, 1, none⟩ = some (.int .u64 a2_1) ∧ w'.cell? ⟨gb729, 2, none⟩ = some (.int .u64 a2_2) ∧ w'.cell? ⟨gb729, 3, none⟩ = some (.int .i64 a2_3) ∧ w'.cell? ⟨gb729, 4, none⟩ = some (.string a2_4) ∧ w'.cell? ⟨gb729, 5, none⟩ = some (.slice A2_5 l2_5.length c2_5) ∧ w'.cell? ⟨gb729, 6, none⟩ = some (.slice A2_6 l2_6.length c2_6) ∧ w'.cell? ⟨gb729, 7, none⟩ = some (.slice Ao23 t761.length co23) ∧ w'.cell? ⟨gb729, 8, none⟩ = some (.int .i64 a2_8)) (ds := []) #[false, false, false, false, false, false, false, false, false, false, false, false, false] (by kernel_rfl) rfl rfl ⟨(blk_cell BK727.out 0).trans rfl, (blk_cell BK727.out 1).trans rfl, (blk_cell BK727.out 2).trans rfl, (blk_cell BK727.out 3).trans rfl, (blk_cell BK727.out 4).trans rfl, (blk_cell BK727.out 5).trans rfl, (blk_cell BK727.out 6).trans rfl, (blk_cell BK727.out 7).trans rfl, (blk_cell BK727.out 8).trans rfl, (blk_cell BK727.out 9).trans rfl, (blk_cell BK727.out 10).trans rfl, (blk_cell BK727.out 11).trans rfl, (blk_cell BK727.out 12).trans rfl, (blk_cell BK727.out 13).trans rfl, (blk_cell BK727.out 14).trans rfl, (blk_cell BK728.out 0).trans rfl, (blk_cell BK728.out 1).trans rfl, (blk_cell BK728.out 2).trans rfl, (blk_cell BK729.out 0).trans rfl, (blk_cell BK729.out 1).trans rfl, (blk_cell BK729.out 2).trans rfl, (blk_cell BK729.out 3).trans rfl, (blk_cell BK729.out 4).trans rfl, (blk_cell BK729.out 5).trans rfl, (blk_cell BK729.out 6).trans rfl, (blk_cell BK729.out 7).trans rfl, (blk_cell BK729.out 8).trans rfl⟩ (fun hHeld => ?_); refine with_tabW ddilaw36_DhcpGrants.tab3 ddilaw36_DhcpGrants.bits3 (fun HT_ HW_ => ?_)
  generalize w25.drew = w26 at HO746 HO763 BK727 BK728 BK729 HB hHeld ⊢
  refine take_ (i := 0) (N := some 15) (v := ?_) (a' := ?_) #[true, false, false, false, false, false, false, false, false, false, false, false, false] rfl rfl (take_ofW HT_.out HW_.out (by kernel_rfl)) (fun _ _ _ h => h) (Or.inl ⟨by rfl, ?_⟩) hHeld ?_ ?_
  rotate_left
  ·rintro w' ⟨s0, s1, s2, s3, s4, s5, s6, s7, s8, s9, s10, s11, s12, s13, s14, s15, s16, s17, s18, s19, s20, s21, s22, s23, s24, s25, s26⟩
   go_simp
   with_reducible rfl
  rotate_left
  ·simp only [Act.put, List.setIfInBounds_toArray, List.set_cons_zero, List.set_cons_succ, i64_w, i32_w]
   rfl
  refine take_ (i := 1) (N := some 16) (v := ?_) (a' := ?_) #[true, true, false, false, false, false, false, false, false, false, false, false, false] rfl rfl (take_ofW HT_.out HW_.out (by kernel_rfl)) (fun _ _ _ h => h) (Or.inl ⟨by rfl, ?_⟩) hHeld ?_ ?_
  rotate_left
  ·rintro w' ⟨s0, s1, s2, s3, s4, s5, s6, s7, s8, s9, s10, s11, s12, s13, s14, s15, s16, s17, s18, s19, s20, s21, s22, s23, s24, s25, s26⟩
   go_simp
   with_reducible rfl
  rotate_left
  ·simp only [Act.put, List.setIfInBounds_toArray, List.set_cons_zero, List.set_cons_succ, i64_w, i32_w]
   rfl
  refine take_ (i := 2) (N := some 17) (v := ?_) (a' := ?_) #[true, true, true, false, false, false, false, false, false, false, false, false, false] rfl rfl (take_ofW HT_.out HW_.out (by kernel_rfl)) (fun _ _ _ h => h) (Or.inl ⟨by rfl, ?_⟩) hHeld ?_ ?_
  rotate_left
  ·rintro w' ⟨s0, s1, s2, s3, s4, s5, s6, s7, s8, s9, s10, s11, s12, s13, s14, s15, s16, s17, s18, s19, s20, s21, s22, s23, s24, s25, s26⟩
   go_simp
   with_reducible rfl
  rotate_left
  ·simp only [Act.put, List.setIfInBounds_toArray, List.set_cons_zero, List.set_cons_succ, i64_w, i32_w]
   rfl
  refine take_ (i := 4) (N := some 19) (v := ?_) (a' := ?_) #[true, true, true, false, true, false, false, false, false, false, false, false, false] rfl rfl (take_ofW HT_.out HW_.out (by kernel_rfl)) (fun _ _ _ h => h) (Or.inl ⟨by rfl, ?_⟩) hHeld ?_ ?_
  rotate_left
  ·rintro w' ⟨s0, s1, s2, s3, s4, s5, s6, s7, s8, s9, s10, s11, s12, s13, s14, s15, s16, s17, s18, s19, s20, s21, s22, s23, s24, s25, s26⟩
   go_simp
   with_reducible rfl
  rotate_left
  ·simp only [Act.put, List.setIfInBounds_toArray, List.set_cons_zero, List.set_cons_succ, i64_w, i32_w]
   rfl
  refine take_ (i := 5) (N := some 20) (v := ?_) (a' := ?_) #[true, true, true, false, true, true, false, false, false, false, false, false, false] rfl rfl (take_ofW HT_.out HW_.out (by kernel_rfl)) (fun _ _ _ h => h) (Or.inl ⟨by rfl, ?_⟩) hHeld ?_ ?_
  rotate_left
  ·rintro w' ⟨s0, s1, s2, s3, s4, s5, s6, s7, s8, s9, s10, s11, s12, s13, s14, s15, s16, s17, s18, s19, s20, s21, s22, s23, s24, s25, s26⟩
   go_simp
   with_reducible rfl
  rotate_left
  ·simp only [Act.put, List.setIfInBounds_toArray, List.set_cons_zero, List.set_cons_succ, i64_w, i32_w]
   rfl
  refine take_ (i := 6) (N := some 21) (v := ?_) (a' := ?_) #[true, true, true, false, true, true, true, false, false, false, false, false, false] rfl rfl (take_ofW HT_.out HW_.out (by kernel_rfl)) (fun _ _ _ h => h) (Or.inl ⟨by rfl, ?_⟩) hHeld ?_ ?_
  rotate_left
  ·rintro w' ⟨s0, s1, s2, s3, s4, s5, s6, s7, s8, s9, s10, s11, s12, s13, s14, s15, s16, s17, s18, s19, s20, s21, s22, s23, s24, s25, s26⟩
   go_simp
   with_reducible rfl
  rotate_left
  ·simp only [Act.put, List.setIfInBounds_toArray, List.set_cons_zero, List.set_cons_succ, i64_w, i32_w]
   rfl
  refine one_ (i := 3) (N := some 18) #[true, true, true, true, true, true, true, false, false, false, false, false, false] rfl rfl (one_of HT_.out (by kernel_rfl)) (by decide) (fun K hK => ?_)
  refine goes_ Tryd.func26 (by kernel_rfl) rfl #[.agg #[.int .i64 t730, .int .i64 t731, .int .i64 t732, .string t733, .bool t734, .int .u64 t735, .int .u64 t736, .bool t737, .int .u64 t738, .int .u64 t739, .bool t740, .int .u64 t741, .int .u64 t742, .bool t743, .slice Ao19 t744.length co19], .agg #[.bool a1_0, .int .u64 a1_1, .int .u64 a1_2], .agg #[.bool a2_0, .int .u64 a2_1, .int .u64 a2_2, .int .i64 a2_3, .string a2_4, .slice A2_5 l2_5.length c2_5, .slice A2_6 l2_6.length c2_6, .slice Ao23 t761.length co23, .int .i64 a2_8]] (by rfl) rfl rfl (by (try simp only [List.map_toArray, List.map_cons, List.map_nil]); first | done | rfl | (simp only [List.length_drop, List.length_take]; rfl)) ?_
  with_reducible refine (dhcp_Grant.calls k t730 t731 t732 t733 t734 t735 t736 t737 t738 t739 t740 t741 t742 t743 _ _ t744 a1_0 a1_1 a1_2 a2_0 a2_1 a2_2 a2_3 a2_4 _ _ l2_5 _ _ l2_6 _ _ t761 a2_8 t764 t765 t766 t767 t768 t769 t770 t771 t772 t773 t774 t775 t776 t777 t778 _ ?side1 ?side2 ?side3 ?side4 ?side5 ?side6 ?side7 ?side8 A6.out).mono ?_
  (case side1 => repeat (first | exact (Kd.R_reads' HO746.out).2.2 | (with_reducible refine Kd.C_alloc ?_ _) | (with_reducible refine Kd.C_drewN ?_ _) | (with_reducible refine Kd.C_drew ?_)))
  (case side2 => exact (Kd.R_reads' HO746.out).2.1)
  (case side3 => repeat (first | exact (Kd.C_below HR2_5.out HB.out) | (with_reducible refine Kd.C_alloc ?_ _) | (with_reducible refine Kd.C_drewN ?_ _) | (with_reducible refine Kd.C_drew ?_)))
  (case side4 => exact HC2_5.out)
  (case side5 => repeat (first | exact (Kd.C_below HR2_6.out HB.out) | (with_reducible refine Kd.C_alloc ?_ _) | (with_reducible refine Kd.C_drewN ?_ _) | (with_reducible refine Kd.C_drew ?_)))
  (case side6 => exact HC2_6.out)
  (case side7 => repeat (first | exact (Kd.R_reads' HO763.out).2.2 | (with_reducible refine Kd.C_alloc ?_ _) | (with_reducible refine Kd.C_drewN ?_ _) | (with_reducible refine Kd.C_drew ?_)))
  (case side8 => exact (Kd.R_reads' HO763.out).2.1)
  rintro e w27 ⟨v779, rfl, ho0, hb⟩
  refine ⟨_, rfl, ?_⟩
  have n0_ := Aside0.mk (Kd.R_elder' (by (with_reducible repeat (first | apply Kd.R_alloc | apply Kd.R_drewN | apply Kd.R_drew)); exact HO746.out) (Kd.R_base ho0) hb)
  have n1_ := Aside0.mk (Kd.R_elder' (by (with_reducible repeat (first | apply Kd.R_alloc | apply Kd.R_drewN | apply Kd.R_drew)); exact HO763.out) (Kd.R_base ho0) hb)
  have n2_ := Aside0.mk (Kd.R_lower (Kd.R_new' (Kd.R_new' ho0 (Kd.R_lt (by (with_reducible repeat (first | apply Kd.R_alloc | apply Kd.R_drewN | apply Kd.R_drew)); exact HO746.out))) (Kd.R_lt (by (with_reducible repeat (first | apply Kd.R_alloc | apply Kd.R_drewN | apply Kd.R_drew)); exact HO763.out))) (below_size (hbx HB.out)))
  have n3_ := Aside0.mk (blk_below (bkx BK727.out) hb)
  have n4_ := Aside0.mk (blk_below (bkx BK728.out) hb)
  have n5_ := Aside0.mk (blk_below (bkx BK729.out) hb)
  have n6_ := Aside0.mk (below_step (hbx HB.out) hb)
  clear HO746
  clear HO763
  clear BK727
  clear BK728
  clear BK729
  clear HB
  have HO746 := n0_
  have HO763 := n1_
  have HO780 := n2_
  have BK727 := n3_
  have BK728 := n4_
  have BK729 := n5_
  have HB := n6_
  clear n0_ n1_ n2_ n3_ n4_ n5_ n6_
  (try clear hb)
  (try clear hb2)
  (try clear hk)
  (try clear hi)
  (try clear ho0)
  refine hK.out _ _ ⟨(blk_cell BK727.out 0).trans rfl, (blk_cell BK727.out 1).trans rfl, (blk_cell BK727.out 2).trans rfl, (blk_cell BK727.out 3).trans rfl, (blk_cell BK727.out 4).trans rfl, (blk_cell BK727.out 5).trans rfl, (blk_cell BK727.out 6).trans rfl, (blk_cell BK727.out 7).trans rfl, (blk_cell BK727.out 8).trans rfl, (blk_cell BK727.out 9).trans rfl, (blk_cell BK727.out 10).trans rfl, (blk_cell BK727.out 11).trans rfl, (blk_cell BK727.out 12).trans rfl, (blk_cell BK727.out 13).trans rfl, (blk_cell BK727.out 14).trans rfl, (blk_cell BK728.out 0).trans rfl, (blk_cell BK728.out 1).trans rfl, (blk_cell BK728.out 2).trans rfl, (blk_cell BK729.out 0).trans rfl, (blk_cell BK729.out 1).trans rfl, (blk_cell BK729.out 2).trans rfl, (blk_cell BK729.out 3).trans rfl, (blk_cell BK729.out 4).trans rfl, (blk_cell BK729.out 5).trans rfl, (blk_cell BK729.out 6).trans rfl, (blk_cell BK729.out 7).trans rfl, (blk_cell BK729.out 8).trans rfl⟩ (fun hHeld => ?_)
  clear hK K
  refine norm_ (a' := ?_) ?_ ?_
  rotate_left
  ·show Act.put _ (some 18) _ = _
   simp only [Act.put, List.setIfInBounds_toArray, List.set_cons_zero, List.set_cons_succ, i64_w, i32_w]
   rfl
  refine one_ (i := 7) (N := some 22) #[true, true, true, true, true, true, true, true, false, false, false, false, false] rfl rfl (one_of HT_.out (by kernel_rfl)) (by decide) (fun K hK => ?_)
  refine goes_ Tryd.func27 (by kernel_rfl) rfl #[.agg #[.int .i64 t730, .int .i64 t731, .int .i64 t732, .string t733, .bool t734, .int .u64 t735, .int .u64 t736, .bool t737, .int .u64 t738, .int .u64 t739, .bool t740, .int .u64 t741, .int .u64 t742, .bool t743, .slice Ao19 t744.length co19], .agg #[.bool a1_0, .int .u64 a1_1, .int .u64 a1_2], .agg #[.bool a2_0, .int .u64 a2_1, .int .u64 a2_2, .int .i64 a2_3, .string a2_4, .slice A2_5 l2_5.length c2_5, .slice A2_6 l2_6.length c2_6, .slice Ao23 t761.length co23, .int .i64 a2_8]] (by rfl) rfl rfl (by (try simp only [List.map_toArray, List.map_cons, List.map_nil]); first | done | rfl | (simp only [List.length_drop, List.length_take]; rfl)) ?_
  with_reducible refine (ddiref36_Grant.calls k t730 t731 t732 t733 t734 t735 t736 t737 t738 t739 t740 t741 t742 t743 (fun k_ => some k_ = (.slice Ao19 t744.length co19 : Value).ownBlock) _ _ t744 a1_0 a1_1 a1_2 a2_0 a2_1 a2_2 a2_3 a2_4 _ _ l2_5 _ _ l2_6 _ _ t761 a2_8 t781 t782 t783 t784 t785 t786 t787 t788 t789 t790 t791 t792 t793 t794 t795 _ ?side1 ?side2 ?side3 ?side4 ?side5 ?side6 ?side7 A7.out).mono ?_
  (case side1 => exact Kd.R_V (Kd.R_tight rfl (Kd.R_types (Kd.R_types (Kd.R_types (HO746.out) BK727.out (by decide)) BK728.out (by decide)) BK729.out (by decide))))
  (case side2 => repeat (first | exact (Kd.C_below HR2_5.out HB.out) | (with_reducible refine Kd.C_alloc ?_ _) | (with_reducible refine Kd.C_drewN ?_ _) | (with_reducible refine Kd.C_drew ?_)))
  (case side3 => exact HC2_5.out)
  (case side4 => repeat (first | exact (Kd.C_below HR2_6.out HB.out) | (with_reducible refine Kd.C_alloc ?_ _) | (with_reducible refine Kd.C_drewN ?_ _) | (with_reducible refine Kd.C_drew ?_)))
  (case side5 => exact HC2_6.out)
  (case side6 => repeat (first | exact (Kd.R_reads' HO763.out).2.2 | (with_reducible refine Kd.C_alloc ?_ _) | (with_reducible refine Kd.C_drewN ?_ _) | (with_reducible refine Kd.C_drew ?_)))
  (case side7 => exact (Kd.R_reads' HO763.out).2.1)
  rintro e w28 ⟨v796, rfl, ho0, hb⟩
  refine ⟨_, rfl, ?_⟩
  have n0_ := Aside0.mk (Kd.R_below (by (with_reducible repeat (first | apply Kd.R_alloc | apply Kd.R_drewN | apply Kd.R_drew)); exact HO746.out) hb)
  have n1_ := Aside0.mk (Kd.R_below (by (with_reducible repeat (first | apply Kd.R_alloc | apply Kd.R_drewN | apply Kd.R_drew)); exact HO763.out) hb)
  have n2_ := Aside0.mk (Kd.R_below (by (with_reducible repeat (first | apply Kd.R_alloc | apply Kd.R_drewN | apply Kd.R_drew)); exact HO780.out) hb)
  have n3_ := Aside0.mk (Kd.V_lower (Kd.V_mono (ok' := fun k_ => some k_ ≠ (.slice Ao23 t761.length co23 : Value).ownBlock ∧ some k_ ≠ (v779 : Value).ownBlock ∧ k_ ≠ gb727 ∧ k_ ≠ gb728 ∧ k_ ≠ gb729) ho0 (fun k_ hk_ => ⟨Or.elim hk_ (fun hs_ => ((Kd.R_types (Kd.R_types (Kd.R_types (HO746.out) BK727.out (by decide)) BK728.out (by decide)) BK729.out (by decide)).1 k_ hs_.symm).1.1.1.1) (fun hn_ => (Kd.fresh' (Kd.R_lt (by (with_reducible repeat (first | apply Kd.R_alloc | apply Kd.R_drewN | apply Kd.R_drew)); exact HO763.out)) k_ hn_)), Or.elim hk_ (fun hs_ => ((Kd.R_types (Kd.R_types (Kd.R_types (HO746.out) BK727.out (by decide)) BK728.out (by decide)) BK729.out (by decide)).1 k_ hs_.symm).1.1.1.2) (fun hn_ => (Kd.fresh' (Kd.R_lt (by (with_reducible repeat (first | apply Kd.R_alloc | apply Kd.R_drewN | apply Kd.R_drew)); exact HO780.out)) k_ hn_)), Or.elim hk_ (fun hs_ => ((Kd.R_types (Kd.R_types (Kd.R_types (HO746.out) BK727.out (by decide)) BK728.out (by decide)) BK729.out (by decide)).1 k_ hs_.symm).1.1.2) (fun hn_ => (Kd.freshB (g := gb727) (o := .cells #[.int .i64 t730, .int .i64 t731, .int .i64 t732, .string t733, .bool t734, .int .u64 t735, .int .u64 t736, .bool t737, .int .u64 t738, .int .u64 t739, .bool t740, .int .u64 t741, .int .u64 t742, .bool t743, .slice Ao19 t744.length co19] 27 (0, 0)) (bkx BK727.out) k_ hn_)), Or.elim hk_ (fun hs_ => ((Kd.R_types (Kd.R_types (Kd.R_types (HO746.out) BK727.out (by decide)) BK728.out (by decide)) BK729.out (by decide)).1 k_ hs_.symm).1.2) (fun hn_ => (Kd.freshB (g := gb728) (o := .cells #[.bool a1_0, .int .u64 a1_1, .int .u64 a1_2] 24 (0, 0)) (bkx BK728.out) k_ hn_)), Or.elim hk_ (fun hs_ => ((Kd.R_types (Kd.R_types (Kd.R_types (HO746.out) BK727.out (by decide)) BK728.out (by decide)) BK729.out (by decide)).1 k_ hs_.symm).2) (fun hn_ => (Kd.freshB (g := gb729) (o := .cells #[.bool a2_0, .int .u64 a2_1, .int .u64 a2_2, .int .i64 a2_3, .string a2_4, .slice A2_5 l2_5.length c2_5, .slice A2_6 l2_6.length c2_6, .slice Ao23 t761.length co23, .int .i64 a2_8] 53 (0, 0)) (bkx BK729.out) k_ hn_))⟩)) (below_size (hbx HB.out)))
  have n4_ := Aside0.mk (blk_below (bkx BK727.out) hb)
  have n5_ := Aside0.mk (blk_below (bkx BK728.out) hb)
  have n6_ := Aside0.mk (blk_below (bkx BK729.out) hb)
  have n7_ := Aside0.mk (below_step (hbx HB.out) hb)
  clear HO746
  clear HO763
  clear HO780
  clear BK727
  clear BK728
  clear BK729
  clear HB
  have HO746 := n0_
  have HO763 := n1_
  have HO780 := n2_
  have HO797 := n3_
  have BK727 := n4_
  have BK728 := n5_
  have BK729 := n6_
  have HB := n7_
  clear n0_ n1_ n2_ n3_ n4_ n5_ n6_ n7_
  (try clear hb)
  (try clear hb2)
  (try clear hk)
  (try clear hi)
  (try clear ho0)
  obtain ⟨Ao29, co29, eo29⟩ := Kd.R_slice HO780.out
  (first | subst eo29 | (injection eo29 with f1_ f2_ f3_; have f4_ := f1_.symm; have f5_ := f3_.symm; clear f1_ f2_ f3_; subst f4_; subst f5_))
  obtain ⟨Ao30, co30, eo30⟩ := Kd.V_slice HO797.out
  (first | subst eo30 | (injection eo30 with f1_ f2_ f3_; have f4_ := f1_.symm; have f5_ := f3_.symm; clear f1_ f2_ f3_; subst f4_; subst f5_))
  refine hK.out _ _ ⟨(blk_cell BK727.out 0).trans rfl, (blk_cell BK727.out 1).trans rfl, (blk_cell BK727.out 2).trans rfl, (blk_cell BK727.out 3).trans rfl, (blk_cell BK727.out 4).trans rfl, (blk_cell BK727.out 5).trans rfl, (blk_cell BK727.out 6).trans rfl, (blk_cell BK727.out 7).trans rfl, (blk_cell BK727.out 8).trans rfl, (blk_cell BK727.out 9).trans rfl, (blk_cell BK727.out 10).trans rfl, (blk_cell BK727.out 11).trans rfl, (blk_cell BK727.out 12).trans rfl, (blk_cell BK727.out 13).trans rfl, (blk_cell BK727.out 14).trans rfl, (blk_cell BK728.out 0).trans rfl, (blk_cell BK728.out 1).trans rfl, (blk_cell BK728.out 2).trans rfl, (blk_cell BK729.out 0).trans rfl, (blk_cell BK729.out 1).trans rfl, (blk_cell BK729.out 2).trans rfl, (blk_cell BK729.out 3).trans rfl, (blk_cell BK729.out 4).trans rfl, (blk_cell BK729.out 5).trans rfl, (blk_cell BK729.out 6).trans rfl, (blk_cell BK729.out 7).trans rfl, (blk_cell BK729.out 8).trans rfl⟩ (fun hHeld => ?_)
  clear hK K
  refine norm_ (a' := ?_) ?_ ?_
  rotate_left
  ·show Act.put _ (some 22) _ = _
   simp only [Act.put, List.setIfInBounds_toArray, List.set_cons_zero, List.set_cons_succ, i64_w, i32_w]
   rfl
  refine one_ (i := 8) (N := some 23) #[true, true, true, true, true, true, true, true, true, false, false, false, false] rfl rfl (one_of HT_.out (by kernel_rfl)) (by decide) (fun K hK => ?_)
  refine goes_ Tryd.func15 (by kernel_rfl) rfl #[.agg #[.int .i64 t764, .int .i64 t765, .int .i64 t766, .string t767, .bool t768, .int .u64 t769, .int .u64 t770, .bool t771, .int .u64 t772, .int .u64 t773, .bool t774, .int .u64 t775, .int .u64 t776, .bool t777, .slice Ao29 t778.length co29], .agg #[.int .i64 t781, .int .i64 t782, .int .i64 t783, .string t784, .bool t785, .int .u64 t786, .int .u64 t787, .bool t788, .int .u64 t789, .int .u64 t790, .bool t791, .int .u64 t792, .int .u64 t793, .bool t794, .slice Ao30 t795.length co30]] (by rfl) rfl rfl (by (try simp only [List.map_toArray, List.map_cons, List.map_nil]); first | done | rfl | (simp only [List.length_drop, List.length_take]; rfl)) ?_
  with_reducible refine (ddiref36_Same.calls k t764 t765 t766 t767 t768 t769 t770 t771 t772 t773 t774 t775 t776 t777 _ _ t778 t781 t782 t783 t784 t785 t786 t787 t788 t789 t790 t791 t792 t793 t794 _ _ t795 true _ ?side1 ?side2 ?side3 ?side4 A8.out).mono ?_
  (case side1 => repeat (first | exact (Kd.R_reads' HO780.out).2.2 | (with_reducible refine Kd.C_alloc ?_ _) | (with_reducible refine Kd.C_drewN ?_ _) | (with_reducible refine Kd.C_drew ?_)))
  (case side2 => exact (Kd.R_reads' HO780.out).2.1)
  (case side3 => repeat (first | exact (Kd.V_reads' HO797.out).2.2 | (with_reducible refine Kd.C_alloc ?_ _) | (with_reducible refine Kd.C_drewN ?_ _) | (with_reducible refine Kd.C_drew ?_)))
  (case side4 => exact (Kd.V_reads' HO797.out).2.1)
  rintro e w31 ⟨rfl, hb⟩
  refine ⟨_, rfl, ?_⟩
  have n0_ := Aside0.mk (Kd.R_below (by (with_reducible repeat (first | apply Kd.R_alloc | apply Kd.R_drewN | apply Kd.R_drew)); exact HO746.out) hb)
  have n1_ := Aside0.mk (Kd.R_below (by (with_reducible repeat (first | apply Kd.R_alloc | apply Kd.R_drewN | apply Kd.R_drew)); exact HO763.out) hb)
  have n2_ := Aside0.mk (Kd.R_below (by (with_reducible repeat (first | apply Kd.R_alloc | apply Kd.R_drewN | apply Kd.R_drew)); exact HO780.out) hb)
  have n3_ := Aside0.mk (Kd.V_below (by (with_reducible repeat (first | apply Kd.V_alloc | apply Kd.V_drewN | apply Kd.V_drew)); exact HO797.out) hb)
  have n4_ := Aside0.mk (blk_below (bkx BK727.out) hb)
  have n5_ := Aside0.mk (blk_below (bkx BK728.out) hb)
  have n6_ := Aside0.mk (blk_below (bkx BK729.out) hb)
  have n7_ := Aside0.mk (below_step (hbx HB.out) hb)
  clear HO746
  clear HO763
  clear HO780
  clear HO797
  clear BK727
  clear BK728
  clear BK729
  clear HB
  have HO746 := n0_
  have HO763 := n1_
  have HO780 := n2_
  have HO797 := n3_
  have BK727 := n4_
  have BK728 := n5_
  have BK729 := n6_
  have HB := n7_
  clear n0_ n1_ n2_ n3_ n4_ n5_ n6_ n7_
  (try clear hb)
  (try clear hb2)
  (try clear hk)
  (try clear hi)
  refine hK.out _ _ ⟨(blk_cell BK727.out 0).trans rfl, (blk_cell BK727.out 1).trans rfl, (blk_cell BK727.out 2).trans rfl, (blk_cell BK727.out 3).trans rfl, (blk_cell BK727.out 4).trans rfl, (blk_cell BK727.out 5).trans rfl, (blk_cell BK727.out 6).trans rfl, (blk_cell BK727.out 7).trans rfl, (blk_cell BK727.out 8).trans rfl, (blk_cell BK727.out 9).trans rfl, (blk_cell BK727.out 10).trans rfl, (blk_cell BK727.out 11).trans rfl, (blk_cell BK727.out 12).trans rfl, (blk_cell BK727.out 13).trans rfl, (blk_cell BK727.out 14).trans rfl, (blk_cell BK728.out 0).trans rfl, (blk_cell BK728.out 1).trans rfl, (blk_cell BK728.out 2).trans rfl, (blk_cell BK729.out 0).trans rfl, (blk_cell BK729.out 1).trans rfl, (blk_cell BK729.out 2).trans rfl, (blk_cell BK729.out 3).trans rfl, (blk_cell BK729.out 4).trans rfl, (blk_cell BK729.out 5).trans rfl, (blk_cell BK729.out 6).trans rfl, (blk_cell BK729.out 7).trans rfl, (blk_cell BK729.out 8).trans rfl⟩ (fun hHeld => ?_)
  clear hK K
  refine norm_ (a' := ?_) ?_ ?_
  rotate_left
  ·show Act.put _ (some 23) _ = _
   simp only [Act.put, List.setIfInBounds_toArray, List.set_cons_zero, List.set_cons_succ, i64_w, i32_w]
   rfl
  refine pu0 (i := 9) (N := some 24) #[true, true, true, true, true, true, true, true, true, true, false, false, false] rfl rfl (any_of HT_.out (by kernel_rfl)) ?_
  refine one_ (i := 10) (N := some 25) #[true, true, true, true, true, true, true, true, true, true, true, false, false] rfl rfl (one_of HT_.out (by kernel_rfl)) (by decide) (fun K hK => ?_)
  refine goes_ Tryd.func18 (by kernel_rfl) rfl #[] (by rfl) rfl rfl (by (try simp only [List.map_toArray, List.map_cons, List.map_nil]); first | done | rfl | (simp only [List.length_drop, List.length_take]; rfl)) ?_
  with_reducible refine (ddilaw36_awake.calls k  t799 _ A10.out).mono ?_
  rintro e w32 ⟨rfl, hb⟩
  refine ⟨_, rfl, ?_⟩
  have n0_ := Aside0.mk (Kd.R_below (by (with_reducible repeat (first | apply Kd.R_alloc | apply Kd.R_drewN | apply Kd.R_drew)); exact HO746.out) hb)
  have n1_ := Aside0.mk (Kd.R_below (by (with_reducible repeat (first | apply Kd.R_alloc | apply Kd.R_drewN | apply Kd.R_drew)); exact HO763.out) hb)
  have n2_ := Aside0.mk (Kd.R_below (by (with_reducible repeat (first | apply Kd.R_alloc | apply Kd.R_drewN | apply Kd.R_drew)); exact HO780.out) hb)
  have n3_ := Aside0.mk (Kd.V_below (by (with_reducible repeat (first | apply Kd.V_alloc | apply Kd.V_drewN | apply Kd.V_drew)); exact HO797.out) hb)
  have n4_ := Aside0.mk (blk_below (bkx BK727.out) hb)
  have n5_ := Aside0.mk (blk_below (bkx BK728.out) hb)
  have n6_ := Aside0.mk (blk_below (bkx BK729.out) hb)
  have n7_ := Aside0.mk (below_step (hbx HB.out) hb)
  clear HO746
  clear HO763
  clear HO780
  clear HO797
  clear BK727
  clear BK728
  clear BK729
  clear HB
  have HO746 := n0_
  have HO763 := n1_
  have HO780 := n2_
  have HO797 := n3_
  have BK727 := n4_
  have BK728 := n5_
  have BK729 := n6_
  have HB := n7_
  clear n0_ n1_ n2_ n3_ n4_ n5_ n6_ n7_
  (try clear hb)
  (try clear hb2)
  (try clear hk)
  (try clear hi)
  refine hK.out _ _ ⟨(blk_cell BK727.out 0).trans rfl, (blk_cell BK727.out 1).trans rfl, (blk_cell BK727.out 2).trans rfl, (blk_cell BK727.out 3).trans rfl, (blk_cell BK727.out 4).trans rfl, (blk_cell BK727.out 5).trans rfl, (blk_cell BK727.out 6).trans rfl, (blk_cell BK727.out 7).trans rfl, (blk_cell BK727.out 8).trans rfl, (blk_cell BK727.out 9).trans rfl, (blk_cell BK727.out 10).trans rfl, (blk_cell BK727.out 11).trans rfl, (blk_cell BK727.out 12).trans rfl, (blk_cell BK727.out 13).trans rfl, (blk_cell BK727.out 14).trans rfl, (blk_cell BK728.out 0).trans rfl, (blk_cell BK728.out 1).trans rfl, (blk_cell BK728.out 2).trans rfl, (blk_cell BK729.out 0).trans rfl, (blk_cell BK729.out 1).trans rfl, (blk_cell BK729.out 2).trans rfl, (blk_cell BK729.out 3).trans rfl, (blk_cell BK729.out 4).trans rfl, (blk_cell BK729.out 5).trans rfl, (blk_cell BK729.out 6).trans rfl, (blk_cell BK729.out 7).trans rfl, (blk_cell BK729.out 8).trans rfl⟩ (fun hHeld => ?_)
  clear hK K
  refine norm_ (a' := ?_) ?_ ?_
  rotate_left
  ·show Act.put _ (some 25) _ = _
   simp only [Act.put, List.setIfInBounds_toArray, List.set_cons_zero, List.set_cons_succ, i64_w, i32_w]
   rfl
  refine pu0 (i := 11) (N := some 26) #[true, true, true, true, true, true, true, true, true, true, true, true, false] rfl rfl (any_of HT_.out (by kernel_rfl)) ?_
  refine pu0 (i := 12) (N := some 6) #[true, true, true, true, true, true, true, true, true, true, true, true, true] rfl rfl (any_of HT_.out (by kernel_rfl)) ?_
  refine done_ (done_of HT_.out (by kernel_rfl)) ?_
  try go_wp2
  go_ret
  exact ⟨by first | rfl | (simp [errW_none, errW_some] <;> rfl) | (simp [*, errW_none, errW_some] <;> rfl), hbx HB.out⟩
 ·replace c9 := Bool.eq_false_iff.mpr c9
  subst c9
  rw [if_neg (show ¬ (false = true) by decide)] at H
  exact absurd H (by simp)

end Go.Proofs.YtcoekgnbncocnaaDoor.Pa

