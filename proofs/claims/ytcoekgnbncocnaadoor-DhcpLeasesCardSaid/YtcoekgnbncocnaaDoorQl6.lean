/- Parts of the proof of this claim's statement (joined by a program of this session): Pax63. -/
import Derived.Test.YtcoekgnbncocnaaDoorQl4
import Derived.Test.YtcoekgnbncocnaaDoorQl1
import Derived.Test.YtcoekgnbncocnaaDoorQl2
import Derived.Test.YtcoekgnbncocnaaDoorQl5
namespace Go.Proofs.YtcoekgnbncocnaaDoor.Pa
open Go.RowKit Go.Proofs.YtcoekgnbncocnaaDoorW.PrintWords Go.Proofs.YtcoekgnbncocnaaDoorW.PrintLast Go.Proofs.YtcoekgnbncocnaaDoorW.PrintMore
attribute [local go_sem] max2_int min2_int max_two min_two max_three min_three max_four min_four   -- for this text's walks alone
set_option linter.unusedVariables false
set_option linter.unusedSimpArgs false

attribute [local go_sem high] eqA24
mutual
def ddilaw36_DhcpLeases.j0 : Nat → Bool → Int → Int → Int → ByteArray → Bool → Int → Int → Bool → Int → Int → Bool → Int → Int → Bool → List (S61) → Int → Int → Int → ByteArray → Bool → Int → Int → Bool → Int → Int → Bool → Int → Int → Bool → List (S61) → Option (Bool)
 | 0, _, _, _, _, _, _, _, _, _, _, _, _, _, _, _, _, _, _, _, _, _, _, _, _, _, _, _, _, _, _, _ => none
 | k + 1, x106, x953000, x953001, x953002, x953003, x953004, x953005, x953006, x953007, x953008, x953009, x953010, x953011, x953012, x953013, x953014, x1010000, x1010001, x1010002, x1010003, x1010004, x1010005, x1010006, x1010007, x1010008, x1010009, x1010010, x1010011, x1010012, x1010013, x1010014 => if x106 = true then (none) else (ddilaw36_DhcpLeases.l0 k x953014 (x953014.length : Int) 0 x953000 x953001 x953002 x953003 x953004 x953005 x953006 x953007 x953008 x953009 x953010 x953011 x953012 x953013 x953014 x1010000 x1010001 x1010002 x1010003 x1010004 x1010005 x1010006 x1010007 x1010008 x1010009 x1010010 x1010011 x1010012 x1010013 x1010014)
def ddilaw36_DhcpLeases.l0 : Nat → List (S61) → Int → Int → Int → Int → Int → ByteArray → Bool → Int → Int → Bool → Int → Int → Bool → Int → Int → Bool → List (S61) → Int → Int → Int → ByteArray → Bool → Int → Int → Bool → Int → Int → Bool → Int → Int → Bool → List (S61) → Option (Bool)
 | 0, _, _, _, _, _, _, _, _, _, _, _, _, _, _, _, _, _, _, _, _, _, _, _, _, _, _, _, _, _, _, _, _, _ => none
 | k + 1, x108, x109, x110, x953000, x953001, x953002, x953003, x953004, x953005, x953006, x953007, x953008, x953009, x953010, x953011, x953012, x953013, x953014, x1010000, x1010001, x1010002, x1010003, x1010004, x1010005, x1010006, x1010007, x1010008, x1010009, x1010010, x1010011, x1010012, x1010013, x1010014 => if x110 < x109 then (if 0 ≤ x110 then (if x110 < (x108.length : Int) then ((option_Find.f k x1010014 ((rd_T61 x108 x110).f0)).bind fun bt1019 => ((option_Find.f k x953014 ((rd_T61 x108 x110).f0)).bind fun bt1021 => (if ((rd_T61 x108 x110).f0) = 51 then (ddilaw36_DhcpLeases.j2 k x108 x109 x110 false x953000 x953001 x953002 x953003 x953004 x953005 x953006 x953007 x953008 x953009 x953010 x953011 x953012 x953013 x953014 x1010000 x1010001 x1010002 x1010003 x1010004 x1010005 x1010006 x1010007 x1010008 x1010009 x1010010 x1010011 x1010012 x1010013 x1010014) else (if ((rd_T61 x108 x110).f0) = 58 then (ddilaw36_DhcpLeases.j2 k x108 x109 x110 false x953000 x953001 x953002 x953003 x953004 x953005 x953006 x953007 x953008 x953009 x953010 x953011 x953012 x953013 x953014 x1010000 x1010001 x1010002 x1010003 x1010004 x1010005 x1010006 x1010007 x1010008 x1010009 x1010010 x1010011 x1010012 x1010013 x1010014) else (if ((rd_T61 x108 x110).f0) = 59 then (ddilaw36_DhcpLeases.j2 k x108 x109 x110 false x953000 x953001 x953002 x953003 x953004 x953005 x953006 x953007 x953008 x953009 x953010 x953011 x953012 x953013 x953014 x1010000 x1010001 x1010002 x1010003 x1010004 x1010005 x1010006 x1010007 x1010008 x1010009 x1010010 x1010011 x1010012 x1010013 x1010014) else (if (bt1019.2 != bt1021.2) = true then (ddilaw36_DhcpLeases.j2 k x108 x109 x110 true x953000 x953001 x953002 x953003 x953004 x953005 x953006 x953007 x953008 x953009 x953010 x953011 x953012 x953013 x953014 x1010000 x1010001 x1010002 x1010003 x1010004 x1010005 x1010006 x1010007 x1010008 x1010009 x1010010 x1010011 x1010012 x1010013 x1010014) else (ddilaw36_DhcpLeases.j2 k x108 x109 x110 (bt1019.1.toList != bt1021.1.toList) x953000 x953001 x953002 x953003 x953004 x953005 x953006 x953007 x953008 x953009 x953010 x953011 x953012 x953013 x953014 x1010000 x1010001 x1010002 x1010003 x1010004 x1010005 x1010006 x1010007 x1010008 x1010009 x1010010 x1010011 x1010012 x1010013 x1010014))))))) else (none)) else (none)) else ((ddilaw36_awake.f k).bind fun t1023 => (some t1023))
def ddilaw36_DhcpLeases.j2 : Nat → List (S61) → Int → Int → Bool → Int → Int → Int → ByteArray → Bool → Int → Int → Bool → Int → Int → Bool → Int → Int → Bool → List (S61) → Int → Int → Int → ByteArray → Bool → Int → Int → Bool → Int → Int → Bool → Int → Int → Bool → List (S61) → Option (Bool)
 | 0, _, _, _, _, _, _, _, _, _, _, _, _, _, _, _, _, _, _, _, _, _, _, _, _, _, _, _, _, _, _, _, _, _, _ => none
 | k + 1, x108, x109, x110, x152, x953000, x953001, x953002, x953003, x953004, x953005, x953006, x953007, x953008, x953009, x953010, x953011, x953012, x953013, x953014, x1010000, x1010001, x1010002, x1010003, x1010004, x1010005, x1010006, x1010007, x1010008, x1010009, x1010010, x1010011, x1010012, x1010013, x1010014 => if x152 = true then (none) else (ddilaw36_DhcpLeases.l0 k x108 x109 (wrap64 (x110 + 1)) x953000 x953001 x953002 x953003 x953004 x953005 x953006 x953007 x953008 x953009 x953010 x953011 x953012 x953013 x953014 x1010000 x1010001 x1010002 x1010003 x1010004 x1010005 x1010006 x1010007 x1010008 x1010009 x1010010 x1010011 x1010012 x1010013 x1010014)
end
def ddilaw36_DhcpLeases.f (k : Nat) (a0_0 : Int) (a0_1 : Int) (a0_2 : Int) (a0_3 : ByteArray) (a0_4 : Bool) (a0_5 : Int) (a0_6 : Int) (a0_7 : Bool) (a0_8 : Int) (a0_9 : Int) (a0_10 : Bool) (a0_11 : Int) (a0_12 : Int) (a0_13 : Bool) (l0_14 : List (S61)) (a1 : Int) (a2_0 : Bool) (a2_1 : Int) (a2_2 : Int) (a2_3 : Int) (a2_4 : ByteArray) (l2_5 : List (S139)) (l2_6 : List (S141)) (l2_7 : List (S61)) (a2_8 : Int) : Option (Bool) := (ddiref36_Short.f k a0_0 a0_1 a0_2 a0_3 a0_4 a0_5 a0_6 a0_7 a0_8 a0_9 a0_10 a0_11 a0_12 a0_13 l0_14).bind fun bt954 => ((ddiref36_Short.f k 0 0 0 (⟨#[]⟩ : ByteArray) false 0 0 false 0 0 false 0 0 false l2_7).bind fun bt971 => (if 0 ≤ (mn (bt971.2.2.2.2.2.2.2.2.2.2.2.2.2.2.length : Int) 20) then (if (mn (bt971.2.2.2.2.2.2.2.2.2.2.2.2.2.2.length : Int) 20) ≤ (bt971.2.2.2.2.2.2.2.2.2.2.2.2.2.2.length : Int) then ((dhcp_Grant.f k bt954.1 bt954.2.1 bt954.2.2.1 bt954.2.2.2.1 bt954.2.2.2.2.1 bt954.2.2.2.2.2.1 bt954.2.2.2.2.2.2.1 bt954.2.2.2.2.2.2.2.1 bt954.2.2.2.2.2.2.2.2.1 bt954.2.2.2.2.2.2.2.2.2.1 bt954.2.2.2.2.2.2.2.2.2.2.1 bt954.2.2.2.2.2.2.2.2.2.2.2.1 bt954.2.2.2.2.2.2.2.2.2.2.2.2.1 bt954.2.2.2.2.2.2.2.2.2.2.2.2.2.1 bt954.2.2.2.2.2.2.2.2.2.2.2.2.2.2 false 0 (IntKind.u64.wrap (a1)) a2_0 a2_1 a2_2 a2_3 a2_4 l2_5 l2_6 (bt971.2.2.2.2.2.2.2.2.2.2.2.2.2.2.take ((mn (bt971.2.2.2.2.2.2.2.2.2.2.2.2.2.2.length : Int) 20) : Int).toNat) (mn (mx a2_8 1) 1073741824)).bind fun bt992 => ((dhcp_Lease.f k bt992.1 bt992.2.1 bt992.2.2.1 bt992.2.2.2.1 bt992.2.2.2.2.1 bt992.2.2.2.2.2.1 bt992.2.2.2.2.2.2.1 bt992.2.2.2.2.2.2.2.1 bt992.2.2.2.2.2.2.2.2.1 bt992.2.2.2.2.2.2.2.2.2.1 bt992.2.2.2.2.2.2.2.2.2.2.1 bt992.2.2.2.2.2.2.2.2.2.2.2.1 bt992.2.2.2.2.2.2.2.2.2.2.2.2.1 bt992.2.2.2.2.2.2.2.2.2.2.2.2.2.1 bt992.2.2.2.2.2.2.2.2.2.2.2.2.2.2).bind fun bt1010 => (if (bt992.2.2.2.2.2.2.2.1 || (!(bt992.2.2.2.2.2.2.2.2.1 == 0) || (!(bt992.2.2.2.2.2.2.2.2.2.1 == (IntKind.u64.wrap (a1)))))) = true then (none) else (if bt992.2.1 = bt954.2.1 then (if bt992.1 = bt954.1 then (if bt1010.1 = (mn (mx a2_8 1) 1073741824) then (if bt1010.2.1 = ((mn (mx a2_8 1) 1073741824) / 2) then (if bt1010.2.2.1 = (((mn (mx a2_8 1) 1073741824) * 7) / 8) then (if bt1010.2.2.2 = true then ((dhcp_Valid.f k bt954.1 bt954.2.1 bt954.2.2.1 bt954.2.2.2.1 bt954.2.2.2.2.1 bt954.2.2.2.2.2.1 bt954.2.2.2.2.2.2.1 bt954.2.2.2.2.2.2.2.1 bt954.2.2.2.2.2.2.2.2.1 bt954.2.2.2.2.2.2.2.2.2.1 bt954.2.2.2.2.2.2.2.2.2.2.1 bt954.2.2.2.2.2.2.2.2.2.2.2.1 bt954.2.2.2.2.2.2.2.2.2.2.2.2.1 bt954.2.2.2.2.2.2.2.2.2.2.2.2.2.1 bt954.2.2.2.2.2.2.2.2.2.2.2.2.2.2).bind fun t1014 => (if t1014 = true then ((option_Valid.f k bt992.2.2.2.2.2.2.2.2.2.2.2.2.2.2).bind fun t1015 => ((dhcp_Valid.f k bt992.1 bt992.2.1 bt992.2.2.1 bt992.2.2.2.1 bt992.2.2.2.2.1 bt992.2.2.2.2.2.1 bt992.2.2.2.2.2.2.1 bt992.2.2.2.2.2.2.2.1 bt992.2.2.2.2.2.2.2.2.1 bt992.2.2.2.2.2.2.2.2.2.1 bt992.2.2.2.2.2.2.2.2.2.2.1 bt992.2.2.2.2.2.2.2.2.2.2.2.1 bt992.2.2.2.2.2.2.2.2.2.2.2.2.1 bt992.2.2.2.2.2.2.2.2.2.2.2.2.2.1 bt992.2.2.2.2.2.2.2.2.2.2.2.2.2.2).bind fun t1016 => (ddilaw36_DhcpLeases.j0 k (t1015 != t1016) bt954.1 bt954.2.1 bt954.2.2.1 bt954.2.2.2.1 bt954.2.2.2.2.1 bt954.2.2.2.2.2.1 bt954.2.2.2.2.2.2.1 bt954.2.2.2.2.2.2.2.1 bt954.2.2.2.2.2.2.2.2.1 bt954.2.2.2.2.2.2.2.2.2.1 bt954.2.2.2.2.2.2.2.2.2.2.1 bt954.2.2.2.2.2.2.2.2.2.2.2.1 bt954.2.2.2.2.2.2.2.2.2.2.2.2.1 bt954.2.2.2.2.2.2.2.2.2.2.2.2.2.1 bt954.2.2.2.2.2.2.2.2.2.2.2.2.2.2 bt992.1 bt992.2.1 bt992.2.2.1 bt992.2.2.2.1 bt992.2.2.2.2.1 bt992.2.2.2.2.2.1 bt992.2.2.2.2.2.2.1 bt992.2.2.2.2.2.2.2.1 bt992.2.2.2.2.2.2.2.2.1 bt992.2.2.2.2.2.2.2.2.2.1 bt992.2.2.2.2.2.2.2.2.2.2.1 bt992.2.2.2.2.2.2.2.2.2.2.2.1 bt992.2.2.2.2.2.2.2.2.2.2.2.2.1 bt992.2.2.2.2.2.2.2.2.2.2.2.2.2.1 bt992.2.2.2.2.2.2.2.2.2.2.2.2.2.2))) else (ddilaw36_DhcpLeases.j0 k false bt954.1 bt954.2.1 bt954.2.2.1 bt954.2.2.2.1 bt954.2.2.2.2.1 bt954.2.2.2.2.2.1 bt954.2.2.2.2.2.2.1 bt954.2.2.2.2.2.2.2.1 bt954.2.2.2.2.2.2.2.2.1 bt954.2.2.2.2.2.2.2.2.2.1 bt954.2.2.2.2.2.2.2.2.2.2.1 bt954.2.2.2.2.2.2.2.2.2.2.2.1 bt954.2.2.2.2.2.2.2.2.2.2.2.2.1 bt954.2.2.2.2.2.2.2.2.2.2.2.2.2.1 bt954.2.2.2.2.2.2.2.2.2.2.2.2.2.2 bt992.1 bt992.2.1 bt992.2.2.1 bt992.2.2.2.1 bt992.2.2.2.2.1 bt992.2.2.2.2.2.1 bt992.2.2.2.2.2.2.1 bt992.2.2.2.2.2.2.2.1 bt992.2.2.2.2.2.2.2.2.1 bt992.2.2.2.2.2.2.2.2.2.1 bt992.2.2.2.2.2.2.2.2.2.2.1 bt992.2.2.2.2.2.2.2.2.2.2.2.1 bt992.2.2.2.2.2.2.2.2.2.2.2.2.1 bt992.2.2.2.2.2.2.2.2.2.2.2.2.2.1 bt992.2.2.2.2.2.2.2.2.2.2.2.2.2.2))) else (none)) else (none)) else (none)) else (none)) else (none)) else (none))))) else (none)) else (none)))
def ddilaw36_DhcpLeases.T10 : Bool × List (List Nat × List Nat) := (true, [([], []), ([0], [0]), ([1, 1], [1]), ([2], [2]), ([3, 2], [2, 3]), ([4, 2, 2], [2, 4]), ([2], [2]), ([6, 5, 2], [2, 6]), ([5, 7, 2], [2, 5, 7]), ([2, 8], [2, 8])])
def ddilaw36_DhcpLeases.B10 : List Nat := [0, 1, 3, 7, 15, 31, 7, 127, 255, 511]
theorem ddilaw36_DhcpLeases.tab10 : rtab .any (opsOf Tryd.f9 10) = ddilaw36_DhcpLeases.T10 := by kernel_rfl
theorem ddilaw36_DhcpLeases.bits10 : waitsOk ddilaw36_DhcpLeases.T10.2 ddilaw36_DhcpLeases.B10 = true := by kernel_rfl
set_option maxHeartbeats 8000000 in
set_option maxRecDepth 100000 in
theorem ddilaw36_DhcpLeases.calls (k : Nat) (a0_0 : Int) (a0_1 : Int) (a0_2 : Int) (a0_3 : ByteArray) (a0_4 : Bool) (a0_5 : Int) (a0_6 : Int) (a0_7 : Bool) (a0_8 : Int) (a0_9 : Int) (a0_10 : Bool) (a0_11 : Int) (a0_12 : Int) (a0_13 : Bool) (A0_14 : Option Addr) (c0_14 : Nat) (l0_14 : List (S61)) (a1 : Int) (a2_0 : Bool) (a2_1 : Int) (a2_2 : Int) (a2_3 : Int) (a2_4 : ByteArray) (A2_5 : Option Addr) (c2_5 : Nat) (l2_5 : List (S139)) (A2_6 : Option Addr) (c2_6 : Nat) (l2_6 : List (S141)) (A2_7 : Option Addr) (c2_7 : Nat) (l2_7 : List (S61)) (a2_8 : Int) (r : Bool) (w : World) (hr0_14 : Kd.C k61 w A0_14 l0_14.length l0_14) (hc0_14 : l0_14.length ≤ c0_14) (hr2_5 : Kd.C k139 w A2_5 l2_5.length l2_5) (hc2_5 : l2_5.length ≤ c2_5) (hr2_6 : Kd.C k141 w A2_6 l2_6.length l2_6) (hc2_6 : l2_6.length ≤ c2_6) (hr2_7 : Kd.C k61 w A2_7 l2_7.length l2_7) (hc2_7 : l2_7.length ≤ c2_7) (h : ddilaw36_DhcpLeases.f k a0_0 a0_1 a0_2 a0_3 a0_4 a0_5 a0_6 a0_7 a0_8 a0_9 a0_10 a0_11 a0_12 a0_13 l0_14 a1 a2_0 a2_1 a2_2 a2_3 a2_4 l2_5 l2_6 l2_7 a2_8 = some r) :
  Calls Tryd.prog 9 #[.agg #[.int .i64 a0_0, .int .i64 a0_1, .int .i64 a0_2, .string a0_3, .bool a0_4, .int .u64 a0_5, .int .u64 a0_6, .bool a0_7, .int .u64 a0_8, .int .u64 a0_9, .bool a0_10, .int .u64 a0_11, .int .u64 a0_12, .bool a0_13, .slice A0_14 l0_14.length c0_14], .int .u32 a1, .agg #[.bool a2_0, .int .u64 a2_1, .int .u64 a2_2, .int .i64 a2_3, .string a2_4, .slice A2_5 l2_5.length c2_5, .slice A2_6 l2_6.length c2_6, .slice A2_7 l2_7.length c2_7, .int .i64 a2_8]] w fun e w' => e = .returned (.bool r) ∧ Below w.heap.size w w' := by
 have hu27 := Tryd.underlying27
 have hfld14 := @fld14
 have hu53 := Tryd.underlying53
 have hu24 := Tryd.underlying24
 have hu61 := Tryd.underlying61
 have HR0_14 := Aside0.mk hr0_14
 have HC0_14 := Aside0.mk hc0_14
 clear hr0_14 hc0_14
 have HR2_5 := Aside0.mk hr2_5
 have HC2_5 := Aside0.mk hc2_5
 clear hr2_5 hc2_5
 have HR2_6 := Aside0.mk hr2_6
 have HC2_6 := Aside0.mk hc2_6
 clear hr2_6 hc2_6
 have HR2_7 := Aside0.mk hr2_7
 have HC2_7 := Aside0.mk hc2_7
 clear hr2_7 hc2_7
 have HB := Aside0.mk (Below.refl w.heap.size w)
 have H : ((ddiref36_Short.f k a0_0 a0_1 a0_2 a0_3 a0_4 a0_5 a0_6 a0_7 a0_8 a0_9 a0_10 a0_11 a0_12 a0_13 l0_14).bind fun bt954 => ((ddiref36_Short.f k 0 0 0 (⟨#[]⟩ : ByteArray) false 0 0 false 0 0 false 0 0 false l2_7).bind fun bt971 => (if 0 ≤ (mn (bt971.2.2.2.2.2.2.2.2.2.2.2.2.2.2.length : Int) 20) then (if (mn (bt971.2.2.2.2.2.2.2.2.2.2.2.2.2.2.length : Int) 20) ≤ (bt971.2.2.2.2.2.2.2.2.2.2.2.2.2.2.length : Int) then ((dhcp_Grant.f k bt954.1 bt954.2.1 bt954.2.2.1 bt954.2.2.2.1 bt954.2.2.2.2.1 bt954.2.2.2.2.2.1 bt954.2.2.2.2.2.2.1 bt954.2.2.2.2.2.2.2.1 bt954.2.2.2.2.2.2.2.2.1 bt954.2.2.2.2.2.2.2.2.2.1 bt954.2.2.2.2.2.2.2.2.2.2.1 bt954.2.2.2.2.2.2.2.2.2.2.2.1 bt954.2.2.2.2.2.2.2.2.2.2.2.2.1 bt954.2.2.2.2.2.2.2.2.2.2.2.2.2.1 bt954.2.2.2.2.2.2.2.2.2.2.2.2.2.2 false 0 (IntKind.u64.wrap (a1)) a2_0 a2_1 a2_2 a2_3 a2_4 l2_5 l2_6 (bt971.2.2.2.2.2.2.2.2.2.2.2.2.2.2.take ((mn (bt971.2.2.2.2.2.2.2.2.2.2.2.2.2.2.length : Int) 20) : Int).toNat) (mn (mx a2_8 1) 1073741824)).bind fun bt992 => ((dhcp_Lease.f k bt992.1 bt992.2.1 bt992.2.2.1 bt992.2.2.2.1 bt992.2.2.2.2.1 bt992.2.2.2.2.2.1 bt992.2.2.2.2.2.2.1 bt992.2.2.2.2.2.2.2.1 bt992.2.2.2.2.2.2.2.2.1 bt992.2.2.2.2.2.2.2.2.2.1 bt992.2.2.2.2.2.2.2.2.2.2.1 bt992.2.2.2.2.2.2.2.2.2.2.2.1 bt992.2.2.2.2.2.2.2.2.2.2.2.2.1 bt992.2.2.2.2.2.2.2.2.2.2.2.2.2.1 bt992.2.2.2.2.2.2.2.2.2.2.2.2.2.2).bind fun bt1010 => (if (bt992.2.2.2.2.2.2.2.1 || (!(bt992.2.2.2.2.2.2.2.2.1 == 0) || (!(bt992.2.2.2.2.2.2.2.2.2.1 == (IntKind.u64.wrap (a1)))))) = true then (none) else (if bt992.2.1 = bt954.2.1 then (if bt992.1 = bt954.1 then (if bt1010.1 = (mn (mx a2_8 1) 1073741824) then (if bt1010.2.1 = ((mn (mx a2_8 1) 1073741824) / 2) then (if bt1010.2.2.1 = (((mn (mx a2_8 1) 1073741824) * 7) / 8) then (if bt1010.2.2.2 = true then ((dhcp_Valid.f k bt954.1 bt954.2.1 bt954.2.2.1 bt954.2.2.2.1 bt954.2.2.2.2.1 bt954.2.2.2.2.2.1 bt954.2.2.2.2.2.2.1 bt954.2.2.2.2.2.2.2.1 bt954.2.2.2.2.2.2.2.2.1 bt954.2.2.2.2.2.2.2.2.2.1 bt954.2.2.2.2.2.2.2.2.2.2.1 bt954.2.2.2.2.2.2.2.2.2.2.2.1 bt954.2.2.2.2.2.2.2.2.2.2.2.2.1 bt954.2.2.2.2.2.2.2.2.2.2.2.2.2.1 bt954.2.2.2.2.2.2.2.2.2.2.2.2.2.2).bind fun t1014 => (if t1014 = true then ((option_Valid.f k bt992.2.2.2.2.2.2.2.2.2.2.2.2.2.2).bind fun t1015 => ((dhcp_Valid.f k bt992.1 bt992.2.1 bt992.2.2.1 bt992.2.2.2.1 bt992.2.2.2.2.1 bt992.2.2.2.2.2.1 bt992.2.2.2.2.2.2.1 bt992.2.2.2.2.2.2.2.1 bt992.2.2.2.2.2.2.2.2.1 bt992.2.2.2.2.2.2.2.2.2.1 bt992.2.2.2.2.2.2.2.2.2.2.1 bt992.2.2.2.2.2.2.2.2.2.2.2.1 bt992.2.2.2.2.2.2.2.2.2.2.2.2.1 bt992.2.2.2.2.2.2.2.2.2.2.2.2.2.1 bt992.2.2.2.2.2.2.2.2.2.2.2.2.2.2).bind fun t1016 => (ddilaw36_DhcpLeases.j0 k (t1015 != t1016) bt954.1 bt954.2.1 bt954.2.2.1 bt954.2.2.2.1 bt954.2.2.2.2.1 bt954.2.2.2.2.2.1 bt954.2.2.2.2.2.2.1 bt954.2.2.2.2.2.2.2.1 bt954.2.2.2.2.2.2.2.2.1 bt954.2.2.2.2.2.2.2.2.2.1 bt954.2.2.2.2.2.2.2.2.2.2.1 bt954.2.2.2.2.2.2.2.2.2.2.2.1 bt954.2.2.2.2.2.2.2.2.2.2.2.2.1 bt954.2.2.2.2.2.2.2.2.2.2.2.2.2.1 bt954.2.2.2.2.2.2.2.2.2.2.2.2.2.2 bt992.1 bt992.2.1 bt992.2.2.1 bt992.2.2.2.1 bt992.2.2.2.2.1 bt992.2.2.2.2.2.1 bt992.2.2.2.2.2.2.1 bt992.2.2.2.2.2.2.2.1 bt992.2.2.2.2.2.2.2.2.1 bt992.2.2.2.2.2.2.2.2.2.1 bt992.2.2.2.2.2.2.2.2.2.2.1 bt992.2.2.2.2.2.2.2.2.2.2.2.1 bt992.2.2.2.2.2.2.2.2.2.2.2.2.1 bt992.2.2.2.2.2.2.2.2.2.2.2.2.2.1 bt992.2.2.2.2.2.2.2.2.2.2.2.2.2.2))) else (ddilaw36_DhcpLeases.j0 k false bt954.1 bt954.2.1 bt954.2.2.1 bt954.2.2.2.1 bt954.2.2.2.2.1 bt954.2.2.2.2.2.1 bt954.2.2.2.2.2.2.1 bt954.2.2.2.2.2.2.2.1 bt954.2.2.2.2.2.2.2.2.1 bt954.2.2.2.2.2.2.2.2.2.1 bt954.2.2.2.2.2.2.2.2.2.2.1 bt954.2.2.2.2.2.2.2.2.2.2.2.1 bt954.2.2.2.2.2.2.2.2.2.2.2.2.1 bt954.2.2.2.2.2.2.2.2.2.2.2.2.2.1 bt954.2.2.2.2.2.2.2.2.2.2.2.2.2.2 bt992.1 bt992.2.1 bt992.2.2.1 bt992.2.2.2.1 bt992.2.2.2.2.1 bt992.2.2.2.2.2.1 bt992.2.2.2.2.2.2.1 bt992.2.2.2.2.2.2.2.1 bt992.2.2.2.2.2.2.2.2.1 bt992.2.2.2.2.2.2.2.2.2.1 bt992.2.2.2.2.2.2.2.2.2.2.1 bt992.2.2.2.2.2.2.2.2.2.2.2.1 bt992.2.2.2.2.2.2.2.2.2.2.2.2.1 bt992.2.2.2.2.2.2.2.2.2.2.2.2.2.1 bt992.2.2.2.2.2.2.2.2.2.2.2.2.2.2))) else (none)) else (none)) else (none)) else (none)) else (none)) else (none))))) else (none)) else (none)))) = some r := h
 clear h
 replace H := Option.bind_eq_some_iff.mp H
 obtain ⟨⟨t954, t955, t956, t957, t958, t959, t960, t961, t962, t963, t964, t965, t966, t967, t968⟩, A40, H⟩ := H
 (try dsimp only at H)
 have A4 := Aside0.mk A40
 clear A40
 replace H := Option.bind_eq_some_iff.mp H
 obtain ⟨⟨t971, t972, t973, t974, t975, t976, t977, t978, t979, t980, t981, t982, t983, t984, t985⟩, A50, H⟩ := H
 (try dsimp only at H)
 have A5 := Aside0.mk A50
 clear A50
 obtain ⟨ji6, hji6⟩ : ∃ j_ : Int, (mn (t985.length : Int) 20) = j_ := ⟨_, rfl⟩
 replace H : (if 0 ≤ (ji6) then (if (ji6) ≤ (t985.length : Int) then ((dhcp_Grant.f k t954 t955 t956 t957 t958 t959 t960 t961 t962 t963 t964 t965 t966 t967 t968 false 0 (IntKind.u64.wrap (a1)) a2_0 a2_1 a2_2 a2_3 a2_4 l2_5 l2_6 (t985.take ((ji6) : Int).toNat) (mn (mx a2_8 1) 1073741824)).bind fun bt992 => ((dhcp_Lease.f k bt992.1 bt992.2.1 bt992.2.2.1 bt992.2.2.2.1 bt992.2.2.2.2.1 bt992.2.2.2.2.2.1 bt992.2.2.2.2.2.2.1 bt992.2.2.2.2.2.2.2.1 bt992.2.2.2.2.2.2.2.2.1 bt992.2.2.2.2.2.2.2.2.2.1 bt992.2.2.2.2.2.2.2.2.2.2.1 bt992.2.2.2.2.2.2.2.2.2.2.2.1 bt992.2.2.2.2.2.2.2.2.2.2.2.2.1 bt992.2.2.2.2.2.2.2.2.2.2.2.2.2.1 bt992.2.2.2.2.2.2.2.2.2.2.2.2.2.2).bind fun bt1010 => (if (bt992.2.2.2.2.2.2.2.1 || (!(bt992.2.2.2.2.2.2.2.2.1 == 0) || (!(bt992.2.2.2.2.2.2.2.2.2.1 == (IntKind.u64.wrap (a1)))))) = true then (none) else (if bt992.2.1 = t955 then (if bt992.1 = t954 then (if bt1010.1 = (mn (mx a2_8 1) 1073741824) then (if bt1010.2.1 = ((mn (mx a2_8 1) 1073741824) / 2) then (if bt1010.2.2.1 = (((mn (mx a2_8 1) 1073741824) * 7) / 8) then (if bt1010.2.2.2 = true then ((dhcp_Valid.f k t954 t955 t956 t957 t958 t959 t960 t961 t962 t963 t964 t965 t966 t967 t968).bind fun t1014 => (if t1014 = true then ((option_Valid.f k bt992.2.2.2.2.2.2.2.2.2.2.2.2.2.2).bind fun t1015 => ((dhcp_Valid.f k bt992.1 bt992.2.1 bt992.2.2.1 bt992.2.2.2.1 bt992.2.2.2.2.1 bt992.2.2.2.2.2.1 bt992.2.2.2.2.2.2.1 bt992.2.2.2.2.2.2.2.1 bt992.2.2.2.2.2.2.2.2.1 bt992.2.2.2.2.2.2.2.2.2.1 bt992.2.2.2.2.2.2.2.2.2.2.1 bt992.2.2.2.2.2.2.2.2.2.2.2.1 bt992.2.2.2.2.2.2.2.2.2.2.2.2.1 bt992.2.2.2.2.2.2.2.2.2.2.2.2.2.1 bt992.2.2.2.2.2.2.2.2.2.2.2.2.2.2).bind fun t1016 => (ddilaw36_DhcpLeases.j0 k (t1015 != t1016) t954 t955 t956 t957 t958 t959 t960 t961 t962 t963 t964 t965 t966 t967 t968 bt992.1 bt992.2.1 bt992.2.2.1 bt992.2.2.2.1 bt992.2.2.2.2.1 bt992.2.2.2.2.2.1 bt992.2.2.2.2.2.2.1 bt992.2.2.2.2.2.2.2.1 bt992.2.2.2.2.2.2.2.2.1 bt992.2.2.2.2.2.2.2.2.2.1 bt992.2.2.2.2.2.2.2.2.2.2.1 bt992.2.2.2.2.2.2.2.2.2.2.2.1 bt992.2.2.2.2.2.2.2.2.2.2.2.2.1 bt992.2.2.2.2.2.2.2.2.2.2.2.2.2.1 bt992.2.2.2.2.2.2.2.2.2.2.2.2.2.2))) else (ddilaw36_DhcpLeases.j0 k false t954 t955 t956 t957 t958 t959 t960 t961 t962 t963 t964 t965 t966 t967 t968 bt992.1 bt992.2.1 bt992.2.2.1 bt992.2.2.2.1 bt992.2.2.2.2.1 bt992.2.2.2.2.2.1 bt992.2.2.2.2.2.2.1 bt992.2.2.2.2.2.2.2.1 bt992.2.2.2.2.2.2.2.2.1 bt992.2.2.2.2.2.2.2.2.2.1 bt992.2.2.2.2.2.2.2.2.2.2.1 bt992.2.2.2.2.2.2.2.2.2.2.2.1 bt992.2.2.2.2.2.2.2.2.2.2.2.2.1 bt992.2.2.2.2.2.2.2.2.2.2.2.2.2.1 bt992.2.2.2.2.2.2.2.2.2.2.2.2.2.2))) else (none)) else (none)) else (none)) else (none)) else (none)) else (none))))) else (none)) else (none)) = some r := by first | (rw [hji6] at H; exact H) | (simp only [hji6] at H ⊢; exact H)
 (try rw [hji6] at A4)
 (try rw [hji6] at A5)
 (try (have hji6h : ji6 ≤ 20 := by (rw [← hji6]; unfold mn; (repeat' split) <;> omega)))
 (try (have hji6g : ji6 ≤ 64 := by omega))
 (try (have hji6l : 0 ≤ ji6 := by (rw [← hji6]; unfold mn; (repeat' split) <;> omega)))
 (try (have hji6m : 0 ≤ ji6 := by omega))
 have hji6_ : (if 20 < (t985.length : Int) then 20 else (t985.length : Int)) = ji6 := hji6
 by_cases c7 : 0 ≤ (ji6)
 ·rw [if_pos c7] at H
  have c7b0 := eq_true c7
  have c7b1 : decide (0 ≤ (ji6)) = true := decide_eq_true c7
  clear c7
  by_cases c8 : (ji6) ≤ (t985.length : Int)
  ·rw [if_pos c8] at H
   have c8b0 := eq_true c8
   have c8b1 : decide ((ji6) ≤ (t985.length : Int)) = true := decide_eq_true c8
   clear c8
   obtain ⟨y988, hy988⟩ : ∃ y_ : List (S61), y_ = (t985.take ((ji6) : Int).toNat) := ⟨_, rfl⟩
   replace H : ((dhcp_Grant.f k t954 t955 t956 t957 t958 t959 t960 t961 t962 t963 t964 t965 t966 t967 t968 false 0 (IntKind.u64.wrap (a1)) a2_0 a2_1 a2_2 a2_3 a2_4 l2_5 l2_6 y988 (mn (mx a2_8 1) 1073741824)).bind fun bt992 => ((dhcp_Lease.f k bt992.1 bt992.2.1 bt992.2.2.1 bt992.2.2.2.1 bt992.2.2.2.2.1 bt992.2.2.2.2.2.1 bt992.2.2.2.2.2.2.1 bt992.2.2.2.2.2.2.2.1 bt992.2.2.2.2.2.2.2.2.1 bt992.2.2.2.2.2.2.2.2.2.1 bt992.2.2.2.2.2.2.2.2.2.2.1 bt992.2.2.2.2.2.2.2.2.2.2.2.1 bt992.2.2.2.2.2.2.2.2.2.2.2.2.1 bt992.2.2.2.2.2.2.2.2.2.2.2.2.2.1 bt992.2.2.2.2.2.2.2.2.2.2.2.2.2.2).bind fun bt1010 => (if (bt992.2.2.2.2.2.2.2.1 || (!(bt992.2.2.2.2.2.2.2.2.1 == 0) || (!(bt992.2.2.2.2.2.2.2.2.2.1 == (IntKind.u64.wrap (a1)))))) = true then (none) else (if bt992.2.1 = t955 then (if bt992.1 = t954 then (if bt1010.1 = (mn (mx a2_8 1) 1073741824) then (if bt1010.2.1 = ((mn (mx a2_8 1) 1073741824) / 2) then (if bt1010.2.2.1 = (((mn (mx a2_8 1) 1073741824) * 7) / 8) then (if bt1010.2.2.2 = true then ((dhcp_Valid.f k t954 t955 t956 t957 t958 t959 t960 t961 t962 t963 t964 t965 t966 t967 t968).bind fun t1014 => (if t1014 = true then ((option_Valid.f k bt992.2.2.2.2.2.2.2.2.2.2.2.2.2.2).bind fun t1015 => ((dhcp_Valid.f k bt992.1 bt992.2.1 bt992.2.2.1 bt992.2.2.2.1 bt992.2.2.2.2.1 bt992.2.2.2.2.2.1 bt992.2.2.2.2.2.2.1 bt992.2.2.2.2.2.2.2.1 bt992.2.2.2.2.2.2.2.2.1 bt992.2.2.2.2.2.2.2.2.2.1 bt992.2.2.2.2.2.2.2.2.2.2.1 bt992.2.2.2.2.2.2.2.2.2.2.2.1 bt992.2.2.2.2.2.2.2.2.2.2.2.2.1 bt992.2.2.2.2.2.2.2.2.2.2.2.2.2.1 bt992.2.2.2.2.2.2.2.2.2.2.2.2.2.2).bind fun t1016 => (ddilaw36_DhcpLeases.j0 k (t1015 != t1016) t954 t955 t956 t957 t958 t959 t960 t961 t962 t963 t964 t965 t966 t967 t968 bt992.1 bt992.2.1 bt992.2.2.1 bt992.2.2.2.1 bt992.2.2.2.2.1 bt992.2.2.2.2.2.1 bt992.2.2.2.2.2.2.1 bt992.2.2.2.2.2.2.2.1 bt992.2.2.2.2.2.2.2.2.1 bt992.2.2.2.2.2.2.2.2.2.1 bt992.2.2.2.2.2.2.2.2.2.2.1 bt992.2.2.2.2.2.2.2.2.2.2.2.1 bt992.2.2.2.2.2.2.2.2.2.2.2.2.1 bt992.2.2.2.2.2.2.2.2.2.2.2.2.2.1 bt992.2.2.2.2.2.2.2.2.2.2.2.2.2.2))) else (ddilaw36_DhcpLeases.j0 k false t954 t955 t956 t957 t958 t959 t960 t961 t962 t963 t964 t965 t966 t967 t968 bt992.1 bt992.2.1 bt992.2.2.1 bt992.2.2.2.1 bt992.2.2.2.2.1 bt992.2.2.2.2.2.1 bt992.2.2.2.2.2.2.1 bt992.2.2.2.2.2.2.2.1 bt992.2.2.2.2.2.2.2.2.1 bt992.2.2.2.2.2.2.2.2.2.1 bt992.2.2.2.2.2.2.2.2.2.2.1 bt992.2.2.2.2.2.2.2.2.2.2.2.1 bt992.2.2.2.2.2.2.2.2.2.2.2.2.1 bt992.2.2.2.2.2.2.2.2.2.2.2.2.2.1 bt992.2.2.2.2.2.2.2.2.2.2.2.2.2.2))) else (none)) else (none)) else (none)) else (none)) else (none)) else (none))))) = some r := by first | (rw [hy988]; with_reducible exact H) | (have H2_ := (Option.bind_some _ _).symm.trans H; rw [hy988]; with_reducible exact H2_) | (have H2_ := (Option.bind_some _ _).symm.trans H; with_reducible exact H2_) | with_reducible exact H | (rw [hy988]; exact H) | exact H
   have Ny988 := Aside0.mk hy988
   clear hy988
   obtain ⟨ji9, hji9⟩ : ∃ j_ : Int, (mx a2_8 1) = j_ := ⟨_, rfl⟩
   replace H : ((dhcp_Grant.f k t954 t955 t956 t957 t958 t959 t960 t961 t962 t963 t964 t965 t966 t967 t968 false 0 (IntKind.u64.wrap (a1)) a2_0 a2_1 a2_2 a2_3 a2_4 l2_5 l2_6 y988 (mn (ji9) 1073741824)).bind fun bt992 => ((dhcp_Lease.f k bt992.1 bt992.2.1 bt992.2.2.1 bt992.2.2.2.1 bt992.2.2.2.2.1 bt992.2.2.2.2.2.1 bt992.2.2.2.2.2.2.1 bt992.2.2.2.2.2.2.2.1 bt992.2.2.2.2.2.2.2.2.1 bt992.2.2.2.2.2.2.2.2.2.1 bt992.2.2.2.2.2.2.2.2.2.2.1 bt992.2.2.2.2.2.2.2.2.2.2.2.1 bt992.2.2.2.2.2.2.2.2.2.2.2.2.1 bt992.2.2.2.2.2.2.2.2.2.2.2.2.2.1 bt992.2.2.2.2.2.2.2.2.2.2.2.2.2.2).bind fun bt1010 => (if (bt992.2.2.2.2.2.2.2.1 || (!(bt992.2.2.2.2.2.2.2.2.1 == 0) || (!(bt992.2.2.2.2.2.2.2.2.2.1 == (IntKind.u64.wrap (a1)))))) = true then (none) else (if bt992.2.1 = t955 then (if bt992.1 = t954 then (if bt1010.1 = (mn (ji9) 1073741824) then (if bt1010.2.1 = ((mn (ji9) 1073741824) / 2) then (if bt1010.2.2.1 = (((mn (ji9) 1073741824) * 7) / 8) then (if bt1010.2.2.2 = true then ((dhcp_Valid.f k t954 t955 t956 t957 t958 t959 t960 t961 t962 t963 t964 t965 t966 t967 t968).bind fun t1014 => (if t1014 = true then ((option_Valid.f k bt992.2.2.2.2.2.2.2.2.2.2.2.2.2.2).bind fun t1015 => ((dhcp_Valid.f k bt992.1 bt992.2.1 bt992.2.2.1 bt992.2.2.2.1 bt992.2.2.2.2.1 bt992.2.2.2.2.2.1 bt992.2.2.2.2.2.2.1 bt992.2.2.2.2.2.2.2.1 bt992.2.2.2.2.2.2.2.2.1 bt992.2.2.2.2.2.2.2.2.2.1 bt992.2.2.2.2.2.2.2.2.2.2.1 bt992.2.2.2.2.2.2.2.2.2.2.2.1 bt992.2.2.2.2.2.2.2.2.2.2.2.2.1 bt992.2.2.2.2.2.2.2.2.2.2.2.2.2.1 bt992.2.2.2.2.2.2.2.2.2.2.2.2.2.2).bind fun t1016 => (ddilaw36_DhcpLeases.j0 k (t1015 != t1016) t954 t955 t956 t957 t958 t959 t960 t961 t962 t963 t964 t965 t966 t967 t968 bt992.1 bt992.2.1 bt992.2.2.1 bt992.2.2.2.1 bt992.2.2.2.2.1 bt992.2.2.2.2.2.1 bt992.2.2.2.2.2.2.1 bt992.2.2.2.2.2.2.2.1 bt992.2.2.2.2.2.2.2.2.1 bt992.2.2.2.2.2.2.2.2.2.1 bt992.2.2.2.2.2.2.2.2.2.2.1 bt992.2.2.2.2.2.2.2.2.2.2.2.1 bt992.2.2.2.2.2.2.2.2.2.2.2.2.1 bt992.2.2.2.2.2.2.2.2.2.2.2.2.2.1 bt992.2.2.2.2.2.2.2.2.2.2.2.2.2.2))) else (ddilaw36_DhcpLeases.j0 k false t954 t955 t956 t957 t958 t959 t960 t961 t962 t963 t964 t965 t966 t967 t968 bt992.1 bt992.2.1 bt992.2.2.1 bt992.2.2.2.1 bt992.2.2.2.2.1 bt992.2.2.2.2.2.1 bt992.2.2.2.2.2.2.1 bt992.2.2.2.2.2.2.2.1 bt992.2.2.2.2.2.2.2.2.1 bt992.2.2.2.2.2.2.2.2.2.1 bt992.2.2.2.2.2.2.2.2.2.2.1 bt992.2.2.2.2.2.2.2.2.2.2.2.1 bt992.2.2.2.2.2.2.2.2.2.2.2.2.1 bt992.2.2.2.2.2.2.2.2.2.2.2.2.2.1 bt992.2.2.2.2.2.2.2.2.2.2.2.2.2.2))) else (none)) else (none)) else (none)) else (none)) else (none)) else (none))))) = some r := by first | (rw [hji9] at H; exact H) | (simp only [hji9] at H ⊢; exact H)
   (try rw [hji9] at A4)
   (try rw [hji9] at A5)
   (try (have hji9l : 1 ≤ ji9 := by (rw [← hji9]; unfold mx; (repeat' split) <;> omega)))
   (try (have hji9m : 0 ≤ ji9 := by omega))
   have hji9_ : (if a2_8 < 1 then 1 else a2_8) = ji9 := hji9
   obtain ⟨ji10, hji10⟩ : ∃ j_ : Int, (mn (ji9) 1073741824) = j_ := ⟨_, rfl⟩
   replace H : ((dhcp_Grant.f k t954 t955 t956 t957 t958 t959 t960 t961 t962 t963 t964 t965 t966 t967 t968 false 0 (IntKind.u64.wrap (a1)) a2_0 a2_1 a2_2 a2_3 a2_4 l2_5 l2_6 y988 (ji10)).bind fun bt992 => ((dhcp_Lease.f k bt992.1 bt992.2.1 bt992.2.2.1 bt992.2.2.2.1 bt992.2.2.2.2.1 bt992.2.2.2.2.2.1 bt992.2.2.2.2.2.2.1 bt992.2.2.2.2.2.2.2.1 bt992.2.2.2.2.2.2.2.2.1 bt992.2.2.2.2.2.2.2.2.2.1 bt992.2.2.2.2.2.2.2.2.2.2.1 bt992.2.2.2.2.2.2.2.2.2.2.2.1 bt992.2.2.2.2.2.2.2.2.2.2.2.2.1 bt992.2.2.2.2.2.2.2.2.2.2.2.2.2.1 bt992.2.2.2.2.2.2.2.2.2.2.2.2.2.2).bind fun bt1010 => (if (bt992.2.2.2.2.2.2.2.1 || (!(bt992.2.2.2.2.2.2.2.2.1 == 0) || (!(bt992.2.2.2.2.2.2.2.2.2.1 == (IntKind.u64.wrap (a1)))))) = true then (none) else (if bt992.2.1 = t955 then (if bt992.1 = t954 then (if bt1010.1 = (ji10) then (if bt1010.2.1 = ((ji10) / 2) then (if bt1010.2.2.1 = (((ji10) * 7) / 8) then (if bt1010.2.2.2 = true then ((dhcp_Valid.f k t954 t955 t956 t957 t958 t959 t960 t961 t962 t963 t964 t965 t966 t967 t968).bind fun t1014 => (if t1014 = true then ((option_Valid.f k bt992.2.2.2.2.2.2.2.2.2.2.2.2.2.2).bind fun t1015 => ((dhcp_Valid.f k bt992.1 bt992.2.1 bt992.2.2.1 bt992.2.2.2.1 bt992.2.2.2.2.1 bt992.2.2.2.2.2.1 bt992.2.2.2.2.2.2.1 bt992.2.2.2.2.2.2.2.1 bt992.2.2.2.2.2.2.2.2.1 bt992.2.2.2.2.2.2.2.2.2.1 bt992.2.2.2.2.2.2.2.2.2.2.1 bt992.2.2.2.2.2.2.2.2.2.2.2.1 bt992.2.2.2.2.2.2.2.2.2.2.2.2.1 bt992.2.2.2.2.2.2.2.2.2.2.2.2.2.1 bt992.2.2.2.2.2.2.2.2.2.2.2.2.2.2).bind fun t1016 => (ddilaw36_DhcpLeases.j0 k (t1015 != t1016) t954 t955 t956 t957 t958 t959 t960 t961 t962 t963 t964 t965 t966 t967 t968 bt992.1 bt992.2.1 bt992.2.2.1 bt992.2.2.2.1 bt992.2.2.2.2.1 bt992.2.2.2.2.2.1 bt992.2.2.2.2.2.2.1 bt992.2.2.2.2.2.2.2.1 bt992.2.2.2.2.2.2.2.2.1 bt992.2.2.2.2.2.2.2.2.2.1 bt992.2.2.2.2.2.2.2.2.2.2.1 bt992.2.2.2.2.2.2.2.2.2.2.2.1 bt992.2.2.2.2.2.2.2.2.2.2.2.2.1 bt992.2.2.2.2.2.2.2.2.2.2.2.2.2.1 bt992.2.2.2.2.2.2.2.2.2.2.2.2.2.2))) else (ddilaw36_DhcpLeases.j0 k false t954 t955 t956 t957 t958 t959 t960 t961 t962 t963 t964 t965 t966 t967 t968 bt992.1 bt992.2.1 bt992.2.2.1 bt992.2.2.2.1 bt992.2.2.2.2.1 bt992.2.2.2.2.2.1 bt992.2.2.2.2.2.2.1 bt992.2.2.2.2.2.2.2.1 bt992.2.2.2.2.2.2.2.2.1 bt992.2.2.2.2.2.2.2.2.2.1 bt992.2.2.2.2.2.2.2.2.2.2.1 bt992.2.2.2.2.2.2.2.2.2.2.2.1 bt992.2.2.2.2.2.2.2.2.2.2.2.2.1 bt992.2.2.2.2.2.2.2.2.2.2.2.2.2.1 bt992.2.2.2.2.2.2.2.2.2.2.2.2.2.2))) else (none)) else (none)) else (none)) else (none)) else (none)) else (none))))) = some r := by first | (rw [hji10] at H; exact H) | (simp only [hji10] at H ⊢; exact H)
   (try rw [hji10] at A4)
   (try rw [hji10] at A5)
   have hji10_ : (if 1073741824 < (ji9) then 1073741824 else (ji9)) = ji10 := hji10
   replace H := Option.bind_eq_some_iff.mp H
   obtain ⟨⟨t992, t993, t994, t995, t996, t997, t998, t999, t1000, t1001, t1002, t1003, t1004, t1005, t1006⟩, A110, H⟩ := H
   (try dsimp only at H)
   have A11 := Aside0.mk A110
   clear A110
   replace H := Option.bind_eq_some_iff.mp H
   obtain ⟨⟨t1010, t1011, t1012, t1013⟩, A120, H⟩ := H
   (try dsimp only at H)
   have A12 := Aside0.mk A120
   clear A120
   by_cases c13 : (t999 || (!(t1000 == 0) || (!(t1001 == (IntKind.u64.wrap (a1)))))) = true
   ·rw [if_pos c13] at H
    exact absurd H (by simp)
   ·rw [if_neg c13] at H
    have c13b0 : (t999 || (!(t1000 == 0) || (!(t1001 == (IntKind.u64.wrap (a1)))))) = false := by simpa using c13
    clear c13
    by_cases c14 : t993 = t955
    ·rw [if_pos c14] at H
     have c14b0 : (t993 == t955) = true := beq_iff_eq.mpr c14
     have c14b1 : (t993 != t955) = false := bne_eq_false_iff_eq.mpr c14
     clear c14
     by_cases c15 : t992 = t954
     ·rw [if_pos c15] at H
      have c15b0 : (t992 == t954) = true := beq_iff_eq.mpr c15
      have c15b1 : (t992 != t954) = false := bne_eq_false_iff_eq.mpr c15
      clear c15
      by_cases c16 : t1010 = (ji10)
      ·rw [if_pos c16] at H
       have c16b0 : (t1010 == (ji10)) = true := beq_iff_eq.mpr c16
       have c16b1 : (t1010 != (ji10)) = false := bne_eq_false_iff_eq.mpr c16
       clear c16
       by_cases c17 : t1011 = ((ji10) / 2)
       ·rw [if_pos c17] at H
        have c17b0 : (t1011 == ((ji10) / 2)) = true := beq_iff_eq.mpr c17
        have c17b1 : (t1011 != ((ji10) / 2)) = false := bne_eq_false_iff_eq.mpr c17
        clear c17
        by_cases c18 : t1012 = (((ji10) * 7) / 8)
        ·rw [if_pos c18] at H
         have c18b0 : (t1012 == (((ji10) * 7) / 8)) = true := beq_iff_eq.mpr c18
         have c18b1 : (t1012 != (((ji10) * 7) / 8)) = false := bne_eq_false_iff_eq.mpr c18
         clear c18
         by_cases c19 : t1013 = true
         ·subst c19
          rw [if_pos rfl] at H
          have HC20 := Aside0.mk H
          clear H
          go_enter Tryd.func9, Tryd.ntmps9
          go_upto_region 10 with (first | ((with_reducible refine gate_dst (N := 3) rfl ?_); refine box_event ?hg (N := 3) ?hd (cs := #[.int .i64 a0_0, .int .i64 a0_1, .int .i64 a0_2, .string a0_3, .bool a0_4, .int .u64 a0_5, .int .u64 a0_6, .bool a0_7, .int .u64 a0_8, .int .u64 a0_9, .bool a0_10, .int .u64 a0_11, .int .u64 a0_12, .bool a0_13, .slice A0_14 l0_14.length c0_14]) (t := 27) ?hr ?_; (case hd => rfl); (case hg => rfl); (case hr => first | (go_simp; done) | (go_simp; rfl)); intro gb952 hg w21 hbox hb; have n0_ := Aside0.mk (below_step (hbx HB.out) hb); have n1_ := Aside0.mk (hbox); have n2_ := Aside0.mk ((by rw [hg]; exact (below_size (hbx HB.out)) : w.heap.size ≤ gb952)); have n3_ := Aside0.mk ((by rw [hg]; exact (below_size (hbx HB.out)) : w.heap.size ≤ gb952)); clear HB; have HB := n0_; have BK952 := n1_; have GW952 := n2_; have GE952 := n3_; clear n0_ n1_ n2_ n3_; clear hb hbox hg) | ((with_reducible refine gate_dst (N := 5) rfl ?_); refine box_event ?hg (N := 5) ?hd (cs := #[.bool a2_0, .int .u64 a2_1, .int .u64 a2_2, .int .i64 a2_3, .string a2_4, .slice A2_5 l2_5.length c2_5, .slice A2_6 l2_6.length c2_6, .slice A2_7 l2_7.length c2_7, .int .i64 a2_8]) (t := 53) ?hr ?_; (case hd => rfl); (case hg => rfl); (case hr => first | (go_simp; done) | (go_simp; rfl)); intro gb953 hg w22 hbox hb; have n0_ := Aside0.mk (blk_below (bkx BK952.out) hb); have n1_ := Aside0.mk (below_step (hbx HB.out) hb); have n2_ := Aside0.mk (hbox); have n3_ := Aside0.mk ((by rw [hg]; exact (below_size (hbx HB.out)) : w.heap.size ≤ gb953)); have n4_ := Aside0.mk ((by rw [hg]; exact (below_size (hbx HB.out)) : w.heap.size ≤ gb953)); have n5_ := Aside0.mk ((by rw [hg]; exact Nat.ne_of_lt (blk_lt (bkx BK952.out)) : gb952 ≠ gb953)); have n6_ := Aside0.mk ((by rw [hg]; exact Nat.ne_of_gt (blk_lt (bkx BK952.out)) : gb953 ≠ gb952)); clear BK952; clear HB; have BK952 := n0_; have HB := n1_; have BK953 := n2_; have GW953 := n3_; have GE953 := n4_; have NB952_953 := n5_; have NB953_952 := n6_; clear n0_ n1_ n2_ n3_ n4_ n5_ n6_; clear hb hbox hg; have hnb23 := NB952_953.out; have hnc23 := NB953_952.out; obtain ⟨⟨hcz24_0, hcz24_1, hcz24_2, hcz24_3, hcz24_4, hcz24_5, hcz24_6, hcz24_7, hcz24_8, hcz24_9, hcz24_10, hcz24_11, hcz24_12, hcz24_13, hcz24_14⟩, hfz24_0, hfz24_1, hfz24_2, hfz24_3, hfz24_4, hfz24_5, hfz24_6, hfz24_7, hfz24_8, hfz24_9, hfz24_10, hfz24_11, hfz24_12, hfz24_13, hfz24_14⟩ := cf15 BK952.out) | ((with_reducible refine gate_callee (f := 10) rfl ?_); refine goesL_ (some 20) rfl rfl Tryd.func10 (by kernel_rfl) rfl #[.agg #[.int .i64 a0_0, .int .i64 a0_1, .int .i64 a0_2, .string a0_3, .bool a0_4, .int .u64 a0_5, .int .u64 a0_6, .bool a0_7, .int .u64 a0_8, .int .u64 a0_9, .bool a0_10, .int .u64 a0_11, .int .u64 a0_12, .bool a0_13, .slice A0_14 l0_14.length c0_14]] rfl (by (try simp only [List.map_toArray, List.map_cons, List.map_nil]); first | done | rfl | (simp only [List.length_drop, List.length_take]; rfl)) ?_; (with_reducible refine (ddiref36_Short.calls k a0_0 a0_1 a0_2 a0_3 a0_4 a0_5 a0_6 a0_7 a0_8 a0_9 a0_10 a0_11 a0_12 a0_13 _ _ l0_14 t954 t955 t956 t957 t958 t959 t960 t961 t962 t963 t964 t965 t966 t967 t968 _ ?side1 ?side2 A4.out).mono ?_); (case side1 => repeat (first | exact (Kd.C_below HR0_14.out HB.out) | (with_reducible refine Kd.C_alloc ?_ _) | (with_reducible refine Kd.C_drewN ?_ _) | (with_reducible refine Kd.C_drew ?_))); (case side2 => exact HC0_14.out); rintro e w25 ⟨v969, rfl, ho0, hb⟩; refine ⟨_, rfl, ?_⟩; have n0_ := Aside0.mk (Kd.R_lower ho0 (below_size (hbx HB.out))); have n1_ := Aside0.mk (blk_below (bkx BK952.out) hb); have n2_ := Aside0.mk (blk_below (bkx BK953.out) hb); have n3_ := Aside0.mk (below_step (hbx HB.out) hb); clear BK952; clear BK953; clear HB; have HO970 := n0_; have BK952 := n1_; have BK953 := n2_; have HB := n3_; clear n0_ n1_ n2_ n3_; (try clear hb); (try clear hb2); (try clear hk); (try clear hi); (try clear ho0); obtain ⟨⟨hcz26_0, hcz26_1, hcz26_2, hcz26_3, hcz26_4, hcz26_5, hcz26_6, hcz26_7, hcz26_8, hcz26_9, hcz26_10, hcz26_11, hcz26_12, hcz26_13, hcz26_14⟩, hfz26_0, hfz26_1, hfz26_2, hfz26_3, hfz26_4, hfz26_5, hfz26_6, hfz26_7, hfz26_8, hfz26_9, hfz26_10, hfz26_11, hfz26_12, hfz26_13, hfz26_14⟩ := cf15 BK952.out; obtain ⟨Ao27, co27, eo27⟩ := Kd.R_slice HO970.out; subst eo27; obtain ⟨⟨hcz28_0, hcz28_1, hcz28_2, hcz28_3, hcz28_4, hcz28_5, hcz28_6, hcz28_7, hcz28_8⟩, hfz28_0, hfz28_1, hfz28_2, hfz28_3, hfz28_4, hfz28_5, hfz28_6, hfz28_7, hfz28_8⟩ := cf9 BK953.out) | ((with_reducible refine gate_callee (f := 10) rfl ?_); refine goesL_ (some 24) rfl rfl Tryd.func10 (by kernel_rfl) rfl #[.agg #[.int .i64 0, .int .i64 0, .int .i64 0, .string (⟨#[]⟩ : ByteArray), .bool false, .int .u64 0, .int .u64 0, .bool false, .int .u64 0, .int .u64 0, .bool false, .int .u64 0, .int .u64 0, .bool false, .slice A2_7 l2_7.length c2_7]] rfl (by (try simp only [List.map_toArray, List.map_cons, List.map_nil]); first | done | rfl | (simp only [List.length_drop, List.length_take]; rfl)) ?_; (with_reducible refine (ddiref36_Short.calls k 0 0 0 (⟨#[]⟩ : ByteArray) false 0 0 false 0 0 false 0 0 false _ _ l2_7 t971 t972 t973 t974 t975 t976 t977 t978 t979 t980 t981 t982 t983 t984 t985 _ ?side1 ?side2 A5.out).mono ?_); (case side1 => exact Kd.C_below HR2_7.out (hbx HB.out)); (case side2 => exact HC2_7.out); rintro e w29 ⟨v986, rfl, ho0, hb⟩; refine ⟨_, rfl, ?_⟩; have n0_ := Aside0.mk (Kd.R_elder' (by (with_reducible repeat (first | apply Kd.R_alloc | apply Kd.R_drewN | apply Kd.R_drew)); exact (Kd.R_mono (Kd.R_far (p := ⟨gb952, 14, none⟩) (Kd.R_far (p := ⟨gb952, 13, none⟩) (Kd.R_far (p := ⟨gb952, 12, none⟩) (Kd.R_far (p := ⟨gb952, 11, none⟩) (Kd.R_far (p := ⟨gb952, 10, none⟩) (Kd.R_far (p := ⟨gb952, 9, none⟩) (Kd.R_far (p := ⟨gb952, 8, none⟩) (Kd.R_far (p := ⟨gb952, 7, none⟩) (Kd.R_far (p := ⟨gb952, 6, none⟩) (Kd.R_far (p := ⟨gb952, 5, none⟩) (Kd.R_far (p := ⟨gb952, 4, none⟩) (Kd.R_far (p := ⟨gb952, 3, none⟩) (Kd.R_far (p := ⟨gb952, 2, none⟩) (Kd.R_far (p := ⟨gb952, 1, none⟩) (Kd.R_far (p := ⟨gb952, 0, none⟩) (Kd.R_types HO970.out BK952.out (by decide)) (fun _ hk => hk.2) (.int .i64 t954)) (fun _ hk => hk.2) (.int .i64 t955)) (fun _ hk => hk.2) (.int .i64 t956)) (fun _ hk => hk.2) (.string t957)) (fun _ hk => hk.2) (.bool t958)) (fun _ hk => hk.2) (.int .u64 t959)) (fun _ hk => hk.2) (.int .u64 t960)) (fun _ hk => hk.2) (.bool t961)) (fun _ hk => hk.2) (.int .u64 t962)) (fun _ hk => hk.2) (.int .u64 t963)) (fun _ hk => hk.2) (.bool t964)) (fun _ hk => hk.2) (.int .u64 t965)) (fun _ hk => hk.2) (.int .u64 t966)) (fun _ hk => hk.2) (.bool t967)) (fun _ hk => hk.2) (.slice Ao27 t968.length co27)) (fun _ h_ => h_.1))) (Kd.R_base ho0) hb); have n1_ := Aside0.mk (Kd.R_lower (Kd.R_new' ho0 (Kd.R_lt (by (with_reducible repeat (first | apply Kd.R_alloc | apply Kd.R_drewN | apply Kd.R_drew)); exact (Kd.R_mono (Kd.R_far (p := ⟨gb952, 14, none⟩) (Kd.R_far (p := ⟨gb952, 13, none⟩) (Kd.R_far (p := ⟨gb952, 12, none⟩) (Kd.R_far (p := ⟨gb952, 11, none⟩) (Kd.R_far (p := ⟨gb952, 10, none⟩) (Kd.R_far (p := ⟨gb952, 9, none⟩) (Kd.R_far (p := ⟨gb952, 8, none⟩) (Kd.R_far (p := ⟨gb952, 7, none⟩) (Kd.R_far (p := ⟨gb952, 6, none⟩) (Kd.R_far (p := ⟨gb952, 5, none⟩) (Kd.R_far (p := ⟨gb952, 4, none⟩) (Kd.R_far (p := ⟨gb952, 3, none⟩) (Kd.R_far (p := ⟨gb952, 2, none⟩) (Kd.R_far (p := ⟨gb952, 1, none⟩) (Kd.R_far (p := ⟨gb952, 0, none⟩) (Kd.R_types HO970.out BK952.out (by decide)) (fun _ hk => hk.2) (.int .i64 t954)) (fun _ hk => hk.2) (.int .i64 t955)) (fun _ hk => hk.2) (.int .i64 t956)) (fun _ hk => hk.2) (.string t957)) (fun _ hk => hk.2) (.bool t958)) (fun _ hk => hk.2) (.int .u64 t959)) (fun _ hk => hk.2) (.int .u64 t960)) (fun _ hk => hk.2) (.bool t961)) (fun _ hk => hk.2) (.int .u64 t962)) (fun _ hk => hk.2) (.int .u64 t963)) (fun _ hk => hk.2) (.bool t964)) (fun _ hk => hk.2) (.int .u64 t965)) (fun _ hk => hk.2) (.int .u64 t966)) (fun _ hk => hk.2) (.bool t967)) (fun _ hk => hk.2) (.slice Ao27 t968.length co27)) (fun _ h_ => h_.1))))) (below_size (hbx HB.out))); have n2_ := Aside0.mk (blk_below (g := gb952) (o := .cells #[.int .i64 t954, .int .i64 t955, .int .i64 t956, .string t957, .bool t958, .int .u64 t959, .int .u64 t960, .bool t961, .int .u64 t962, .int .u64 t963, .bool t964, .int .u64 t965, .int .u64 t966, .bool t967, .slice Ao27 t968.length co27] 27 (0, 0)) (by (with_reducible repeat (first | refine blk_drewN ?_ _ | refine blk_drew ?_ | refine blk_alloc ?_ _)); refine blk_put (cs := #[.int .i64 t954, .int .i64 t955, .int .i64 t956, .string t957, .bool t958, .int .u64 t959, .int .u64 t960, .bool t961, .int .u64 t962, .int .u64 t963, .bool t964, .int .u64 t965, .int .u64 t966, .bool t967, .slice A0_14 l0_14.length c0_14]) ?_ 14 _ rfl; (with_reducible repeat (first | refine blk_drewN ?_ _ | refine blk_drew ?_ | refine blk_alloc ?_ _)); refine blk_put (cs := #[.int .i64 t954, .int .i64 t955, .int .i64 t956, .string t957, .bool t958, .int .u64 t959, .int .u64 t960, .bool t961, .int .u64 t962, .int .u64 t963, .bool t964, .int .u64 t965, .int .u64 t966, .bool a0_13, .slice A0_14 l0_14.length c0_14]) ?_ 13 _ rfl; (with_reducible repeat (first | refine blk_drewN ?_ _ | refine blk_drew ?_ | refine blk_alloc ?_ _)); refine blk_put (cs := #[.int .i64 t954, .int .i64 t955, .int .i64 t956, .string t957, .bool t958, .int .u64 t959, .int .u64 t960, .bool t961, .int .u64 t962, .int .u64 t963, .bool t964, .int .u64 t965, .int .u64 a0_12, .bool a0_13, .slice A0_14 l0_14.length c0_14]) ?_ 12 _ rfl; (with_reducible repeat (first | refine blk_drewN ?_ _ | refine blk_drew ?_ | refine blk_alloc ?_ _)); refine blk_put (cs := #[.int .i64 t954, .int .i64 t955, .int .i64 t956, .string t957, .bool t958, .int .u64 t959, .int .u64 t960, .bool t961, .int .u64 t962, .int .u64 t963, .bool t964, .int .u64 a0_11, .int .u64 a0_12, .bool a0_13, .slice A0_14 l0_14.length c0_14]) ?_ 11 _ rfl; (with_reducible repeat (first | refine blk_drewN ?_ _ | refine blk_drew ?_ | refine blk_alloc ?_ _)); refine blk_put (cs := #[.int .i64 t954, .int .i64 t955, .int .i64 t956, .string t957, .bool t958, .int .u64 t959, .int .u64 t960, .bool t961, .int .u64 t962, .int .u64 t963, .bool a0_10, .int .u64 a0_11, .int .u64 a0_12, .bool a0_13, .slice A0_14 l0_14.length c0_14]) ?_ 10 _ rfl; (with_reducible repeat (first | refine blk_drewN ?_ _ | refine blk_drew ?_ | refine blk_alloc ?_ _)); refine blk_put (cs := #[.int .i64 t954, .int .i64 t955, .int .i64 t956, .string t957, .bool t958, .int .u64 t959, .int .u64 t960, .bool t961, .int .u64 t962, .int .u64 a0_9, .bool a0_10, .int .u64 a0_11, .int .u64 a0_12, .bool a0_13, .slice A0_14 l0_14.length c0_14]) ?_ 9 _ rfl; (with_reducible repeat (first | refine blk_drewN ?_ _ | refine blk_drew ?_ | refine blk_alloc ?_ _)); refine blk_put (cs := #[.int .i64 t954, .int .i64 t955, .int .i64 t956, .string t957, .bool t958, .int .u64 t959, .int .u64 t960, .bool t961, .int .u64 a0_8, .int .u64 a0_9, .bool a0_10, .int .u64 a0_11, .int .u64 a0_12, .bool a0_13, .slice A0_14 l0_14.length c0_14]) ?_ 8 _ rfl; (with_reducible repeat (first | refine blk_drewN ?_ _ | refine blk_drew ?_ | refine blk_alloc ?_ _)); refine blk_put (cs := #[.int .i64 t954, .int .i64 t955, .int .i64 t956, .string t957, .bool t958, .int .u64 t959, .int .u64 t960, .bool a0_7, .int .u64 a0_8, .int .u64 a0_9, .bool a0_10, .int .u64 a0_11, .int .u64 a0_12, .bool a0_13, .slice A0_14 l0_14.length c0_14]) ?_ 7 _ rfl; (with_reducible repeat (first | refine blk_drewN ?_ _ | refine blk_drew ?_ | refine blk_alloc ?_ _)); refine blk_put (cs := #[.int .i64 t954, .int .i64 t955, .int .i64 t956, .string t957, .bool t958, .int .u64 t959, .int .u64 a0_6, .bool a0_7, .int .u64 a0_8, .int .u64 a0_9, .bool a0_10, .int .u64 a0_11, .int .u64 a0_12, .bool a0_13, .slice A0_14 l0_14.length c0_14]) ?_ 6 _ rfl; (with_reducible repeat (first | refine blk_drewN ?_ _ | refine blk_drew ?_ | refine blk_alloc ?_ _)); refine blk_put (cs := #[.int .i64 t954, .int .i64 t955, .int .i64 t956, .string t957, .bool t958, .int .u64 a0_5, .int .u64 a0_6, .bool a0_7, .int .u64 a0_8, .int .u64 a0_9, .bool a0_10, .int .u64 a0_11, .int .u64 a0_12, .bool a0_13, .slice A0_14 l0_14.length c0_14]) ?_ 5 _ rfl; (with_reducible repeat (first | refine blk_drewN ?_ _ | refine blk_drew ?_ | refine blk_alloc ?_ _)); refine blk_put (cs := #[.int .i64 t954, .int .i64 t955, .int .i64 t956, .string t957, .bool a0_4, .int .u64 a0_5, .int .u64 a0_6, .bool a0_7, .int .u64 a0_8, .int .u64 a0_9, .bool a0_10, .int .u64 a0_11, .int .u64 a0_12, .bool a0_13, .slice A0_14 l0_14.length c0_14]) ?_ 4 _ rfl; (with_reducible repeat (first | refine blk_drewN ?_ _ | refine blk_drew ?_ | refine blk_alloc ?_ _)); refine blk_put (cs := #[.int .i64 t954, .int .i64 t955, .int .i64 t956, .string a0_3, .bool a0_4, .int .u64 a0_5, .int .u64 a0_6, .bool a0_7, .int .u64 a0_8, .int .u64 a0_9, .bool a0_10, .int .u64 a0_11, .int .u64 a0_12, .bool a0_13, .slice A0_14 l0_14.length c0_14]) ?_ 3 _ rfl; (with_reducible repeat (first | refine blk_drewN ?_ _ | refine blk_drew ?_ | refine blk_alloc ?_ _)); refine blk_put (cs := #[.int .i64 t954, .int .i64 t955, .int .i64 a0_2, .string a0_3, .bool a0_4, .int .u64 a0_5, .int .u64 a0_6, .bool a0_7, .int .u64 a0_8, .int .u64 a0_9, .bool a0_10, .int .u64 a0_11, .int .u64 a0_12, .bool a0_13, .slice A0_14 l0_14.length c0_14]) ?_ 2 _ rfl; (with_reducible repeat (first | refine blk_drewN ?_ _ | refine blk_drew ?_ | refine blk_alloc ?_ _)); refine blk_put (cs := #[.int .i64 t954, .int .i64 a0_1, .int .i64 a0_2, .string a0_3, .bool a0_4, .int .u64 a0_5, .int .u64 a0_6, .bool a0_7, .int .u64 a0_8, .int .u64 a0_9, .bool a0_10, .int .u64 a0_11, .int .u64 a0_12, .bool a0_13, .slice A0_14 l0_14.length c0_14]) ?_ 1 _ rfl; (with_reducible repeat (first | refine blk_drewN ?_ _ | refine blk_drew ?_ | refine blk_alloc ?_ _)); refine blk_put (cs := #[.int .i64 a0_0, .int .i64 a0_1, .int .i64 a0_2, .string a0_3, .bool a0_4, .int .u64 a0_5, .int .u64 a0_6, .bool a0_7, .int .u64 a0_8, .int .u64 a0_9, .bool a0_10, .int .u64 a0_11, .int .u64 a0_12, .bool a0_13, .slice A0_14 l0_14.length c0_14]) ?_ 0 _ rfl; (with_reducible repeat (first | refine blk_drewN ?_ _ | refine blk_drew ?_ | refine blk_alloc ?_ _)); exact BK952.out) hb); have n3_ := Aside0.mk (blk_below (bkx BK953.out) hb); have n4_ := Aside0.mk (below_step (hbx HB.out) hb); clear HO970; clear BK952; clear BK953; clear HB; have HO970 := n0_; have HO987 := n1_; have BK952 := n2_; have BK953 := n3_; have HB := n4_; clear n0_ n1_ n2_ n3_ n4_; (try clear hb); (try clear hb2); (try clear hk); (try clear hi); (try clear ho0); obtain ⟨Ao30, co30, eo30⟩ := Kd.R_slice HO987.out; subst eo30; obtain ⟨⟨hcz31_0, hcz31_1, hcz31_2, hcz31_3, hcz31_4, hcz31_5, hcz31_6, hcz31_7, hcz31_8⟩, hfz31_0, hfz31_1, hfz31_2, hfz31_3, hfz31_4, hfz31_5, hfz31_6, hfz31_7, hfz31_8⟩ := cf9 BK953.out) | ((with_reducible refine gate_store (t := 25) (p := 26) rfl ?_); refine store_event (t := 25) (p := 26) (v := ?vo_w32) (w1 := (w29.setCell ⟨gb953, 7, none⟩ (.slice Ao30 t985.length co30))) ?hg ?ho ?hn ?hr ?_; (case ho => rfl); (case hg => rfl); (case hn => rfl); (case hr => first | (go_simp; done) | (go_simp; rfl)); intro w32 hw; have n0_ : Aside0 (Kd.R k61 61 w32 w.heap.size (fun k_ => some k_ ≠ (.slice Ao30 t985.length co30 : Value).ownBlock) (.slice Ao27 t968.length co27) t968) := ⟨(by rw [hw]; exact (by (with_reducible repeat (first | apply Kd.R_alloc | apply Kd.R_drewN | apply Kd.R_drew)); exact Kd.R_mono (Kd.R_far (p := ⟨gb953, 7, none⟩) (Kd.R_types HO970.out BK953.out (by decide)) (fun _ hk => hk.2) (.slice Ao30 t985.length co30)) (fun _ hk => hk.1.2)))⟩; have n1_ : Aside0 (Kd.R k61 61 w32 w.heap.size (fun k_ => some k_ ≠ (.slice Ao27 t968.length co27 : Value).ownBlock) (.slice Ao30 t985.length co30) t985) := ⟨(by rw [hw]; exact (by (with_reducible repeat (first | apply Kd.R_alloc | apply Kd.R_drewN | apply Kd.R_drew)); exact Kd.R_mono (Kd.R_far (p := ⟨gb953, 7, none⟩) (Kd.R_types HO987.out BK953.out (by decide)) (fun _ hk => hk.2) (.slice Ao30 t985.length co30)) (fun _ hk => hk.1.2)))⟩; have n2_ : Aside0 (w32.heap[gb952]? = some (.cells #[.int .i64 t954, .int .i64 t955, .int .i64 t956, .string t957, .bool t958, .int .u64 t959, .int .u64 t960, .bool t961, .int .u64 t962, .int .u64 t963, .bool t964, .int .u64 t965, .int .u64 t966, .bool t967, .slice Ao27 t968.length co27] 27 (0, 0))) := ⟨(by rw [hw]; exact (bkx BK952.out))⟩; have n3_ : Aside0 (w32.heap[gb953]? = some (.cells #[.bool a2_0, .int .u64 a2_1, .int .u64 a2_2, .int .i64 a2_3, .string a2_4, .slice A2_5 l2_5.length c2_5, .slice A2_6 l2_6.length c2_6, .slice Ao30 t985.length co30, .int .i64 a2_8] 53 (0, 0))) := ⟨(by rw [hw]; exact (by (with_reducible repeat (first | refine blk_drewN ?_ _ | refine blk_drew ?_ | refine blk_alloc ?_ _)); refine blk_put (cs := #[.bool a2_0, .int .u64 a2_1, .int .u64 a2_2, .int .i64 a2_3, .string a2_4, .slice A2_5 l2_5.length c2_5, .slice A2_6 l2_6.length c2_6, .slice A2_7 l2_7.length c2_7, .int .i64 a2_8]) ?_ 7 _ rfl; (with_reducible repeat (first | refine blk_drewN ?_ _ | refine blk_drew ?_ | refine blk_alloc ?_ _)); exact BK953.out))⟩; have n4_ : Aside0 (Below w.heap.size w w32) := ⟨(by rw [hw]; exact (hbx HB.out))⟩; clear hw; clear HO970; clear HO987; clear BK952; clear BK953; clear HB; have HO970 := n0_; have HO987 := n1_; have BK952 := n2_; have BK953 := n3_; have HB := n4_; clear n0_ n1_ n2_ n3_ n4_; obtain ⟨⟨hcz33_0, hcz33_1, hcz33_2, hcz33_3, hcz33_4, hcz33_5, hcz33_6, hcz33_7, hcz33_8⟩, hfz33_0, hfz33_1, hfz33_2, hfz33_3, hfz33_4, hfz33_5, hfz33_6, hfz33_7, hfz33_8⟩ := cf9 BK953.out; have q34 : ((ji6) : Int) ≤ ((t985.length : Int) : Int) := of_decide_eq_true (by first | (with_reducible assumption) | assumption); obtain ⟨i034, hi034, _, hsz34, _⟩ := info_parts info61; have hcut34 := cut_to (P := Tryd.prog) 25 61 .i64 Tryd.underlying25 hi034 Ao30 t985.length co30 (ji6) (of_decide_eq_true (by first | (with_reducible assumption) | assumption)) q34 (Kd.R_reads' HO987.out).2.1; have hr34 := Kd.R_take (m := ((ji6) : Int).toNat) HO987.out (by omega); have hy34 : y988.length = ((ji6) : Int).toNat := (by rw [Ny988.out, List.length_take]; omega); rw [← Ny988.out] at hr34; rw [← hy34] at hr34 hcut34; clear hy34 hi034 hsz34 HO987; have HO990 := Aside0.mk hr34; clear hr34; replace q34 := eq_true q34) | ((with_reducible refine gate_dst (N := 7) rfl ?_); refine box_event ?hg (N := 7) ?hd (cs := #[.bool false, .int .u64 0, .int .u64 0]) (t := 24) ?hr ?_; (case hd => rfl); (case hg => rfl); (case hr => first | (go_simp; done) | (go_simp; rfl)); intro gb991 hg w35 hbox hb; have n0_ := Aside0.mk (Kd.R_below (by (with_reducible repeat (first | apply Kd.R_alloc | apply Kd.R_drewN | apply Kd.R_drew)); exact (Kd.R_mono (Kd.R_far (p := ⟨gb953, 7, none⟩) (Kd.R_types HO970.out BK953.out (by decide)) (fun _ hk => hk.2) (.slice Ao30 y988.length co30)) (fun _ h_ => h_.1))) hb); have n1_ := Aside0.mk (Kd.R_below (by (with_reducible repeat (first | apply Kd.R_alloc | apply Kd.R_drewN | apply Kd.R_drew)); exact (Kd.R_mono (Kd.R_far (p := ⟨gb953, 7, none⟩) (Kd.R_types HO990.out BK953.out (by decide)) (fun _ hk => hk.2) (.slice Ao30 y988.length co30)) (fun _ h_ => h_.1))) hb); have n2_ := Aside0.mk (blk_below (bkx BK952.out) hb); have n3_ := Aside0.mk (blk_below (g := gb953) (o := .cells #[.bool a2_0, .int .u64 a2_1, .int .u64 a2_2, .int .i64 a2_3, .string a2_4, .slice A2_5 l2_5.length c2_5, .slice A2_6 l2_6.length c2_6, .slice Ao30 y988.length co30, .int .i64 a2_8] 53 (0, 0)) (by (with_reducible repeat (first | refine blk_drewN ?_ _ | refine blk_drew ?_ | refine blk_alloc ?_ _)); refine blk_put (cs := #[.bool a2_0, .int .u64 a2_1, .int .u64 a2_2, .int .i64 a2_3, .string a2_4, .slice A2_5 l2_5.length c2_5, .slice A2_6 l2_6.length c2_6, .slice Ao30 t985.length co30, .int .i64 a2_8]) ?_ 7 _ rfl; (with_reducible repeat (first | refine blk_drewN ?_ _ | refine blk_drew ?_ | refine blk_alloc ?_ _)); exact BK953.out) hb); have n4_ := Aside0.mk (below_step (hbx HB.out) hb); have n5_ := Aside0.mk (hbox); have n6_ := Aside0.mk ((by rw [hg]; exact (below_size (hbx HB.out)) : w.heap.size ≤ gb991)); have n7_ := Aside0.mk ((by rw [hg]; exact (below_size (hbx HB.out)) : w.heap.size ≤ gb991)); have n8_ := Aside0.mk ((by rw [hg]; exact Nat.ne_of_lt (blk_lt (bkx BK952.out)) : gb952 ≠ gb991)); have n9_ := Aside0.mk ((by rw [hg]; exact Nat.ne_of_gt (blk_lt (bkx BK952.out)) : gb991 ≠ gb952)); have n10_ := Aside0.mk ((by rw [hg]; exact Nat.ne_of_lt (blk_lt (g := gb953) (o := .cells #[.bool a2_0, .int .u64 a2_1, .int .u64 a2_2, .int .i64 a2_3, .string a2_4, .slice A2_5 l2_5.length c2_5, .slice A2_6 l2_6.length c2_6, .slice Ao30 y988.length co30, .int .i64 a2_8] 53 (0, 0)) (by (with_reducible repeat (first | refine blk_drewN ?_ _ | refine blk_drew ?_ | refine blk_alloc ?_ _)); refine blk_put (cs := #[.bool a2_0, .int .u64 a2_1, .int .u64 a2_2, .int .i64 a2_3, .string a2_4, .slice A2_5 l2_5.length c2_5, .slice A2_6 l2_6.length c2_6, .slice Ao30 t985.length co30, .int .i64 a2_8]) ?_ 7 _ rfl; (with_reducible repeat (first | refine blk_drewN ?_ _ | refine blk_drew ?_ | refine blk_alloc ?_ _)); exact BK953.out)) : gb953 ≠ gb991)); have n11_ := Aside0.mk ((by rw [hg]; exact Nat.ne_of_gt (blk_lt (g := gb953) (o := .cells #[.bool a2_0, .int .u64 a2_1, .int .u64 a2_2, .int .i64 a2_3, .string a2_4, .slice A2_5 l2_5.length c2_5, .slice A2_6 l2_6.length c2_6, .slice Ao30 y988.length co30, .int .i64 a2_8] 53 (0, 0)) (by (with_reducible repeat (first | refine blk_drewN ?_ _ | refine blk_drew ?_ | refine blk_alloc ?_ _)); refine blk_put (cs := #[.bool a2_0, .int .u64 a2_1, .int .u64 a2_2, .int .i64 a2_3, .string a2_4, .slice A2_5 l2_5.length c2_5, .slice A2_6 l2_6.length c2_6, .slice Ao30 t985.length co30, .int .i64 a2_8]) ?_ 7 _ rfl; (with_reducible repeat (first | refine blk_drewN ?_ _ | refine blk_drew ?_ | refine blk_alloc ?_ _)); exact BK953.out)) : gb991 ≠ gb953)); clear HO970; clear HO990; clear BK952; clear BK953; clear HB; have HO970 := n0_; have HO990 := n1_; have BK952 := n2_; have BK953 := n3_; have HB := n4_; have BK991 := n5_; have GW991 := n6_; have GE991 := n7_; have NB952_991 := n8_; have NB991_952 := n9_; have NB953_991 := n10_; have NB991_953 := n11_; clear n0_ n1_ n2_ n3_ n4_ n5_ n6_ n7_ n8_ n9_ n10_ n11_; clear hb hbox hg; have hnb36 := NB991_952.out; have hnc36 := NB952_991.out; have hnb37 := NB991_953.out; have hnc37 := NB953_991.out; obtain ⟨⟨hcz38_0, hcz38_1, hcz38_2⟩, hfz38_0, hfz38_1, hfz38_2⟩ := cf3 BK991.out; obtain ⟨⟨hcz39_0, hcz39_1, hcz39_2, hcz39_3, hcz39_4, hcz39_5, hcz39_6, hcz39_7, hcz39_8⟩, hfz39_0, hfz39_1, hfz39_2, hfz39_3, hfz39_4, hfz39_5, hfz39_6, hfz39_7, hfz39_8⟩ := cf9 BK953.out; obtain ⟨⟨hcz40_0, hcz40_1, hcz40_2, hcz40_3, hcz40_4, hcz40_5, hcz40_6, hcz40_7, hcz40_8, hcz40_9, hcz40_10, hcz40_11, hcz40_12, hcz40_13, hcz40_14⟩, hfz40_0, hfz40_1, hfz40_2, hfz40_3, hfz40_4, hfz40_5, hfz40_6, hfz40_7, hfz40_8, hfz40_9, hfz40_10, hfz40_11, hfz40_12, hfz40_13, hfz40_14⟩ := cf15 BK952.out) | ((with_reducible refine gate_callee (f := 26) rfl ?_); refine goesL_ (some 46) rfl rfl Tryd.func26 (by kernel_rfl) rfl #[.agg #[.int .i64 t954, .int .i64 t955, .int .i64 t956, .string t957, .bool t958, .int .u64 t959, .int .u64 t960, .bool t961, .int .u64 t962, .int .u64 t963, .bool t964, .int .u64 t965, .int .u64 t966, .bool t967, .slice Ao27 t968.length co27], .agg #[.bool false, .int .u64 0, .int .u64 (IntKind.u64.wrap (a1))], .agg #[.bool a2_0, .int .u64 a2_1, .int .u64 a2_2, .int .i64 a2_3, .string a2_4, .slice A2_5 l2_5.length c2_5, .slice A2_6 l2_6.length c2_6, .slice Ao30 y988.length co30, .int .i64 ji10]] rfl (by (try simp only [List.map_toArray, List.map_cons, List.map_nil]); first | done | (simp only [hji10]; rfl) | rfl | (simp only [List.length_drop, List.length_take]; rfl)) ?_; (with_reducible refine (dhcp_Grant.calls k t954 t955 t956 t957 t958 t959 t960 t961 t962 t963 t964 t965 t966 t967 _ _ t968 false 0 (IntKind.u64.wrap (a1)) a2_0 a2_1 a2_2 a2_3 a2_4 _ _ l2_5 _ _ l2_6 _ _ y988 ji10 t992 t993 t994 t995 t996 t997 t998 t999 t1000 t1001 t1002 t1003 t1004 t1005 t1006 _ ?side1 ?side2 ?side3 ?side4 ?side5 ?side6 ?side7 ?side8 A11.out).mono ?_); (case side1 => refine (Kd.R_reads' (e := 61) (base := w.heap.size) (ok := fun k_ => some k_ ≠ (.slice Ao30 t985.length co30 : Value).ownBlock) (n := t968.length) (c := co27) ?_).2.2; exact (by (with_reducible repeat (first | apply Kd.R_alloc | apply Kd.R_drewN | apply Kd.R_drew)); exact (Kd.R_mono (Kd.R_mono (Kd.R_far (p := ⟨gb953, 8, none⟩) (Kd.R_far (p := ⟨gb991, 2, none⟩) (Kd.R_far (p := ⟨gb991, 1, none⟩) (Kd.R_far (p := ⟨gb991, 0, none⟩) (Kd.R_types (Kd.R_types HO970.out BK991.out (by decide)) BK953.out (by decide)) (fun _ hk => hk.1.2) (.bool false)) (fun _ hk => hk.1.2) (.int .u64 0)) (fun _ hk => hk.1.2) (.int .u64 (IntKind.u64.wrap (a1)))) (fun _ hk => hk.2) (.int .i64 ji10)) (fun _ h_ => h_.1)) (fun _ h_ => h_.1)))); (case side2 => exact (Kd.R_reads' HO970.out).2.1); (case side3 => exact Kd.C_below HR2_5.out (hbx HB.out)); (case side4 => exact HC2_5.out); (case side5 => exact Kd.C_below HR2_6.out (hbx HB.out)); (case side6 => exact HC2_6.out); (case side7 => refine (Kd.R_reads' (e := 61) (base := w.heap.size) (ok := fun k_ => some k_ ≠ (.slice Ao27 t968.length co27 : Value).ownBlock) (n := y988.length) (c := co30) ?_).2.2; exact (by (with_reducible repeat (first | apply Kd.R_alloc | apply Kd.R_drewN | apply Kd.R_drew)); exact (Kd.R_mono (Kd.R_mono (Kd.R_far (p := ⟨gb953, 8, none⟩) (Kd.R_far (p := ⟨gb991, 2, none⟩) (Kd.R_far (p := ⟨gb991, 1, none⟩) (Kd.R_far (p := ⟨gb991, 0, none⟩) (Kd.R_types (Kd.R_types HO990.out BK991.out (by decide)) BK953.out (by decide)) (fun _ hk => hk.1.2) (.bool false)) (fun _ hk => hk.1.2) (.int .u64 0)) (fun _ hk => hk.1.2) (.int .u64 (IntKind.u64.wrap (a1)))) (fun _ hk => hk.2) (.int .i64 ji10)) (fun _ h_ => h_.1)) (fun _ h_ => h_.1)))); (case side8 => exact (Kd.R_reads' HO990.out).2.1); rintro e w41 ⟨v1007, rfl, ho0, hb⟩; refine ⟨_, rfl, ?_⟩; have n0_ := Aside0.mk (Kd.R_elder' (by (with_reducible repeat (first | apply Kd.R_alloc | apply Kd.R_drewN | apply Kd.R_drew)); exact (Kd.R_mono (Kd.R_mono (Kd.R_far (p := ⟨gb953, 8, none⟩) (Kd.R_far (p := ⟨gb991, 2, none⟩) (Kd.R_far (p := ⟨gb991, 1, none⟩) (Kd.R_far (p := ⟨gb991, 0, none⟩) (Kd.R_types (Kd.R_types HO970.out BK991.out (by decide)) BK953.out (by decide)) (fun _ hk => hk.1.2) (.bool false)) (fun _ hk => hk.1.2) (.int .u64 0)) (fun _ hk => hk.1.2) (.int .u64 (IntKind.u64.wrap (a1)))) (fun _ hk => hk.2) (.int .i64 ji10)) (fun _ h_ => h_.1)) (fun _ h_ => h_.1))) (Kd.R_base ho0) hb); have n1_ := Aside0.mk (Kd.R_elder' (by (with_reducible repeat (first | apply Kd.R_alloc | apply Kd.R_drewN | apply Kd.R_drew)); exact (Kd.R_mono (Kd.R_mono (Kd.R_far (p := ⟨gb953, 8, none⟩) (Kd.R_far (p := ⟨gb991, 2, none⟩) (Kd.R_far (p := ⟨gb991, 1, none⟩) (Kd.R_far (p := ⟨gb991, 0, none⟩) (Kd.R_types (Kd.R_types HO990.out BK991.out (by decide)) BK953.out (by decide)) (fun _ hk => hk.1.2) (.bool false)) (fun _ hk => hk.1.2) (.int .u64 0)) (fun _ hk => hk.1.2) (.int .u64 (IntKind.u64.wrap (a1)))) (fun _ hk => hk.2) (.int .i64 ji10)) (fun _ h_ => h_.1)) (fun _ h_ => h_.1))) (Kd.R_base ho0) hb); have n2_ := Aside0.mk (Kd.R_lower (Kd.R_new' (Kd.R_new' ho0 (Kd.R_lt (by (with_reducible repeat (first | apply Kd.R_alloc | apply Kd.R_drewN | apply Kd.R_drew)); exact (Kd.R_mono (Kd.R_mono (Kd.R_far (p := ⟨gb953, 8, none⟩) (Kd.R_far (p := ⟨gb991, 2, none⟩) (Kd.R_far (p := ⟨gb991, 1, none⟩) (Kd.R_far (p := ⟨gb991, 0, none⟩) (Kd.R_types (Kd.R_types HO970.out BK991.out (by decide)) BK953.out (by decide)) (fun _ hk => hk.1.2) (.bool false)) (fun _ hk => hk.1.2) (.int .u64 0)) (fun _ hk => hk.1.2) (.int .u64 (IntKind.u64.wrap (a1)))) (fun _ hk => hk.2) (.int .i64 ji10)) (fun _ h_ => h_.1)) (fun _ h_ => h_.1))))) (Kd.R_lt (by (with_reducible repeat (first | apply Kd.R_alloc | apply Kd.R_drewN | apply Kd.R_drew)); exact (Kd.R_mono (Kd.R_mono (Kd.R_far (p := ⟨gb953, 8, none⟩) (Kd.R_far (p := ⟨gb991, 2, none⟩) (Kd.R_far (p := ⟨gb991, 1, none⟩) (Kd.R_far (p := ⟨gb991, 0, none⟩) (Kd.R_types (Kd.R_types HO990.out BK991.out (by decide)) BK953.out (by decide)) (fun _ hk => hk.1.2) (.bool false)) (fun _ hk => hk.1.2) (.int .u64 0)) (fun _ hk => hk.1.2) (.int .u64 (IntKind.u64.wrap (a1)))) (fun _ hk => hk.2) (.int .i64 ji10)) (fun _ h_ => h_.1)) (fun _ h_ => h_.1))))) (below_size (hbx HB.out))); have n3_ := Aside0.mk (blk_below (bkx BK952.out) hb); have n4_ := Aside0.mk (blk_below (g := gb953) (o := .cells #[.bool a2_0, .int .u64 a2_1, .int .u64 a2_2, .int .i64 a2_3, .string a2_4, .slice A2_5 l2_5.length c2_5, .slice A2_6 l2_6.length c2_6, .slice Ao30 y988.length co30, .int .i64 ji10] 53 (0, 0)) (by (with_reducible repeat (first | refine blk_drewN ?_ _ | refine blk_drew ?_ | refine blk_alloc ?_ _)); refine blk_put (cs := #[.bool a2_0, .int .u64 a2_1, .int .u64 a2_2, .int .i64 a2_3, .string a2_4, .slice A2_5 l2_5.length c2_5, .slice A2_6 l2_6.length c2_6, .slice Ao30 y988.length co30, .int .i64 a2_8]) ?_ 8 _ rfl; (with_reducible repeat (first | refine blk_drewN ?_ _ | refine blk_drew ?_ | refine blk_alloc ?_ _)); refine blk_far ?_ NB953_991.out _; (with_reducible repeat (first | refine blk_drewN ?_ _ | refine blk_drew ?_ | refine blk_alloc ?_ _)); refine blk_far ?_ NB953_991.out _; (with_reducible repeat (first | refine blk_drewN ?_ _ | refine blk_drew ?_ | refine blk_alloc ?_ _)); refine blk_far ?_ NB953_991.out _; (with_reducible repeat (first | refine blk_drewN ?_ _ | refine blk_drew ?_ | refine blk_alloc ?_ _)); exact BK953.out) hb); have n5_ := Aside0.mk (blk_below (g := gb991) (o := .cells #[.bool false, .int .u64 0, .int .u64 (IntKind.u64.wrap (a1))] 24 (0, 0)) (by (with_reducible repeat (first | refine blk_drewN ?_ _ | refine blk_drew ?_ | refine blk_alloc ?_ _)); refine blk_far ?_ NB991_953.out _; (with_reducible repeat (first | refine blk_drewN ?_ _ | refine blk_drew ?_ | refine blk_alloc ?_ _)); refine blk_put (cs := #[.bool false, .int .u64 0, .int .u64 0]) ?_ 2 _ rfl; (with_reducible repeat (first | refine blk_drewN ?_ _ | refine blk_drew ?_ | refine blk_alloc ?_ _)); refine blk_put (cs := #[.bool false, .int .u64 0, .int .u64 0]) ?_ 1 _ rfl; (with_reducible repeat (first | refine blk_drewN ?_ _ | refine blk_drew ?_ | refine blk_alloc ?_ _)); refine blk_put (cs := #[.bool false, .int .u64 0, .int .u64 0]) ?_ 0 _ rfl; (with_reducible repeat (first | refine blk_drewN ?_ _ | refine blk_drew ?_ | refine blk_alloc ?_ _)); exact BK991.out) hb); have n6_ := Aside0.mk (below_step (hbx HB.out) hb); clear HO970; clear HO990; clear BK952; clear BK953; clear BK991; clear HB; have HO970 := n0_; have HO990 := n1_; have HO1008 := n2_; have BK952 := n3_; have BK953 := n4_; have BK991 := n5_; have HB := n6_; clear n0_ n1_ n2_ n3_ n4_ n5_ n6_; (try clear hb); (try clear hb2); (try clear hk); (try clear hi); (try clear ho0)) | ((with_reducible refine gate_dst (N := 8) rfl ?_); refine box_event ?hg (N := 8) ?hd (cs := #[.int .i64 0, .int .i64 0, .int .i64 0, .string (⟨#[]⟩ : ByteArray), .bool false, .int .u64 0, .int .u64 0, .bool false, .int .u64 0, .int .u64 0, .bool false, .int .u64 0, .int .u64 0, .bool false, .slice none 0 0]) (t := 27) ?hr ?_; (case hd => rfl); (case hg => rfl); (case hr => first | (go_simp; done) | (go_simp; rfl)); intro gb1009 hg w42 hbox hb; have n0_ := Aside0.mk (Kd.R_below (by (with_reducible repeat (first | apply Kd.R_alloc | apply Kd.R_drewN | apply Kd.R_drew)); exact HO970.out) hb); have n1_ := Aside0.mk (Kd.R_below (by (with_reducible repeat (first | apply Kd.R_alloc | apply Kd.R_drewN | apply Kd.R_drew)); exact HO990.out) hb); have n2_ := Aside0.mk (Kd.R_below (by (with_reducible repeat (first | apply Kd.R_alloc | apply Kd.R_drewN | apply Kd.R_drew)); exact HO1008.out) hb); have n3_ := Aside0.mk (blk_below (bkx BK952.out) hb); have n4_ := Aside0.mk (blk_below (bkx BK953.out) hb); have n5_ := Aside0.mk (blk_below (bkx BK991.out) hb); have n6_ := Aside0.mk (below_step (hbx HB.out) hb); have n7_ := Aside0.mk (hbox); have n8_ := Aside0.mk ((by rw [hg]; exact (below_size (hbx HB.out)) : w.heap.size ≤ gb1009)); have n9_ := Aside0.mk ((by rw [hg]; exact (below_size (hbx HB.out)) : w.heap.size ≤ gb1009)); have n10_ := Aside0.mk ((by rw [hg]; exact Nat.ne_of_lt (blk_lt (bkx BK952.out)) : gb952 ≠ gb1009)); have n11_ := Aside0.mk ((by rw [hg]; exact Nat.ne_of_gt (blk_lt (bkx BK952.out)) : gb1009 ≠ gb952)); have n12_ := Aside0.mk ((by rw [hg]; exact Nat.ne_of_lt (blk_lt (bkx BK953.out)) : gb953 ≠ gb1009)); have n13_ := Aside0.mk ((by rw [hg]; exact Nat.ne_of_gt (blk_lt (bkx BK953.out)) : gb1009 ≠ gb953)); have n14_ := Aside0.mk ((by rw [hg]; exact Nat.ne_of_lt (blk_lt (bkx BK991.out)) : gb991 ≠ gb1009)); have n15_ := Aside0.mk ((by rw [hg]; exact Nat.ne_of_gt (blk_lt (bkx BK991.out)) : gb1009 ≠ gb991)); clear HO970; clear HO990; clear HO1008; clear BK952; clear BK953; clear BK991; clear HB; have HO970 := n0_; have HO990 := n1_; have HO1008 := n2_; have BK952 := n3_; have BK953 := n4_; have BK991 := n5_; have HB := n6_; have BK1009 := n7_; have GW1009 := n8_; have GE1009 := n9_; have NB952_1009 := n10_; have NB1009_952 := n11_; have NB953_1009 := n12_; have NB1009_953 := n13_; have NB991_1009 := n14_; have NB1009_991 := n15_; clear n0_ n1_ n2_ n3_ n4_ n5_ n6_ n7_ n8_ n9_ n10_ n11_ n12_ n13_ n14_ n15_; clear hb hbox hg; have hnb43 := NB1009_952.out; have hnc43 := NB952_1009.out; have hnb44 := NB1009_953.out; have hnc44 := NB953_1009.out; have hnb45 := NB1009_991.out; have hnc45 := NB991_1009.out; obtain ⟨⟨hcz46_0, hcz46_1, hcz46_2, hcz46_3, hcz46_4, hcz46_5, hcz46_6, hcz46_7, hcz46_8, hcz46_9, hcz46_10, hcz46_11, hcz46_12, hcz46_13, hcz46_14⟩, hfz46_0, hfz46_1, hfz46_2, hfz46_3, hfz46_4, hfz46_5, hfz46_6, hfz46_7, hfz46_8, hfz46_9, hfz46_10, hfz46_11, hfz46_12, hfz46_13, hfz46_14⟩ := cf15 BK1009.out; obtain ⟨Ao47, co47, eo47⟩ := Kd.R_slice HO1008.out; subst eo47) | ((with_reducible refine gate_callee (f := 13) rfl ?_); refine goesL_ (some 49) rfl rfl Tryd.func13 (by kernel_rfl) rfl #[.agg #[.int .i64 t992, .int .i64 t993, .int .i64 t994, .string t995, .bool t996, .int .u64 t997, .int .u64 t998, .bool t999, .int .u64 t1000, .int .u64 t1001, .bool t1002, .int .u64 t1003, .int .u64 t1004, .bool t1005, .slice Ao47 t1006.length co47]] rfl (by (try simp only [List.map_toArray, List.map_cons, List.map_nil]); first | done | rfl | (simp only [List.length_drop, List.length_take]; rfl)) ?_; (with_reducible refine (dhcp_Lease.calls k t992 t993 t994 t995 t996 t997 t998 t999 t1000 t1001 t1002 t1003 t1004 t1005 _ _ t1006 t1010 t1011 t1012 true _ ?side1 ?side2 A12.out).mono ?_); (case side1 => refine (Kd.R_reads' (e := 61) (base := w.heap.size) (ok := fun k_ => ((True ∧ some k_ ≠ (.slice Ao27 t968.length co27 : Value).ownBlock) ∧ some k_ ≠ (.slice Ao30 y988.length co30 : Value).ownBlock)) (n := t1006.length) (c := co47) ?_).2.2; exact (by (with_reducible repeat (first | apply Kd.R_alloc | apply Kd.R_drewN | apply Kd.R_drew)); exact (Kd.R_mono (Kd.R_far (p := ⟨gb1009, 14, none⟩) (Kd.R_far (p := ⟨gb1009, 13, none⟩) (Kd.R_far (p := ⟨gb1009, 12, none⟩) (Kd.R_far (p := ⟨gb1009, 11, none⟩) (Kd.R_far (p := ⟨gb1009, 10, none⟩) (Kd.R_far (p := ⟨gb1009, 9, none⟩) (Kd.R_far (p := ⟨gb1009, 8, none⟩) (Kd.R_far (p := ⟨gb1009, 7, none⟩) (Kd.R_far (p := ⟨gb1009, 6, none⟩) (Kd.R_far (p := ⟨gb1009, 5, none⟩) (Kd.R_far (p := ⟨gb1009, 4, none⟩) (Kd.R_far (p := ⟨gb1009, 3, none⟩) (Kd.R_far (p := ⟨gb1009, 2, none⟩) (Kd.R_far (p := ⟨gb1009, 1, none⟩) (Kd.R_far (p := ⟨gb1009, 0, none⟩) (Kd.R_types HO1008.out BK1009.out (by decide)) (fun _ hk => hk.2) (.int .i64 t992)) (fun _ hk => hk.2) (.int .i64 t993)) (fun _ hk => hk.2) (.int .i64 t994)) (fun _ hk => hk.2) (.string t995)) (fun _ hk => hk.2) (.bool t996)) (fun _ hk => hk.2) (.int .u64 t997)) (fun _ hk => hk.2) (.int .u64 t998)) (fun _ hk => hk.2) (.bool t999)) (fun _ hk => hk.2) (.int .u64 t1000)) (fun _ hk => hk.2) (.int .u64 t1001)) (fun _ hk => hk.2) (.bool t1002)) (fun _ hk => hk.2) (.int .u64 t1003)) (fun _ hk => hk.2) (.int .u64 t1004)) (fun _ hk => hk.2) (.bool t1005)) (fun _ hk => hk.2) (.slice Ao47 t1006.length co47)) (fun _ h_ => h_.1)))); (case side2 => exact (Kd.R_reads' HO1008.out).2.1); rintro e w48 ⟨rfl, hb⟩; refine ⟨_, rfl, ?_⟩; have n0_ := Aside0.mk (Kd.R_below (by (with_reducible repeat (first | apply Kd.R_alloc | apply Kd.R_drewN | apply Kd.R_drew)); exact (Kd.R_mono (Kd.R_far (p := ⟨gb1009, 14, none⟩) (Kd.R_far (p := ⟨gb1009, 13, none⟩) (Kd.R_far (p := ⟨gb1009, 12, none⟩) (Kd.R_far (p := ⟨gb1009, 11, none⟩) (Kd.R_far (p := ⟨gb1009, 10, none⟩) (Kd.R_far (p := ⟨gb1009, 9, none⟩) (Kd.R_far (p := ⟨gb1009, 8, none⟩) (Kd.R_far (p := ⟨gb1009, 7, none⟩) (Kd.R_far (p := ⟨gb1009, 6, none⟩) (Kd.R_far (p := ⟨gb1009, 5, none⟩) (Kd.R_far (p := ⟨gb1009, 4, none⟩) (Kd.R_far (p := ⟨gb1009, 3, none⟩) (Kd.R_far (p := ⟨gb1009, 2, none⟩) (Kd.R_far (p := ⟨gb1009, 1, none⟩) (Kd.R_far (p := ⟨gb1009, 0, none⟩) (Kd.R_types HO970.out BK1009.out (by decide)) (fun _ hk => hk.2) (.int .i64 t992)) (fun _ hk => hk.2) (.int .i64 t993)) (fun _ hk => hk.2) (.int .i64 t994)) (fun _ hk => hk.2) (.string t995)) (fun _ hk => hk.2) (.bool t996)) (fun _ hk => hk.2) (.int .u64 t997)) (fun _ hk => hk.2) (.int .u64 t998)) (fun _ hk => hk.2) (.bool t999)) (fun _ hk => hk.2) (.int .u64 t1000)) (fun _ hk => hk.2) (.int .u64 t1001)) (fun _ hk => hk.2) (.bool t1002)) (fun _ hk => hk.2) (.int .u64 t1003)) (fun _ hk => hk.2) (.int .u64 t1004)) (fun _ hk => hk.2) (.bool t1005)) (fun _ hk => hk.2) (.slice Ao47 t1006.length co47)) (fun _ h_ => h_.1))) hb); have n1_ := Aside0.mk (Kd.R_below (by (with_reducible repeat (first | apply Kd.R_alloc | apply Kd.R_drewN | apply Kd.R_drew)); exact (Kd.R_mono (Kd.R_far (p := ⟨gb1009, 14, none⟩) (Kd.R_far (p := ⟨gb1009, 13, none⟩) (Kd.R_far (p := ⟨gb1009, 12, none⟩) (Kd.R_far (p := ⟨gb1009, 11, none⟩) (Kd.R_far (p := ⟨gb1009, 10, none⟩) (Kd.R_far (p := ⟨gb1009, 9, none⟩) (Kd.R_far (p := ⟨gb1009, 8, none⟩) (Kd.R_far (p := ⟨gb1009, 7, none⟩) (Kd.R_far (p := ⟨gb1009, 6, none⟩) (Kd.R_far (p := ⟨gb1009, 5, none⟩) (Kd.R_far (p := ⟨gb1009, 4, none⟩) (Kd.R_far (p := ⟨gb1009, 3, none⟩) (Kd.R_far (p := ⟨gb1009, 2, none⟩) (Kd.R_far (p := ⟨gb1009, 1, none⟩) (Kd.R_far (p := ⟨gb1009, 0, none⟩) (Kd.R_types HO990.out BK1009.out (by decide)) (fun _ hk => hk.2) (.int .i64 t992)) (fun _ hk => hk.2) (.int .i64 t993)) (fun _ hk => hk.2) (.int .i64 t994)) (fun _ hk => hk.2) (.string t995)) (fun _ hk => hk.2) (.bool t996)) (fun _ hk => hk.2) (.int .u64 t997)) (fun _ hk => hk.2) (.int .u64 t998)) (fun _ hk => hk.2) (.bool t999)) (fun _ hk => hk.2) (.int .u64 t1000)) (fun _ hk => hk.2) (.int .u64 t1001)) (fun _ hk => hk.2) (.bool t1002)) (fun _ hk => hk.2) (.int .u64 t1003)) (fun _ hk => hk.2) (.int .u64 t1004)) (fun _ hk => hk.2) (.bool t1005)) (fun _ hk => hk.2) (.slice Ao47 t1006.length co47)) (fun _ h_ => h_.1))) hb); have n2_ := Aside0.mk (Kd.R_below (by (with_reducible repeat (first | apply Kd.R_alloc | apply Kd.R_drewN | apply Kd.R_drew)); exact (Kd.R_mono (Kd.R_far (p := ⟨gb1009, 14, none⟩) (Kd.R_far (p := ⟨gb1009, 13, none⟩) (Kd.R_far (p := ⟨gb1009, 12, none⟩) (Kd.R_far (p := ⟨gb1009, 11, none⟩) (Kd.R_far (p := ⟨gb1009, 10, none⟩) (Kd.R_far (p := ⟨gb1009, 9, none⟩) (Kd.R_far (p := ⟨gb1009, 8, none⟩) (Kd.R_far (p := ⟨gb1009, 7, none⟩) (Kd.R_far (p := ⟨gb1009, 6, none⟩) (Kd.R_far (p := ⟨gb1009, 5, none⟩) (Kd.R_far (p := ⟨gb1009, 4, none⟩) (Kd.R_far (p := ⟨gb1009, 3, none⟩) (Kd.R_far (p := ⟨gb1009, 2, none⟩) (Kd.R_far (p := ⟨gb1009, 1, none⟩) (Kd.R_far (p := ⟨gb1009, 0, none⟩) (Kd.R_types HO1008.out BK1009.out (by decide)) (fun _ hk => hk.2) (.int .i64 t992)) (fun _ hk => hk.2) (.int .i64 t993)) (fun _ hk => hk.2) (.int .i64 t994)) (fun _ hk => hk.2) (.string t995)) (fun _ hk => hk.2) (.bool t996)) (fun _ hk => hk.2) (.int .u64 t997)) (fun _ hk => hk.2) (.int .u64 t998)) (fun _ hk => hk.2) (.bool t999)) (fun _ hk => hk.2) (.int .u64 t1000)) (fun _ hk => hk.2) (.int .u64 t1001)) (fun _ hk => hk.2) (.bool t1002)) (fun _ hk => hk.2) (.int .u64 t1003)) (fun _ hk => hk.2) (.int .u64 t1004)) (fun _ hk => hk.2) (.bool t1005)) (fun _ hk => hk.2) (.slice Ao47 t1006.length co47)) (fun _ h_ => h_.1))) hb); have n3_ := Aside0.mk (blk_below (bkx BK952.out) hb); have n4_ := Aside0.mk (blk_below (bkx BK953.out) hb); have n5_ := Aside0.mk (blk_below (bkx BK991.out) hb); have n6_ := Aside0.mk (blk_below (g := gb1009) (o := .cells #[.int .i64 t992, .int .i64 t993, .int .i64 t994, .string t995, .bool t996, .int .u64 t997, .int .u64 t998, .bool t999, .int .u64 t1000, .int .u64 t1001, .bool t1002, .int .u64 t1003, .int .u64 t1004, .bool t1005, .slice Ao47 t1006.length co47] 27 (0, 0)) (by (with_reducible repeat (first | refine blk_drewN ?_ _ | refine blk_drew ?_ | refine blk_alloc ?_ _)); refine blk_put (cs := #[.int .i64 t992, .int .i64 t993, .int .i64 t994, .string t995, .bool t996, .int .u64 t997, .int .u64 t998, .bool t999, .int .u64 t1000, .int .u64 t1001, .bool t1002, .int .u64 t1003, .int .u64 t1004, .bool t1005, .slice none 0 0]) ?_ 14 _ rfl; (with_reducible repeat (first | refine blk_drewN ?_ _ | refine blk_drew ?_ | refine blk_alloc ?_ _)); refine blk_put (cs := #[.int .i64 t992, .int .i64 t993, .int .i64 t994, .string t995, .bool t996, .int .u64 t997, .int .u64 t998, .bool t999, .int .u64 t1000, .int .u64 t1001, .bool t1002, .int .u64 t1003, .int .u64 t1004, .bool false, .slice none 0 0]) ?_ 13 _ rfl; (with_reducible repeat (first | refine blk_drewN ?_ _ | refine blk_drew ?_ | refine blk_alloc ?_ _)); refine blk_put (cs := #[.int .i64 t992, .int .i64 t993, .int .i64 t994, .string t995, .bool t996, .int .u64 t997, .int .u64 t998, .bool t999, .int .u64 t1000, .int .u64 t1001, .bool t1002, .int .u64 t1003, .int .u64 0, .bool false, .slice none 0 0]) ?_ 12 _ rfl; (with_reducible repeat (first | refine blk_drewN ?_ _ | refine blk_drew ?_ | refine blk_alloc ?_ _)); refine blk_put (cs := #[.int .i64 t992, .int .i64 t993, .int .i64 t994, .string t995, .bool t996, .int .u64 t997, .int .u64 t998, .bool t999, .int .u64 t1000, .int .u64 t1001, .bool t1002, .int .u64 0, .int .u64 0, .bool false, .slice none 0 0]) ?_ 11 _ rfl; (with_reducible repeat (first | refine blk_drewN ?_ _ | refine blk_drew ?_ | refine blk_alloc ?_ _)); refine blk_put (cs := #[.int .i64 t992, .int .i64 t993, .int .i64 t994, .string t995, .bool t996, .int .u64 t997, .int .u64 t998, .bool t999, .int .u64 t1000, .int .u64 t1001, .bool false, .int .u64 0, .int .u64 0, .bool false, .slice none 0 0]) ?_ 10 _ rfl; (with_reducible repeat (first | refine blk_drewN ?_ _ | refine blk_drew ?_ | refine blk_alloc ?_ _)); refine blk_put (cs := #[.int .i64 t992, .int .i64 t993, .int .i64 t994, .string t995, .bool t996, .int .u64 t997, .int .u64 t998, .bool t999, .int .u64 t1000, .int .u64 0, .bool false, .int .u64 0, .int .u64 0, .bool false, .slice none 0 0]) ?_ 9 _ rfl; (with_reducible repeat (first | refine blk_drewN ?_ _ | refine blk_drew ?_ | refine blk_alloc ?_ _)); refine blk_put (cs := #[.int .i64 t992, .int .i64 t993, .int .i64 t994, .string t995, .bool t996, .int .u64 t997, .int .u64 t998, .bool t999, .int .u64 0, .int .u64 0, .bool false, .int .u64 0, .int .u64 0, .bool false, .slice none 0 0]) ?_ 8 _ rfl; (with_reducible repeat (first | refine blk_drewN ?_ _ | refine blk_drew ?_ | refine blk_alloc ?_ _)); refine blk_put (cs := #[.int .i64 t992, .int .i64 t993, .int .i64 t994, .string t995, .bool t996, .int .u64 t997, .int .u64 t998, .bool false, .int .u64 0, .int .u64 0, .bool false, .int .u64 0, .int .u64 0, .bool false, .slice none 0 0]) ?_ 7 _ rfl; (with_reducible repeat (first | refine blk_drewN ?_ _ | refine blk_drew ?_ | refine blk_alloc ?_ _)); refine blk_put (cs := #[.int .i64 t992, .int .i64 t993, .int .i64 t994, .string t995, .bool t996, .int .u64 t997, .int .u64 0, .bool false, .int .u64 0, .int .u64 0, .bool false, .int .u64 0, .int .u64 0, .bool false, .slice none 0 0]) ?_ 6 _ rfl; (with_reducible repeat (first | refine blk_drewN ?_ _ | refine blk_drew ?_ | refine blk_alloc ?_ _)); refine blk_put (cs := #[.int .i64 t992, .int .i64 t993, .int .i64 t994, .string t995, .bool t996, .int .u64 0, .int .u64 0, .bool false, .int .u64 0, .int .u64 0, .bool false, .int .u64 0, .int .u64 0, .bool false, .slice none 0 0]) ?_ 5 _ rfl; (with_reducible repeat (first | refine blk_drewN ?_ _ | refine blk_drew ?_ | refine blk_alloc ?_ _)); refine blk_put (cs := #[.int .i64 t992, .int .i64 t993, .int .i64 t994, .string t995, .bool false, .int .u64 0, .int .u64 0, .bool false, .int .u64 0, .int .u64 0, .bool false, .int .u64 0, .int .u64 0, .bool false, .slice none 0 0]) ?_ 4 _ rfl; (with_reducible repeat (first | refine blk_drewN ?_ _ | refine blk_drew ?_ | refine blk_alloc ?_ _)); refine blk_put (cs := #[.int .i64 t992, .int .i64 t993, .int .i64 t994, .string (⟨#[]⟩ : ByteArray), .bool false, .int .u64 0, .int .u64 0, .bool false, .int .u64 0, .int .u64 0, .bool false, .int .u64 0, .int .u64 0, .bool false, .slice none 0 0]) ?_ 3 _ rfl; (with_reducible repeat (first | refine blk_drewN ?_ _ | refine blk_drew ?_ | refine blk_alloc ?_ _)); refine blk_put (cs := #[.int .i64 t992, .int .i64 t993, .int .i64 0, .string (⟨#[]⟩ : ByteArray), .bool false, .int .u64 0, .int .u64 0, .bool false, .int .u64 0, .int .u64 0, .bool false, .int .u64 0, .int .u64 0, .bool false, .slice none 0 0]) ?_ 2 _ rfl; (with_reducible repeat (first | refine blk_drewN ?_ _ | refine blk_drew ?_ | refine blk_alloc ?_ _)); refine blk_put (cs := #[.int .i64 t992, .int .i64 0, .int .i64 0, .string (⟨#[]⟩ : ByteArray), .bool false, .int .u64 0, .int .u64 0, .bool false, .int .u64 0, .int .u64 0, .bool false, .int .u64 0, .int .u64 0, .bool false, .slice none 0 0]) ?_ 1 _ rfl; (with_reducible repeat (first | refine blk_drewN ?_ _ | refine blk_drew ?_ | refine blk_alloc ?_ _)); refine blk_put (cs := #[.int .i64 0, .int .i64 0, .int .i64 0, .string (⟨#[]⟩ : ByteArray), .bool false, .int .u64 0, .int .u64 0, .bool false, .int .u64 0, .int .u64 0, .bool false, .int .u64 0, .int .u64 0, .bool false, .slice none 0 0]) ?_ 0 _ rfl; (with_reducible repeat (first | refine blk_drewN ?_ _ | refine blk_drew ?_ | refine blk_alloc ?_ _)); exact BK1009.out) hb); have n7_ := Aside0.mk (below_step (hbx HB.out) hb); clear HO970; clear HO990; clear HO1008; clear BK952; clear BK953; clear BK991; clear BK1009; clear HB; have HO970 := n0_; have HO990 := n1_; have HO1008 := n2_; have BK952 := n3_; have BK953 := n4_; have BK991 := n5_; have BK1009 := n6_; have HB := n7_; clear n0_ n1_ n2_ n3_ n4_ n5_ n6_ n7_; (try clear hb); (try clear hb2); (try clear hk); (try clear hi); obtain ⟨⟨hcz49_0, hcz49_1, hcz49_2, hcz49_3, hcz49_4, hcz49_5, hcz49_6, hcz49_7, hcz49_8, hcz49_9, hcz49_10, hcz49_11, hcz49_12, hcz49_13, hcz49_14⟩, hfz49_0, hfz49_1, hfz49_2, hfz49_3, hfz49_4, hfz49_5, hfz49_6, hfz49_7, hfz49_8, hfz49_9, hfz49_10, hfz49_11, hfz49_12, hfz49_13, hfz49_14⟩ := cf15 BK1009.out; obtain ⟨⟨hcz50_0, hcz50_1, hcz50_2⟩, hfz50_0, hfz50_1, hfz50_2⟩ := cf3 BK991.out; obtain ⟨⟨hcz51_0, hcz51_1, hcz51_2, hcz51_3, hcz51_4, hcz51_5, hcz51_6, hcz51_7, hcz51_8, hcz51_9, hcz51_10, hcz51_11, hcz51_12, hcz51_13, hcz51_14⟩, hfz51_0, hfz51_1, hfz51_2, hfz51_3, hfz51_4, hfz51_5, hfz51_6, hfz51_7, hfz51_8, hfz51_9, hfz51_10, hfz51_11, hfz51_12, hfz51_13, hfz51_14⟩ := cf15 BK952.out; obtain ⟨⟨hcz52_0, hcz52_1, hcz52_2, hcz52_3, hcz52_4, hcz52_5, hcz52_6, hcz52_7, hcz52_8⟩, hfz52_0, hfz52_1, hfz52_2, hfz52_3, hfz52_4, hfz52_5, hfz52_6, hfz52_7, hfz52_8⟩ := cf9 BK953.out))
          (try simp only [Act.put, List.setIfInBounds_toArray, List.set_cons_zero, List.set_cons_succ])
          go_cut [106] (fun v106 wc => ∃ (kq : Nat) (x106_19 : Bool), v106 = .bool x106_19 ∧ Aside0 (ddilaw36_DhcpLeases.j0 kq x106_19 t954 t955 t956 t957 t958 t959 t960 t961 t962 t963 t964 t965 t966 t967 t968 t992 t993 t994 t995 t996 t997 t998 t999 t1000 t1001 t1002 t1003 t1004 t1005 t1006 = some r) ∧ Aside0 (kq ≤ k) ∧ Aside0 (Kd.R k61 61 wc w.heap.size (fun k_ => some k_ ≠ ((.slice Ao30 y988.length co30) : Value).ownBlock ∧ some k_ ≠ ((.slice Ao47 t1006.length co47) : Value).ownBlock) (.slice Ao27 t968.length co27) t968) ∧ Aside0 (Kd.R k61 61 wc w.heap.size (fun k_ => some k_ ≠ ((.slice Ao27 t968.length co27) : Value).ownBlock ∧ some k_ ≠ ((.slice Ao47 t1006.length co47) : Value).ownBlock) (.slice Ao30 y988.length co30) y988) ∧ Aside0 (Kd.R k61 61 wc w.heap.size (fun k_ => some k_ ≠ ((.slice Ao27 t968.length co27) : Value).ownBlock ∧ some k_ ≠ ((.slice Ao30 y988.length co30) : Value).ownBlock) (.slice Ao47 t1006.length co47) t1006) ∧ Aside0 (wc.heap[gb952]? = some (.cells #[.int .i64 t954, .int .i64 t955, .int .i64 t956, .string t957, .bool t958, .int .u64 t959, .int .u64 t960, .bool t961, .int .u64 t962, .int .u64 t963, .bool t964, .int .u64 t965, .int .u64 t966, .bool t967, (.slice Ao27 t968.length co27)] 27 (0, 0))) ∧ Aside0 (wc.heap[gb953]? = some (.cells #[.bool a2_0, .int .u64 a2_1, .int .u64 a2_2, .int .i64 a2_3, .string a2_4, (.slice A2_5 l2_5.length c2_5), (.slice A2_6 l2_6.length c2_6), (.slice Ao30 y988.length co30), .int .i64 ji10] 53 (0, 0))) ∧ Aside0 (wc.heap[gb991]? = some (.cells #[.bool false, .int .u64 0, .int .u64 (IntKind.u64.wrap (a1))] 24 (0, 0))) ∧ Aside0 (wc.heap[gb1009]? = some (.cells #[.int .i64 t992, .int .i64 t993, .int .i64 t994, .string t995, .bool t996, .int .u64 t997, .int .u64 t998, .bool t999, .int .u64 t1000, .int .u64 t1001, .bool t1002, .int .u64 t1003, .int .u64 t1004, .bool t1005, (.slice Ao47 t1006.length co47)] 27 (0, 0))) ∧ Aside0 (Below w.heap.size w wc))
          case first => as_aux_lemma =>
           have H := HC20.out
           clear HC20
           replace H := Option.bind_eq_some_iff.mp H
           obtain ⟨t1014, A530, H⟩ := H
           (try dsimp only at H)
           have A53 := Aside0.mk A530
           clear A530
           by_cases c54 : t1014 = true
           ·subst c54
            rw [if_pos rfl] at H
            replace H := Option.bind_eq_some_iff.mp H
            obtain ⟨t1015, A550, H⟩ := H
            (try dsimp only at H)
            have A55 := Aside0.mk A550
            clear A550
            replace H := Option.bind_eq_some_iff.mp H
            obtain ⟨t1016, A560, H⟩ := H
            (try dsimp only at H)
            have A56 := Aside0.mk A560
            clear A560
            have H' := Aside0.mk H
            clear H
            try go_wp2
            have n0_ := Aside0.mk (Kd.R_drew HO970.out)
            have n1_ := Aside0.mk (Kd.R_drew HO990.out)
            have n2_ := Aside0.mk (Kd.R_drew HO1008.out)
            have n3_ := Aside0.mk (blk_drew BK952.out)
            have n4_ := Aside0.mk (blk_drew BK953.out)
            have n5_ := Aside0.mk (blk_drew BK991.out)
            have n6_ := Aside0.mk (blk_drew BK1009.out)
            have n7_ := Aside0.mk (below_drew1 HB.out)
            clear HO970
            clear HO990
            clear HO1008
            clear BK952
            clear BK953
            clear BK991
            clear BK1009
            clear HB
            have HO970 := n0_
            have HO990 := n1_
            have HO1008 := n2_
            have BK952 := n3_
            have BK953 := n4_
            have BK991 := n5_
            have BK1009 := n6_
            have HB := n7_
            clear n0_ n1_ n2_ n3_ n4_ n5_ n6_ n7_
            refine start_ (n := 10) (S := fun w' => w'.cell? ⟨gb952, 0, none⟩ = some (.int .i64 t954) ∧ w'.cell? ⟨gb952, 1, none⟩ = some (.int .i64 t955) ∧ w'.cell? ⟨gb952, 2, none⟩ = some (.int .i64 t956) ∧ w'.cell? ⟨gb952, 3, none⟩ = some (.string t957) ∧ w'.cell? ⟨gb952, 4, none⟩ = some (.bool t958) ∧ w'.cell? ⟨gb952, 5, none⟩ = some (.int .u64 t959) ∧ w'.cell? ⟨gb952, 6, none⟩ = some (.int .u64 t960) ∧ w'.cell? ⟨gb952, 7, none⟩ = some (.bool t961) ∧ w'.cell? ⟨gb952, 8, none⟩ = some (.int .u64 t962) ∧ w'.cell? ⟨gb952, 9, none⟩ = some (.int .u64 t963) ∧ w'.cell? ⟨gb952, 10, none⟩ = some (.bool t964) ∧ w'.cell? ⟨gb952, 11, none⟩ = some (.int .u64 t965) ∧ w'.cell? ⟨gb952, 12, none⟩ = some (.int .u64 t966) ∧ w'.cell? ⟨gb952, 13, none⟩ = some (.bool t967) ∧ w'.cell? ⟨gb952, 14, none⟩ = some (.slice Ao27 t968.length co27) ∧ w'.cell? ⟨gb1009, 0, none⟩ = some (.int .i64 t992) ∧ w'.cell? ⟨gb1009, 1, none⟩ = some (.int .i64 t993) ∧ w'.cell? ⟨gb1009, 2, none⟩ = some (.int .i64 t994) ∧ w'.cell? ⟨gb1009, 3, none⟩ = some (.string t995) ∧ w'.cell? ⟨gb1009, 4, none⟩ = some (.bool t996) ∧ w'.cell? ⟨gb1009, 5, none⟩ = some (.int .u64 t997) ∧ w'.cell? ⟨gb1009, 6, none⟩ = some (.int .u64 t998) ∧ w'.cell? ⟨gb1009, 7, none⟩ = some (.bool t999) ∧ w'.cell? ⟨gb1009, 8, none⟩ = some (.int .u64 t1000) ∧ w'.cell? ⟨gb1009, 9, none⟩ = some (.int .u64 t1001) ∧ w'.cell? ⟨gb1009, 10, none⟩ = some (.bool t1002) ∧ w'.cell? ⟨gb1009, 11, none⟩ = some (.int .u64 t1003) ∧ w'.cell? ⟨gb1009, 12, none⟩ = some (.int .u64 t1004) ∧ w'.cell? ⟨gb1009, 13, none⟩ = some (.bool t1005) ∧ w'.cell? ⟨gb1009, 14, none⟩ = some (.slice Ao47 t1006.length co47)) (ds := []) #[false, false, false, false, false, false, false, false, false, false] (by kernel_rfl) rfl rfl ⟨(blk_cell BK952.out 0).trans rfl, (blk_cell BK952.out 1).trans rfl, (blk_cell BK952.out 2).trans rfl, (blk_cell BK952.out 3).trans rfl, (blk_cell BK952.out 4).trans rfl, (blk_cell BK952.out 5).trans rfl, (blk_cell BK952.out 6).trans rfl, (blk_cell BK952.out 7).trans rfl, (blk_cell BK952.out 8).trans rfl, (blk_cell BK952.out 9).trans rfl, (blk_cell BK952.out 10).trans rfl, (blk_cell BK952.out 11).trans rfl, (blk_cell BK952.out 12).trans rfl, (blk_cell BK952.out 13).trans rfl, (blk_cell BK952.out 14).trans rfl, (blk_cell BK1009.out 0).trans rfl, (blk_cell BK1009.out 1).trans rfl, (blk_cell BK1009.out 2).trans rfl, (blk_cell BK1009.out 3).trans rfl, (blk_cell BK1009.out 4).trans rfl, (blk_cell BK1009.out 5).trans rfl, (blk_cell BK1009.out 6).trans rfl, (blk_cell BK1009.out 7).trans rfl, (blk_cell BK1009.out 8).trans rfl, (blk_cell BK1009.out 9).trans rfl, (blk_cell BK1009.out 10).trans rfl, (blk_cell BK1009.out 11).trans rfl, (blk_cell BK1009.out 12).trans rfl, (blk_cell BK1009.out 13).trans rfl, (blk_cell BK1009.out 14).trans rfl⟩ (fun hHeld => ?_); refine with_tabW ddilaw36_DhcpLeases.tab10 ddilaw36_DhcpLeases.bits10 (fun HT_ HW_ => ?_)
            generalize w48.drew = w57 at HO970 HO990 HO1008 BK952 BK953 BK991 BK1009 HB hHeld ⊢
            refine take_ (i := 0) (N := some 97) (v := ?_) (a' := ?_) #[true, false, false, false, false, false, false, false, false, false] rfl rfl (take_ofW HT_.out HW_.out (by kernel_rfl)) (fun _ _ _ h => h) (Or.inl ⟨by rfl, ?_⟩) hHeld ?_ ?_
            rotate_left
            ·rintro w' ⟨s0, s1, s2, s3, s4, s5, s6, s7, s8, s9, s10, s11, s12, s13, s14, s15, s16, s17, s18, s19, s20, s21, s22, s23, s24, s25, s26, s27, s28, s29⟩
             go_simp
             with_reducible rfl
            rotate_left
            ·simp only [Act.put, List.setIfInBounds_toArray, List.set_cons_zero, List.set_cons_succ, i64_w, i32_w]
             rfl
            refine one_ (i := 1) (N := some 98) #[true, true, false, false, false, false, false, false, false, false] rfl rfl (one_of HT_.out (by kernel_rfl)) (by decide) (fun K hK => ?_)
            refine goes_ Tryd.func20 (by kernel_rfl) rfl #[.agg #[.int .i64 t954, .int .i64 t955, .int .i64 t956, .string t957, .bool t958, .int .u64 t959, .int .u64 t960, .bool t961, .int .u64 t962, .int .u64 t963, .bool t964, .int .u64 t965, .int .u64 t966, .bool t967, .slice Ao27 t968.length co27]] (by rfl) rfl rfl (by (try simp only [List.map_toArray, List.map_cons, List.map_nil]); first | done | rfl | (simp only [List.length_drop, List.length_take]; rfl)) ?_
            with_reducible refine (dhcp_Valid.calls k t954 t955 t956 t957 t958 t959 t960 t961 t962 t963 t964 t965 t966 t967 _ _ t968 true _ ?side1 ?side2 A53.out).mono ?_
            (case side1 => repeat (first | exact (Kd.R_reads' HO970.out).2.2 | (with_reducible refine Kd.C_alloc ?_ _) | (with_reducible refine Kd.C_drewN ?_ _) | (with_reducible refine Kd.C_drew ?_)))
            (case side2 => exact (Kd.R_reads' HO970.out).2.1)
            rintro e w58 ⟨rfl, hb⟩
            refine ⟨_, rfl, ?_⟩
            have n0_ := Aside0.mk (Kd.R_below (by (with_reducible repeat (first | apply Kd.R_alloc | apply Kd.R_drewN | apply Kd.R_drew)); exact HO970.out) hb)
            have n1_ := Aside0.mk (Kd.R_below (by (with_reducible repeat (first | apply Kd.R_alloc | apply Kd.R_drewN | apply Kd.R_drew)); exact HO990.out) hb)
            have n2_ := Aside0.mk (Kd.R_below (by (with_reducible repeat (first | apply Kd.R_alloc | apply Kd.R_drewN | apply Kd.R_drew)); exact HO1008.out) hb)
            have n3_ := Aside0.mk (blk_below (bkx BK952.out) hb)
            have n4_ := Aside0.mk (blk_below (bkx BK953.out) hb)
            have n5_ := Aside0.mk (blk_below (bkx BK991.out) hb)
            have n6_ := Aside0.mk (blk_below (bkx BK1009.out) hb)
            have n7_ := Aside0.mk (below_step (hbx HB.out) hb)
            clear HO970
            clear HO990
            clear HO1008
            clear BK952
            clear BK953
            clear BK991
            clear BK1009
            clear HB
            have HO970 := n0_
            have HO990 := n1_
            have HO1008 := n2_
            have BK952 := n3_
            have BK953 := n4_
            have BK991 := n5_
            have BK1009 := n6_
            have HB := n7_
            clear n0_ n1_ n2_ n3_ n4_ n5_ n6_ n7_
            (try clear hb)
            (try clear hb2)
            (try clear hk)
            (try clear hi)
            refine hK.out _ _ ⟨(blk_cell BK952.out 0).trans rfl, (blk_cell BK952.out 1).trans rfl, (blk_cell BK952.out 2).trans rfl, (blk_cell BK952.out 3).trans rfl, (blk_cell BK952.out 4).trans rfl, (blk_cell BK952.out 5).trans rfl, (blk_cell BK952.out 6).trans rfl, (blk_cell BK952.out 7).trans rfl, (blk_cell BK952.out 8).trans rfl, (blk_cell BK952.out 9).trans rfl, (blk_cell BK952.out 10).trans rfl, (blk_cell BK952.out 11).trans rfl, (blk_cell BK952.out 12).trans rfl, (blk_cell BK952.out 13).trans rfl, (blk_cell BK952.out 14).trans rfl, (blk_cell BK1009.out 0).trans rfl, (blk_cell BK1009.out 1).trans rfl, (blk_cell BK1009.out 2).trans rfl, (blk_cell BK1009.out 3).trans rfl, (blk_cell BK1009.out 4).trans rfl, (blk_cell BK1009.out 5).trans rfl, (blk_cell BK1009.out 6).trans rfl, (blk_cell BK1009.out 7).trans rfl, (blk_cell BK1009.out 8).trans rfl, (blk_cell BK1009.out 9).trans rfl, (blk_cell BK1009.out 10).trans rfl, (blk_cell BK1009.out 11).trans rfl, (blk_cell BK1009.out 12).trans rfl, (blk_cell BK1009.out 13).trans rfl, (blk_cell BK1009.out 14).trans rfl⟩ (fun hHeld => ?_)
            clear hK K
            refine norm_ (a' := ?_) ?_ ?_
            rotate_left
            ·show Act.put _ (some 98) _ = _
             simp only [Act.put, List.setIfInBounds_toArray, List.set_cons_zero, List.set_cons_succ, i64_w, i32_w]
             rfl
            refine pu0 (i := 2) (N := some 99) #[true, true, true, false, false, false, false, false, false, false] rfl rfl (any_of HT_.out (by kernel_rfl)) ?_
            refine pu0 (i := 3) (N := some 100) #[true, true, true, true, false, false, false, false, false, false] rfl rfl (any_of HT_.out (by kernel_rfl)) ?_
            refine take_ (i := 4) (N := some 101) (v := ?_) (a' := ?_) #[true, true, true, true, true, false, false, false, false, false] rfl rfl (take_ofW HT_.out HW_.out (by kernel_rfl)) (fun _ _ _ h => h) (Or.inl ⟨by rfl, ?_⟩) hHeld ?_ ?_
            rotate_left
            ·rintro w' ⟨s0, s1, s2, s3, s4, s5, s6, s7, s8, s9, s10, s11, s12, s13, s14, s15, s16, s17, s18, s19, s20, s21, s22, s23, s24, s25, s26, s27, s28, s29⟩
             go_simp
             with_reducible rfl
            rotate_left
            ·simp only [Act.put, List.setIfInBounds_toArray, List.set_cons_zero, List.set_cons_succ, i64_w, i32_w]
             rfl
            refine take_ (i := 6) (N := some 103) (v := ?_) (a' := ?_) #[true, true, true, true, true, false, true, false, false, false] rfl rfl (take_ofW HT_.out HW_.out (by kernel_rfl)) (fun _ _ _ h => h) (Or.inl ⟨by rfl, ?_⟩) hHeld ?_ ?_
            rotate_left
            ·rintro w' ⟨s0, s1, s2, s3, s4, s5, s6, s7, s8, s9, s10, s11, s12, s13, s14, s15, s16, s17, s18, s19, s20, s21, s22, s23, s24, s25, s26, s27, s28, s29⟩
             go_simp
             with_reducible rfl
            rotate_left
            ·simp only [Act.put, List.setIfInBounds_toArray, List.set_cons_zero, List.set_cons_succ, i64_w, i32_w]
             rfl
            refine one_ (i := 5) (N := some 102) #[true, true, true, true, true, true, true, false, false, false] rfl rfl (one_of HT_.out (by kernel_rfl)) (by decide) (fun K hK => ?_)
            refine goes_ Tryd.func28 (by kernel_rfl) rfl #[.slice Ao47 t1006.length co47] (by rfl) rfl rfl (by (try simp only [List.map_toArray, List.map_cons, List.map_nil]); first | done | rfl | (simp only [List.length_drop, List.length_take]; rfl)) ?_
            with_reducible refine (option_Valid.calls k _ _ t1006 t1015 _ ?side1 ?side2 A55.out).mono ?_
            (case side1 => repeat (first | exact (Kd.R_reads' HO1008.out).2.2 | (with_reducible refine Kd.C_alloc ?_ _) | (with_reducible refine Kd.C_drewN ?_ _) | (with_reducible refine Kd.C_drew ?_)))
            (case side2 => exact (Kd.R_reads' HO1008.out).2.1)
            rintro e w59 ⟨rfl, hb⟩
            refine ⟨_, rfl, ?_⟩
            have n0_ := Aside0.mk (Kd.R_below (by (with_reducible repeat (first | apply Kd.R_alloc | apply Kd.R_drewN | apply Kd.R_drew)); exact HO970.out) hb)
            have n1_ := Aside0.mk (Kd.R_below (by (with_reducible repeat (first | apply Kd.R_alloc | apply Kd.R_drewN | apply Kd.R_drew)); exact HO990.out) hb)
            have n2_ := Aside0.mk (Kd.R_below (by (with_reducible repeat (first | apply Kd.R_alloc | apply Kd.R_drewN | apply Kd.R_drew)); exact HO1008.out) hb)
            have n3_ := Aside0.mk (blk_below (bkx BK952.out) hb)
            have n4_ := Aside0.mk (blk_below (bkx BK953.out) hb)
            have n5_ := Aside0.mk (blk_below (bkx BK991.out) hb)
            have n6_ := Aside0.mk (blk_below (bkx BK1009.out) hb)
            have n7_ := Aside0.mk (below_step (hbx HB.out) hb)
            clear HO970
            clear HO990
            clear HO1008
            clear BK952
            clear BK953
            clear BK991
            clear BK1009
            clear HB
            have HO970 := n0_
            have HO990 := n1_
            have HO1008 := n2_
            have BK952 := n3_
            have BK953 := n4_
            have BK991 := n5_
            have BK1009 := n6_
            have HB := n7_
            clear n0_ n1_ n2_ n3_ n4_ n5_ n6_ n7_
            (try clear hb)
            (try clear hb2)
            (try clear hk)
            (try clear hi)
            refine hK.out _ _ ⟨(blk_cell BK952.out 0).trans rfl, (blk_cell BK952.out 1).trans rfl, (blk_cell BK952.out 2).trans rfl, (blk_cell BK952.out 3).trans rfl, (blk_cell BK952.out 4).trans rfl, (blk_cell BK952.out 5).trans rfl, (blk_cell BK952.out 6).trans rfl, (blk_cell BK952.out 7).trans rfl, (blk_cell BK952.out 8).trans rfl, (blk_cell BK952.out 9).trans rfl, (blk_cell BK952.out 10).trans rfl, (blk_cell BK952.out 11).trans rfl, (blk_cell BK952.out 12).trans rfl, (blk_cell BK952.out 13).trans rfl, (blk_cell BK952.out 14).trans rfl, (blk_cell BK1009.out 0).trans rfl, (blk_cell BK1009.out 1).trans rfl, (blk_cell BK1009.out 2).trans rfl, (blk_cell BK1009.out 3).trans rfl, (blk_cell BK1009.out 4).trans rfl, (blk_cell BK1009.out 5).trans rfl, (blk_cell BK1009.out 6).trans rfl, (blk_cell BK1009.out 7).trans rfl, (blk_cell BK1009.out 8).trans rfl, (blk_cell BK1009.out 9).trans rfl, (blk_cell BK1009.out 10).trans rfl, (blk_cell BK1009.out 11).trans rfl, (blk_cell BK1009.out 12).trans rfl, (blk_cell BK1009.out 13).trans rfl, (blk_cell BK1009.out 14).trans rfl⟩ (fun hHeld => ?_)
            clear hK K
            refine norm_ (a' := ?_) ?_ ?_
            rotate_left
            ·show Act.put _ (some 102) _ = _
             simp only [Act.put, List.setIfInBounds_toArray, List.set_cons_zero, List.set_cons_succ, i64_w, i32_w]
             rfl
            refine one_ (i := 7) (N := some 104) #[true, true, true, true, true, true, true, true, false, false] rfl rfl (one_of HT_.out (by kernel_rfl)) (by decide) (fun K hK => ?_)
            refine goes_ Tryd.func20 (by kernel_rfl) rfl #[.agg #[.int .i64 t992, .int .i64 t993, .int .i64 t994, .string t995, .bool t996, .int .u64 t997, .int .u64 t998, .bool t999, .int .u64 t1000, .int .u64 t1001, .bool t1002, .int .u64 t1003, .int .u64 t1004, .bool t1005, .slice Ao47 t1006.length co47]] (by rfl) rfl rfl (by (try simp only [List.map_toArray, List.map_cons, List.map_nil]); first | done | rfl | (simp only [List.length_drop, List.length_take]; rfl)) ?_
            with_reducible refine (dhcp_Valid.calls k t992 t993 t994 t995 t996 t997 t998 t999 t1000 t1001 t1002 t1003 t1004 t1005 _ _ t1006 t1016 _ ?side1 ?side2 A56.out).mono ?_
            (case side1 => repeat (first | exact (Kd.R_reads' HO1008.out).2.2 | (with_reducible refine Kd.C_alloc ?_ _) | (with_reducible refine Kd.C_drewN ?_ _) | (with_reducible refine Kd.C_drew ?_)))
            (case side2 => exact (Kd.R_reads' HO1008.out).2.1)
            rintro e w60 ⟨rfl, hb⟩
            refine ⟨_, rfl, ?_⟩
            have n0_ := Aside0.mk (Kd.R_below (by (with_reducible repeat (first | apply Kd.R_alloc | apply Kd.R_drewN | apply Kd.R_drew)); exact HO970.out) hb)
            have n1_ := Aside0.mk (Kd.R_below (by (with_reducible repeat (first | apply Kd.R_alloc | apply Kd.R_drewN | apply Kd.R_drew)); exact HO990.out) hb)
            have n2_ := Aside0.mk (Kd.R_below (by (with_reducible repeat (first | apply Kd.R_alloc | apply Kd.R_drewN | apply Kd.R_drew)); exact HO1008.out) hb)
            have n3_ := Aside0.mk (blk_below (bkx BK952.out) hb)
            have n4_ := Aside0.mk (blk_below (bkx BK953.out) hb)
            have n5_ := Aside0.mk (blk_below (bkx BK991.out) hb)
            have n6_ := Aside0.mk (blk_below (bkx BK1009.out) hb)
            have n7_ := Aside0.mk (below_step (hbx HB.out) hb)
            clear HO970
            clear HO990
            clear HO1008
            clear BK952
            clear BK953
            clear BK991
            clear BK1009
            clear HB
            have HO970 := n0_
            have HO990 := n1_
            have HO1008 := n2_
            have BK952 := n3_
            have BK953 := n4_
            have BK991 := n5_
            have BK1009 := n6_
            have HB := n7_
            clear n0_ n1_ n2_ n3_ n4_ n5_ n6_ n7_
            (try clear hb)
            (try clear hb2)
            (try clear hk)
            (try clear hi)
            refine hK.out _ _ ⟨(blk_cell BK952.out 0).trans rfl, (blk_cell BK952.out 1).trans rfl, (blk_cell BK952.out 2).trans rfl, (blk_cell BK952.out 3).trans rfl, (blk_cell BK952.out 4).trans rfl, (blk_cell BK952.out 5).trans rfl, (blk_cell BK952.out 6).trans rfl, (blk_cell BK952.out 7).trans rfl, (blk_cell BK952.out 8).trans rfl, (blk_cell BK952.out 9).trans rfl, (blk_cell BK952.out 10).trans rfl, (blk_cell BK952.out 11).trans rfl, (blk_cell BK952.out 12).trans rfl, (blk_cell BK952.out 13).trans rfl, (blk_cell BK952.out 14).trans rfl, (blk_cell BK1009.out 0).trans rfl, (blk_cell BK1009.out 1).trans rfl, (blk_cell BK1009.out 2).trans rfl, (blk_cell BK1009.out 3).trans rfl, (blk_cell BK1009.out 4).trans rfl, (blk_cell BK1009.out 5).trans rfl, (blk_cell BK1009.out 6).trans rfl, (blk_cell BK1009.out 7).trans rfl, (blk_cell BK1009.out 8).trans rfl, (blk_cell BK1009.out 9).trans rfl, (blk_cell BK1009.out 10).trans rfl, (blk_cell BK1009.out 11).trans rfl, (blk_cell BK1009.out 12).trans rfl, (blk_cell BK1009.out 13).trans rfl, (blk_cell BK1009.out 14).trans rfl⟩ (fun hHeld => ?_)
            clear hK K
            refine norm_ (a' := ?_) ?_ ?_
            rotate_left
            ·show Act.put _ (some 104) _ = _
             simp only [Act.put, List.setIfInBounds_toArray, List.set_cons_zero, List.set_cons_succ, i64_w, i32_w]
             rfl
            refine pu0 (i := 8) (N := some 105) #[true, true, true, true, true, true, true, true, true, false] rfl rfl (any_of HT_.out (by kernel_rfl)) ?_
            refine pu0 (i := 9) (N := some 106) #[true, true, true, true, true, true, true, true, true, true] rfl rfl (any_of HT_.out (by kernel_rfl)) ?_
            refine done_ (done_of HT_.out (by kernel_rfl)) ?_
            try go_wp2
            go_meet
            case rel => exact ⟨_, ((t1015 != t1016)), (by first | rfl | (simp; done) | (simp [*]; done)), H', ⟨by first | omega | exact Nat.le_refl _⟩, ⟨by (with_reducible repeat (first | apply Kd.R_alloc | apply Kd.R_drewN | apply Kd.R_drew)); exact (Kd.R_mono HO970.out (fun _ h_ => ⟨fun e_ => h_.1 (e_.trans (ownl ..)), h_.2⟩))⟩, ⟨by (with_reducible repeat (first | apply Kd.R_alloc | apply Kd.R_drewN | apply Kd.R_drew)); exact HO990.out⟩, ⟨by (with_reducible repeat (first | apply Kd.R_alloc | apply Kd.R_drewN | apply Kd.R_drew)); exact Kd.R_mono HO1008.out (fun _ hk => ⟨hk.1.2, hk.2⟩)⟩, ⟨bkx BK952.out⟩, ⟨bkx BK953.out⟩, ⟨bkx BK991.out⟩, ⟨bkx BK1009.out⟩, ⟨hbx HB.out⟩⟩
           ·replace c54 := Bool.eq_false_iff.mpr c54
            subst c54
            rw [if_neg (show ¬ (false = true) by decide)] at H
            have H' := Aside0.mk H
            clear H
            try go_wp2
            have n0_ := Aside0.mk (Kd.R_drew HO970.out)
            have n1_ := Aside0.mk (Kd.R_drew HO990.out)
            have n2_ := Aside0.mk (Kd.R_drew HO1008.out)
            have n3_ := Aside0.mk (blk_drew BK952.out)
            have n4_ := Aside0.mk (blk_drew BK953.out)
            have n5_ := Aside0.mk (blk_drew BK991.out)
            have n6_ := Aside0.mk (blk_drew BK1009.out)
            have n7_ := Aside0.mk (below_drew1 HB.out)
            clear HO970
            clear HO990
            clear HO1008
            clear BK952
            clear BK953
            clear BK991
            clear BK1009
            clear HB
            have HO970 := n0_
            have HO990 := n1_
            have HO1008 := n2_
            have BK952 := n3_
            have BK953 := n4_
            have BK991 := n5_
            have BK1009 := n6_
            have HB := n7_
            clear n0_ n1_ n2_ n3_ n4_ n5_ n6_ n7_
            refine start_ (n := 10) (S := fun w' => w'.cell? ⟨gb952, 0, none⟩ = some (.int .i64 t954) ∧ w'.cell? ⟨gb952, 1, none⟩ = some (.int .i64 t955) ∧ w'.cell? ⟨gb952, 2, none⟩ = some (.int .i64 t956) ∧ w'.cell? ⟨gb952, 3, none⟩ = some (.string t957) ∧ w'.cell? ⟨gb952, 4, none⟩ = some (.bool t958) ∧ w'.cell? ⟨gb952, 5, none⟩ = some (.int .u64 t959) ∧ w'.cell? ⟨gb952, 6, none⟩ = some (.int .u64 t960) ∧ w'.cell? ⟨gb952, 7, none⟩ = some (.bool t961) ∧ w'.cell? ⟨gb952, 8, none⟩ = some (.int .u64 t962) ∧ w'.cell? ⟨gb952, 9, none⟩ = some (.int .u64 t963) ∧ w'.cell? ⟨gb952, 10, none⟩ = some (.bool t964) ∧ w'.cell? ⟨gb952, 11, none⟩ = some (.int .u64 t965) ∧ w'.cell? ⟨gb952, 12, none⟩ = some (.int .u64 t966) ∧ w'.cell? ⟨gb952, 13, none⟩ = some (.bool t967) ∧ w'.cell? ⟨gb952, 14, none⟩ = some (.slice Ao27 t968.length co27)) (ds := []) #[false, false, false, false, false, false, false, false, false, false] (by kernel_rfl) rfl rfl (cz15 BK952.out) (fun hHeld => ?_); refine with_tabW ddilaw36_DhcpLeases.tab10 ddilaw36_DhcpLeases.bits10 (fun HT_ HW_ => ?_)
            generalize w48.drew = w61 at HO970 HO990 HO1008 BK952 BK953 BK991 BK1009 HB hHeld ⊢
            refine take_ (i := 0) (N := some 97) (v := ?_) (a' := ?_) #[true, false, false, false, false, false, false, false, false, false] rfl rfl (take_ofW HT_.out HW_.out (by kernel_rfl)) (fun _ _ _ h => h) (Or.inl ⟨by rfl, ?_⟩) hHeld ?_ ?_
            rotate_left
            ·rintro w' ⟨s0, s1, s2, s3, s4, s5, s6, s7, s8, s9, s10, s11, s12, s13, s14⟩
             go_simp
             with_reducible rfl
            rotate_left
            ·simp only [Act.put, List.setIfInBounds_toArray, List.set_cons_zero, List.set_cons_succ, i64_w, i32_w]
             rfl
            refine one_ (i := 1) (N := some 98) #[true, true, false, false, false, false, false, false, false, false] rfl rfl (one_of HT_.out (by kernel_rfl)) (by decide) (fun K hK => ?_)
            refine goes_ Tryd.func20 (by kernel_rfl) rfl #[.agg #[.int .i64 t954, .int .i64 t955, .int .i64 t956, .string t957, .bool t958, .int .u64 t959, .int .u64 t960, .bool t961, .int .u64 t962, .int .u64 t963, .bool t964, .int .u64 t965, .int .u64 t966, .bool t967, .slice Ao27 t968.length co27]] (by rfl) rfl rfl (by (try simp only [List.map_toArray, List.map_cons, List.map_nil]); first | done | rfl | (simp only [List.length_drop, List.length_take]; rfl)) ?_
            with_reducible refine (dhcp_Valid.calls k t954 t955 t956 t957 t958 t959 t960 t961 t962 t963 t964 t965 t966 t967 _ _ t968 false _ ?side1 ?side2 A53.out).mono ?_
            (case side1 => repeat (first | exact (Kd.R_reads' HO970.out).2.2 | (with_reducible refine Kd.C_alloc ?_ _) | (with_reducible refine Kd.C_drewN ?_ _) | (with_reducible refine Kd.C_drew ?_)))
            (case side2 => exact (Kd.R_reads' HO970.out).2.1)
            rintro e w62 ⟨rfl, hb⟩
            refine ⟨_, rfl, ?_⟩
            have n0_ := Aside0.mk (Kd.R_below (by (with_reducible repeat (first | apply Kd.R_alloc | apply Kd.R_drewN | apply Kd.R_drew)); exact HO970.out) hb)
            have n1_ := Aside0.mk (Kd.R_below (by (with_reducible repeat (first | apply Kd.R_alloc | apply Kd.R_drewN | apply Kd.R_drew)); exact HO990.out) hb)
            have n2_ := Aside0.mk (Kd.R_below (by (with_reducible repeat (first | apply Kd.R_alloc | apply Kd.R_drewN | apply Kd.R_drew)); exact HO1008.out) hb)
            have n3_ := Aside0.mk (blk_below (bkx BK952.out) hb)
            have n4_ := Aside0.mk (blk_below (bkx BK953.out) hb)
            have n5_ := Aside0.mk (blk_below (bkx BK991.out) hb)
            have n6_ := Aside0.mk (blk_below (bkx BK1009.out) hb)
            have n7_ := Aside0.mk (below_step (hbx HB.out) hb)
            clear HO970
            clear HO990
            clear HO1008
            clear BK952
            clear BK953
            clear BK991
            clear BK1009
            clear HB
            have HO970 := n0_
            have HO990 := n1_
            have HO1008 := n2_
            have BK952 := n3_
            have BK953 := n4_
            have BK991 := n5_
            have BK1009 := n6_
            have HB := n7_
            clear n0_ n1_ n2_ n3_ n4_ n5_ n6_ n7_
            (try clear hb)
            (try clear hb2)
            (try clear hk)
            (try clear hi)
            refine hK.out _ _ (cz15 BK952.out) (fun hHeld => ?_)
            clear hK K
            refine norm_ (a' := ?_) ?_ ?_
            rotate_left
            ·show Act.put _ (some 98) _ = _
             simp only [Act.put, List.setIfInBounds_toArray, List.set_cons_zero, List.set_cons_succ, i64_w, i32_w]
             rfl
            refine pu0 (i := 2) (N := some 99) #[true, true, true, false, false, false, false, false, false, false] rfl rfl (any_of HT_.out (by kernel_rfl)) ?_
            refine pure_ (i := 3) (N := some 100) (v := undef) (a' := ?_) #[true, true, true, true, false, false, false, false, false, false] rfl rfl (any_of HT_.out (by kernel_rfl)) (fun _ _ _ h => h) (Or.inr ⟨by rfl, rfl⟩) ?_ ?_
            rotate_left
            ·simp only [Act.put, List.setIfInBounds_toArray, List.set_cons_zero, List.set_cons_succ, i64_w, i32_w]
             rfl
            refine pure_ (i := 4) (N := some 101) (v := undef) (a' := ?_) #[true, true, true, true, true, false, false, false, false, false] rfl rfl (any_of HT_.out (by kernel_rfl)) (fun _ _ _ h => h) (Or.inr ⟨by rfl, rfl⟩) ?_ ?_
            rotate_left
            ·simp only [Act.put, List.setIfInBounds_toArray, List.set_cons_zero, List.set_cons_succ, i64_w, i32_w]
             rfl
            refine pure_ (i := 5) (N := some 102) (v := undef) (a' := ?_) #[true, true, true, true, true, true, false, false, false, false] rfl rfl (any_of HT_.out (by kernel_rfl)) (fun _ _ _ h => h) (Or.inr ⟨by rfl, rfl⟩) ?_ ?_
            rotate_left
            ·simp only [Act.put, List.setIfInBounds_toArray, List.set_cons_zero, List.set_cons_succ, i64_w, i32_w]
             rfl
            refine pure_ (i := 6) (N := some 103) (v := undef) (a' := ?_) #[true, true, true, true, true, true, true, false, false, false] rfl rfl (any_of HT_.out (by kernel_rfl)) (fun _ _ _ h => h) (Or.inr ⟨by rfl, rfl⟩) ?_ ?_
            rotate_left
            ·simp only [Act.put, List.setIfInBounds_toArray, List.set_cons_zero, List.set_cons_succ, i64_w, i32_w]
             rfl
            refine pure_ (i := 7) (N := some 104) (v := undef) (a' := ?_) #[true, true, true, true, true, true, true, true, false, false] rfl rfl (any_of HT_.out (by kernel_rfl)) (fun _ _ _ h => h) (Or.inr ⟨by rfl, rfl⟩) ?_ ?_
            rotate_left
            ·simp only [Act.put, List.setIfInBounds_toArray, List.set_cons_zero, List.set_cons_succ, i64_w, i32_w]
             rfl
            refine pure_ (i := 8) (N := some 105) (v := undef) (a' := ?_) #[true, true, true, true, true, true, true, true, true, false] rfl rfl (any_of HT_.out (by kernel_rfl)) (fun _ _ _ h => h) (Or.inr ⟨by rfl, rfl⟩) ?_ ?_
            rotate_left
            ·simp only [Act.put, List.setIfInBounds_toArray, List.set_cons_zero, List.set_cons_succ, i64_w, i32_w]
             rfl
            refine pu0 (i := 9) (N := some 106) #[true, true, true, true, true, true, true, true, true, true] rfl rfl (any_of HT_.out (by kernel_rfl)) ?_
            refine done_ (done_of HT_.out (by kernel_rfl)) ?_
            try go_wp2
            go_meet
            case rel => exact ⟨_, (false), (by first | rfl | (simp; done) | (simp [*]; done)), H', ⟨by first | omega | exact Nat.le_refl _⟩, ⟨by (with_reducible repeat (first | apply Kd.R_alloc | apply Kd.R_drewN | apply Kd.R_drew)); exact (Kd.R_mono HO970.out (fun _ h_ => ⟨fun e_ => h_.1 (e_.trans (ownl ..)), h_.2⟩))⟩, ⟨by (with_reducible repeat (first | apply Kd.R_alloc | apply Kd.R_drewN | apply Kd.R_drew)); exact HO990.out⟩, ⟨by (with_reducible repeat (first | apply Kd.R_alloc | apply Kd.R_drewN | apply Kd.R_drew)); exact Kd.R_mono HO1008.out (fun _ hk => ⟨hk.1.2, hk.2⟩)⟩, ⟨bkx BK952.out⟩, ⟨bkx BK953.out⟩, ⟨bkx BK991.out⟩, ⟨bkx BK1009.out⟩, ⟨hbx HB.out⟩⟩
          case rest => as_aux_lemma =>
           clear HC20
           try clear c1
           try clear c2
           try clear p2
           try clear c3
           try clear q3
           try clear c4
           try clear c5
           try clear c7
           try clear c7b0
           try clear c7b1
           try clear c8
           try clear c8b0
           try clear c8b1
           try clear c9
           try clear c10
           try clear c13
           try clear c13b0
           try clear c14
           try clear c14b0
           try clear c14b1
           try clear c15
           try clear c15b0
           try clear c15b1
           try clear c16
           try clear c16b0
           try clear c16b1
           try clear c17
           try clear c17b0
           try clear c17b1
           try clear c18
           try clear c18b0
           try clear c18b1
           try clear c19
           try clear c20
           try clear c23
           try clear c26
           try clear c28
           try clear q34
           try clear c36
           try clear c37
           try clear c43
           try clear c44
           try clear c45
           try clear c54
           try clear hcz24_0 hcz24_1 hcz24_10 hcz24_11 hcz24_12 hcz24_13 hcz24_14 hcz24_2 hcz24_3 hcz24_4 hcz24_5 hcz24_6 hcz24_7 hcz24_8 hcz24_9
           try clear hcz26_0 hcz26_1 hcz26_10 hcz26_11 hcz26_12 hcz26_13 hcz26_14 hcz26_2 hcz26_3 hcz26_4 hcz26_5 hcz26_6 hcz26_7 hcz26_8 hcz26_9
           try clear hcz28_0 hcz28_1 hcz28_2 hcz28_3 hcz28_4 hcz28_5 hcz28_6 hcz28_7 hcz28_8
           try clear hcz31_0 hcz31_1 hcz31_2 hcz31_3 hcz31_4 hcz31_5 hcz31_6 hcz31_7 hcz31_8
           try clear hcz33_0 hcz33_1 hcz33_2 hcz33_3 hcz33_4 hcz33_5 hcz33_6 hcz33_7 hcz33_8
           try clear hcz38_0 hcz38_1 hcz38_2
           try clear hcz39_0 hcz39_1 hcz39_2 hcz39_3 hcz39_4 hcz39_5 hcz39_6 hcz39_7 hcz39_8
           try clear hcz40_0 hcz40_1 hcz40_10 hcz40_11 hcz40_12 hcz40_13 hcz40_14 hcz40_2 hcz40_3 hcz40_4 hcz40_5 hcz40_6 hcz40_7 hcz40_8 hcz40_9
           try clear hcz46_0 hcz46_1 hcz46_10 hcz46_11 hcz46_12 hcz46_13 hcz46_14 hcz46_2 hcz46_3 hcz46_4 hcz46_5 hcz46_6 hcz46_7 hcz46_8 hcz46_9
           try clear hcz49_0 hcz49_1 hcz49_10 hcz49_11 hcz49_12 hcz49_13 hcz49_14 hcz49_2 hcz49_3 hcz49_4 hcz49_5 hcz49_6 hcz49_7 hcz49_8 hcz49_9
           try clear hcz50_0 hcz50_1 hcz50_2
           try clear hcz51_0 hcz51_1 hcz51_10 hcz51_11 hcz51_12 hcz51_13 hcz51_14 hcz51_2 hcz51_3 hcz51_4 hcz51_5 hcz51_6 hcz51_7 hcz51_8 hcz51_9
           try clear hcz52_0 hcz52_1 hcz52_2 hcz52_3 hcz52_4 hcz52_5 hcz52_6 hcz52_7 hcz52_8
           try clear hfz24_0 hfz24_1 hfz24_10 hfz24_11 hfz24_12 hfz24_13 hfz24_14 hfz24_2 hfz24_3 hfz24_4 hfz24_5 hfz24_6 hfz24_7 hfz24_8 hfz24_9
           try clear hfz26_0 hfz26_1 hfz26_10 hfz26_11 hfz26_12 hfz26_13 hfz26_14 hfz26_2 hfz26_3 hfz26_4 hfz26_5 hfz26_6 hfz26_7 hfz26_8 hfz26_9
           try clear hfz28_0 hfz28_1 hfz28_2 hfz28_3 hfz28_4 hfz28_5 hfz28_6 hfz28_7 hfz28_8
           try clear hfz31_0 hfz31_1 hfz31_2 hfz31_3 hfz31_4 hfz31_5 hfz31_6 hfz31_7 hfz31_8
           try clear hfz33_0 hfz33_1 hfz33_2 hfz33_3 hfz33_4 hfz33_5 hfz33_6 hfz33_7 hfz33_8
           try clear hfz38_0 hfz38_1 hfz38_2
           try clear hfz39_0 hfz39_1 hfz39_2 hfz39_3 hfz39_4 hfz39_5 hfz39_6 hfz39_7 hfz39_8
           try clear hfz40_0 hfz40_1 hfz40_10 hfz40_11 hfz40_12 hfz40_13 hfz40_14 hfz40_2 hfz40_3 hfz40_4 hfz40_5 hfz40_6 hfz40_7 hfz40_8 hfz40_9
           try clear hfz46_0 hfz46_1 hfz46_10 hfz46_11 hfz46_12 hfz46_13 hfz46_14 hfz46_2 hfz46_3 hfz46_4 hfz46_5 hfz46_6 hfz46_7 hfz46_8 hfz46_9
           try clear hfz49_0 hfz49_1 hfz49_10 hfz49_11 hfz49_12 hfz49_13 hfz49_14 hfz49_2 hfz49_3 hfz49_4 hfz49_5 hfz49_6 hfz49_7 hfz49_8 hfz49_9
           try clear hfz50_0 hfz50_1 hfz50_2
           try clear hfz51_0 hfz51_1 hfz51_10 hfz51_11 hfz51_12 hfz51_13 hfz51_14 hfz51_2 hfz51_3 hfz51_4 hfz51_5 hfz51_6 hfz51_7 hfz51_8 hfz51_9
           try clear hfz52_0 hfz52_1 hfz52_2 hfz52_3 hfz52_4 hfz52_5 hfz52_6 hfz52_7 hfz52_8
           try clear q34
           obtain ⟨kq, x106_19, rfl, HA, HJ19, HO_953014, HO_954007, HO_1010014, BK952, BK953, BK991, BK1009, HB⟩ := hcut
           cases kq with
           | zero => exact absurd HA.out (by simp [ddilaw36_DhcpLeases.j0])
           | succ kj19 =>
            have H := HA.out
            clear HA
            simp only [ddilaw36_DhcpLeases.j0] at H
            by_cases c63 : x106_19 = true
            ·subst c63
             rw [if_pos rfl] at H
             exact absurd H (by simp)
            ·replace c63 := Bool.eq_false_iff.mpr c63
             subst c63
             rw [if_neg (show ¬ (false = true) by decide)] at H
             have H' := Aside0.mk H
             clear H
             have hnb64 := NB952_953.out
             have hnc64 := NB953_952.out
             have hnb65 := NB952_991.out
             have hnc65 := NB991_952.out
             have hnb66 := NB952_1009.out
             have hnc66 := NB1009_952.out
             obtain ⟨⟨hcz67_0, hcz67_1, hcz67_2, hcz67_3, hcz67_4, hcz67_5, hcz67_6, hcz67_7, hcz67_8, hcz67_9, hcz67_10, hcz67_11, hcz67_12, hcz67_13, hcz67_14⟩, hfz67_0, hfz67_1, hfz67_2, hfz67_3, hfz67_4, hfz67_5, hfz67_6, hfz67_7, hfz67_8, hfz67_9, hfz67_10, hfz67_11, hfz67_12, hfz67_13, hfz67_14⟩ := cf15 BK952.out
             go_wp2
             go_loopg [110] kj19 (fun kq v110 w' => ∃ (x110_2 : Int), v110 = .int .i64 x110_2 ∧ Aside0 (ddilaw36_DhcpLeases.l0 kq t968 (t968.length : Int) x110_2 t954 t955 t956 t957 t958 t959 t960 t961 t962 t963 t964 t965 t966 t967 t968 t992 t993 t994 t995 t996 t997 t998 t999 t1000 t1001 t1002 t1003 t1004 t1005 t1006 = some r) ∧ Aside0 (kq ≤ kj19) ∧ Aside0 (Kd.R k61 61 w' w.heap.size (fun k_ => some k_ ≠ ((.slice Ao30 y988.length co30) : Value).ownBlock ∧ some k_ ≠ ((.slice Ao47 t1006.length co47) : Value).ownBlock) (.slice Ao27 t968.length co27) t968) ∧ Aside0 (Kd.R k61 61 w' w.heap.size (fun k_ => some k_ ≠ ((.slice Ao30 y988.length co30) : Value).ownBlock ∧ some k_ ≠ ((.slice Ao47 t1006.length co47) : Value).ownBlock) (.slice Ao27 t968.length co27) t968) ∧ Aside0 (Kd.R k61 61 w' w.heap.size (fun k_ => some k_ ≠ ((.slice Ao27 t968.length co27) : Value).ownBlock ∧ some k_ ≠ ((.slice Ao27 t968.length co27) : Value).ownBlock ∧ some k_ ≠ ((.slice Ao47 t1006.length co47) : Value).ownBlock) (.slice Ao30 y988.length co30) y988) ∧ Aside0 (Kd.R k61 61 w' w.heap.size (fun k_ => some k_ ≠ ((.slice Ao27 t968.length co27) : Value).ownBlock ∧ some k_ ≠ ((.slice Ao27 t968.length co27) : Value).ownBlock ∧ some k_ ≠ ((.slice Ao30 y988.length co30) : Value).ownBlock) (.slice Ao47 t1006.length co47) t1006) ∧ Aside0 (w'.heap[gb952]? = some (.cells #[.int .i64 t954, .int .i64 t955, .int .i64 t956, .string t957, .bool t958, .int .u64 t959, .int .u64 t960, .bool t961, .int .u64 t962, .int .u64 t963, .bool t964, .int .u64 t965, .int .u64 t966, .bool t967, (.slice Ao27 t968.length co27)] 27 (0, 0))) ∧ Aside0 (w'.heap[gb953]? = some (.cells #[.bool a2_0, .int .u64 a2_1, .int .u64 a2_2, .int .i64 a2_3, .string a2_4, (.slice A2_5 l2_5.length c2_5), (.slice A2_6 l2_6.length c2_6), (.slice Ao30 y988.length co30), .int .i64 ji10] 53 (0, 0))) ∧ Aside0 (w'.heap[gb991]? = some (.cells #[.bool false, .int .u64 0, .int .u64 (IntKind.u64.wrap (a1))] 24 (0, 0))) ∧ Aside0 (w'.heap[gb1009]? = some (.cells #[.int .i64 t992, .int .i64 t993, .int .i64 t994, .string t995, .bool t996, .int .u64 t997, .int .u64 t998, .bool t999, .int .u64 t1000, .int .u64 t1001, .bool t1002, .int .u64 t1003, .int .u64 t1004, .bool t1005, (.slice Ao47 t1006.length co47)] 27 (0, 0))) ∧ Aside0 (Below w.heap.size w w'))
             case atStart => exact ⟨(0), (by first | rfl | (simp; done) | (simp [*]; done)), H', ⟨Nat.le_refl _⟩, ⟨by (with_reducible repeat (first | apply Kd.R_alloc | apply Kd.R_drewN | apply Kd.R_drew)); exact HO_953014.out⟩, ⟨by (with_reducible repeat (first | apply Kd.R_alloc | apply Kd.R_drewN | apply Kd.R_drew)); exact HO_953014.out⟩, ⟨by (with_reducible repeat (first | apply Kd.R_alloc | apply Kd.R_drewN | apply Kd.R_drew)); exact Kd.R_mono HO_954007.out (fun _ hk => ⟨hk.1, ⟨hk.1, hk.2⟩⟩)⟩, ⟨by (with_reducible repeat (first | apply Kd.R_alloc | apply Kd.R_drewN | apply Kd.R_drew)); exact Kd.R_mono HO_1010014.out (fun _ hk => ⟨hk.1, ⟨hk.1, hk.2⟩⟩)⟩, ⟨bkx BK952.out⟩, ⟨bkx BK953.out⟩, ⟨bkx BK991.out⟩, ⟨bkx BK1009.out⟩, ⟨hbx HB.out⟩⟩
             case round => as_aux_lemma =>
              clear H'
              try clear c1
              try clear c2
              try clear p2
              try clear c3
              try clear q3
              try clear c4
              try clear c5
              try clear c6
              try clear c7
              try clear c7b0
              try clear c7b1
              try clear c8
              try clear c8b0
              try clear c8b1
              try clear c9
              try clear c10
              try clear c13
              try clear c13b0
              try clear c14
              try clear c14b0
              try clear c14b1
              try clear c15
              try clear c15b0
              try clear c15b1
              try clear c16
              try clear c16b0
              try clear c16b1
              try clear c17
              try clear c17b0
              try clear c17b1
              try clear c18
              try clear c18b0
              try clear c18b1
              try clear c19
              try clear c20
              try clear c23
              try clear c26
              try clear c28
              try clear q34
              try clear c36
              try clear c37
              try clear c43
              try clear c44
              try clear c45
              try clear c54
              try clear c63
              try clear c64
              try clear c65
              try clear c66
              try clear hcz24_0 hcz24_1 hcz24_10 hcz24_11 hcz24_12 hcz24_13 hcz24_14 hcz24_2 hcz24_3 hcz24_4 hcz24_5 hcz24_6 hcz24_7 hcz24_8 hcz24_9
              try clear hcz26_0 hcz26_1 hcz26_10 hcz26_11 hcz26_12 hcz26_13 hcz26_14 hcz26_2 hcz26_3 hcz26_4 hcz26_5 hcz26_6 hcz26_7 hcz26_8 hcz26_9
              try clear hcz28_0 hcz28_1 hcz28_2 hcz28_3 hcz28_4 hcz28_5 hcz28_6 hcz28_7 hcz28_8
              try clear hcz31_0 hcz31_1 hcz31_2 hcz31_3 hcz31_4 hcz31_5 hcz31_6 hcz31_7 hcz31_8
              try clear hcz33_0 hcz33_1 hcz33_2 hcz33_3 hcz33_4 hcz33_5 hcz33_6 hcz33_7 hcz33_8
              try clear hcz38_0 hcz38_1 hcz38_2
              try clear hcz39_0 hcz39_1 hcz39_2 hcz39_3 hcz39_4 hcz39_5 hcz39_6 hcz39_7 hcz39_8
              try clear hcz40_0 hcz40_1 hcz40_10 hcz40_11 hcz40_12 hcz40_13 hcz40_14 hcz40_2 hcz40_3 hcz40_4 hcz40_5 hcz40_6 hcz40_7 hcz40_8 hcz40_9
              try clear hcz46_0 hcz46_1 hcz46_10 hcz46_11 hcz46_12 hcz46_13 hcz46_14 hcz46_2 hcz46_3 hcz46_4 hcz46_5 hcz46_6 hcz46_7 hcz46_8 hcz46_9
              try clear hcz49_0 hcz49_1 hcz49_10 hcz49_11 hcz49_12 hcz49_13 hcz49_14 hcz49_2 hcz49_3 hcz49_4 hcz49_5 hcz49_6 hcz49_7 hcz49_8 hcz49_9
              try clear hcz50_0 hcz50_1 hcz50_2
              try clear hcz51_0 hcz51_1 hcz51_10 hcz51_11 hcz51_12 hcz51_13 hcz51_14 hcz51_2 hcz51_3 hcz51_4 hcz51_5 hcz51_6 hcz51_7 hcz51_8 hcz51_9
              try clear hcz52_0 hcz52_1 hcz52_2 hcz52_3 hcz52_4 hcz52_5 hcz52_6 hcz52_7 hcz52_8
              try clear hcz67_0 hcz67_1 hcz67_10 hcz67_11 hcz67_12 hcz67_13 hcz67_14 hcz67_2 hcz67_3 hcz67_4 hcz67_5 hcz67_6 hcz67_7 hcz67_8 hcz67_9
              try clear hfz24_0 hfz24_1 hfz24_10 hfz24_11 hfz24_12 hfz24_13 hfz24_14 hfz24_2 hfz24_3 hfz24_4 hfz24_5 hfz24_6 hfz24_7 hfz24_8 hfz24_9
              try clear hfz26_0 hfz26_1 hfz26_10 hfz26_11 hfz26_12 hfz26_13 hfz26_14 hfz26_2 hfz26_3 hfz26_4 hfz26_5 hfz26_6 hfz26_7 hfz26_8 hfz26_9
              try clear hfz28_0 hfz28_1 hfz28_2 hfz28_3 hfz28_4 hfz28_5 hfz28_6 hfz28_7 hfz28_8
              try clear hfz31_0 hfz31_1 hfz31_2 hfz31_3 hfz31_4 hfz31_5 hfz31_6 hfz31_7 hfz31_8
              try clear hfz33_0 hfz33_1 hfz33_2 hfz33_3 hfz33_4 hfz33_5 hfz33_6 hfz33_7 hfz33_8
              try clear hfz38_0 hfz38_1 hfz38_2
              try clear hfz39_0 hfz39_1 hfz39_2 hfz39_3 hfz39_4 hfz39_5 hfz39_6 hfz39_7 hfz39_8
              try clear hfz40_0 hfz40_1 hfz40_10 hfz40_11 hfz40_12 hfz40_13 hfz40_14 hfz40_2 hfz40_3 hfz40_4 hfz40_5 hfz40_6 hfz40_7 hfz40_8 hfz40_9
              try clear hfz46_0 hfz46_1 hfz46_10 hfz46_11 hfz46_12 hfz46_13 hfz46_14 hfz46_2 hfz46_3 hfz46_4 hfz46_5 hfz46_6 hfz46_7 hfz46_8 hfz46_9
              try clear hfz49_0 hfz49_1 hfz49_10 hfz49_11 hfz49_12 hfz49_13 hfz49_14 hfz49_2 hfz49_3 hfz49_4 hfz49_5 hfz49_6 hfz49_7 hfz49_8 hfz49_9
              try clear hfz50_0 hfz50_1 hfz50_2
              try clear hfz51_0 hfz51_1 hfz51_10 hfz51_11 hfz51_12 hfz51_13 hfz51_14 hfz51_2 hfz51_3 hfz51_4 hfz51_5 hfz51_6 hfz51_7 hfz51_8 hfz51_9
              try clear hfz52_0 hfz52_1 hfz52_2 hfz52_3 hfz52_4 hfz52_5 hfz52_6 hfz52_7 hfz52_8
              try clear hfz67_0 hfz67_1 hfz67_10 hfz67_11 hfz67_12 hfz67_13 hfz67_14 hfz67_2 hfz67_3 hfz67_4 hfz67_5 hfz67_6 hfz67_7 hfz67_8 hfz67_9
              try clear p2
              try clear q3
              try clear q34
              obtain ⟨x110_2, rfl, HA, HK2, HO_108, HO_953014, HO_954007, HO_1010014, BK952, BK953, BK991, BK1009, HB⟩ := hrel
              cases gk with
              | zero => exact absurd HA.out (by simp [ddilaw36_DhcpLeases.l0])
              | succ k2 =>
               have H := HA.out
               clear HA
               simp only [ddilaw36_DhcpLeases.l0] at H
               by_cases c68 : x110_2 < (t968.length : Int)
               ·rw [if_pos c68] at H
                have c68b0 : decide (x110_2 < (t968.length : Int)) = true := decide_eq_true c68
                clear c68
                by_cases c69 : 0 ≤ x110_2
                ·rw [if_pos c69] at H
                 have c69b0 : decide (0 ≤ x110_2) = true := decide_eq_true c69
                 clear c69
                 by_cases c70 : x110_2 < (t968.length : Int)
                 ·rw [if_pos c70] at H
                  have c70b0 : decide (x110_2 < (t968.length : Int)) = true := decide_eq_true c70
                  clear c70
                  replace H := Option.bind_eq_some_iff.mp H
                  obtain ⟨⟨t1019, t1020⟩, A710, H⟩ := H
                  (try dsimp only at H)
                  have A71 := Aside0.mk A710
                  clear A710
                  replace H := Option.bind_eq_some_iff.mp H
                  obtain ⟨⟨t1021, t1022⟩, A720, H⟩ := H
                  (try dsimp only at H)
                  have A72 := Aside0.mk A720
                  clear A720
                  have HC73 := Aside0.mk H
                  clear H
                  have p1017 : 0 ≤ (x110_2 : Int) := of_decide_eq_true (by first | (with_reducible assumption) | assumption)
                  have q1017 : x110_2 < (t968.length : Int) := of_decide_eq_true (by first | (with_reducible assumption) | assumption)
                  obtain ⟨ad1017, e1017, hx1017_0, hx1017_1⟩ := at_T61 (Kd.R_reads' HO_108.out).2.2 x110_2 p1017 q1017
                  cases e1017
                  replace p1017 := eq_true p1017
                  replace q1017 := eq_true q1017
                  go_upto_region 17 with (first | ((with_reducible refine gate_dst (N := 14) rfl ?_); refine box_event ?hg (N := 14) ?hd (cs := #[.int .i64 0, .string (⟨#[]⟩ : ByteArray)]) (t := 61) ?hr ?_; (case hd => rfl); (case hg => rfl); (case hr => first | (go_simp; done) | (go_simp; rfl)); intro gb1018 hg w74 hbox hb; have n0_ := Aside0.mk (Kd.R_below (Kd.R_elderB (by (with_reducible repeat (first | apply Kd.R_alloc | apply Kd.R_drewN | apply Kd.R_drew)); exact HO_108.out) gb1018 (Nat.le_of_eq hg.symm)) hb); have n1_ := Aside0.mk (Kd.R_below (Kd.R_elderB (by (with_reducible repeat (first | apply Kd.R_alloc | apply Kd.R_drewN | apply Kd.R_drew)); exact HO_953014.out) gb1018 (Nat.le_of_eq hg.symm)) hb); have n2_ := Aside0.mk (Kd.R_below (Kd.R_elderB (by (with_reducible repeat (first | apply Kd.R_alloc | apply Kd.R_drewN | apply Kd.R_drew)); exact HO_954007.out) gb1018 (Nat.le_of_eq hg.symm)) hb); have n3_ := Aside0.mk (Kd.R_below (Kd.R_elderB (by (with_reducible repeat (first | apply Kd.R_alloc | apply Kd.R_drewN | apply Kd.R_drew)); exact HO_1010014.out) gb1018 (Nat.le_of_eq hg.symm)) hb); have n4_ := Aside0.mk (blk_below (bkx BK952.out) hb); have n5_ := Aside0.mk (blk_below (bkx BK953.out) hb); have n6_ := Aside0.mk (blk_below (bkx BK991.out) hb); have n7_ := Aside0.mk (blk_below (bkx BK1009.out) hb); have n8_ := Aside0.mk (below_step (hbx HB.out) hb); have n9_ := Aside0.mk (hbox); have n10_ := Aside0.mk ((by rw [hg]; exact (below_size (hbx HB.out)) : w.heap.size ≤ gb1018)); have n11_ := Aside0.mk ((by rw [hg]; exact (below_size (hbx HB.out)) : w.heap.size ≤ gb1018)); have n12_ := Aside0.mk ((by rw [hg]; exact Nat.ne_of_lt (blk_lt (bkx BK952.out)) : gb952 ≠ gb1018)); have n13_ := Aside0.mk ((by rw [hg]; exact Nat.ne_of_gt (blk_lt (bkx BK952.out)) : gb1018 ≠ gb952)); have n14_ := Aside0.mk ((by rw [hg]; exact Nat.ne_of_lt (blk_lt (bkx BK953.out)) : gb953 ≠ gb1018)); have n15_ := Aside0.mk ((by rw [hg]; exact Nat.ne_of_gt (blk_lt (bkx BK953.out)) : gb1018 ≠ gb953)); have n16_ := Aside0.mk ((by rw [hg]; exact Nat.ne_of_lt (blk_lt (bkx BK991.out)) : gb991 ≠ gb1018)); have n17_ := Aside0.mk ((by rw [hg]; exact Nat.ne_of_gt (blk_lt (bkx BK991.out)) : gb1018 ≠ gb991)); have n18_ := Aside0.mk ((by rw [hg]; exact Nat.ne_of_lt (blk_lt (bkx BK1009.out)) : gb1009 ≠ gb1018)); have n19_ := Aside0.mk ((by rw [hg]; exact Nat.ne_of_gt (blk_lt (bkx BK1009.out)) : gb1018 ≠ gb1009)); clear HO_108; clear HO_953014; clear HO_954007; clear HO_1010014; clear BK952; clear BK953; clear BK991; clear BK1009; clear HB; have HO_108 := n0_; have HO_953014 := n1_; have HO_954007 := n2_; have HO_1010014 := n3_; have BK952 := n4_; have BK953 := n5_; have BK991 := n6_; have BK1009 := n7_; have HB := n8_; have BK1018 := n9_; have GW1018 := n10_; have GE1018 := n11_; have NB952_1018 := n12_; have NB1018_952 := n13_; have NB953_1018 := n14_; have NB1018_953 := n15_; have NB991_1018 := n16_; have NB1018_991 := n17_; have NB1009_1018 := n18_; have NB1018_1009 := n19_; clear n0_ n1_ n2_ n3_ n4_ n5_ n6_ n7_ n8_ n9_ n10_ n11_ n12_ n13_ n14_ n15_ n16_ n17_ n18_ n19_; clear hb hbox hg; have hnb75 := NB1018_952.out; have hnc75 := NB952_1018.out; have hnb76 := NB1018_953.out; have hnc76 := NB953_1018.out; have hnb77 := NB1018_991.out; have hnc77 := NB991_1018.out; have hnb78 := NB1018_1009.out; have hnc78 := NB1009_1018.out; obtain ⟨⟨hcz79_0, hcz79_1⟩, hfz79_0, hfz79_1⟩ := cf2 BK1018.out; have hnb80 := NB1009_952.out; have hnc80 := NB952_1009.out; have hnb81 := NB1009_953.out; have hnc81 := NB953_1009.out; have hnb82 := NB1009_991.out; have hnc82 := NB991_1009.out; obtain ⟨⟨hcz83_0, hcz83_1, hcz83_2, hcz83_3, hcz83_4, hcz83_5, hcz83_6, hcz83_7, hcz83_8, hcz83_9, hcz83_10, hcz83_11, hcz83_12, hcz83_13, hcz83_14⟩, hfz83_0, hfz83_1, hfz83_2, hfz83_3, hfz83_4, hfz83_5, hfz83_6, hfz83_7, hfz83_8, hfz83_9, hfz83_10, hfz83_11, hfz83_12, hfz83_13, hfz83_14⟩ := cf15 BK1009.out) | ((with_reducible refine gate_callee (f := 19) rfl ?_); refine goesL_ (some 119) rfl rfl Tryd.func19 (by kernel_rfl) rfl #[.slice Ao47 t1006.length co47, .int .i64 ((rd_T61 t968 x110_2).f0)] rfl (by (try simp only [List.map_toArray, List.map_cons, List.map_nil]); first | done | rfl | (simp only [List.length_drop, List.length_take]; rfl)) ?_; (with_reducible refine (option_Find.calls k2 _ _ t1006 ((rd_T61 t968 x110_2).f0) t1019 t1020 _ ?side1 ?side2 A71.out).mono ?_); (case side1 => refine (Kd.R_reads' (e := 61) (base := w.heap.size) (ok := fun k_ => ((some k_ ≠ (.slice (some ad1017) t968.length co27 : Value).ownBlock ∧ (some k_ ≠ (.slice (some ad1017) t968.length co27 : Value).ownBlock ∧ some k_ ≠ (.slice Ao30 y988.length co30 : Value).ownBlock)) ∧ k_ ≠ gb1018)) (n := t1006.length) (c := co47) ?_).2.2; exact (by (with_reducible repeat (first | apply Kd.R_alloc | apply Kd.R_drewN | apply Kd.R_drew)); exact (Kd.R_mono (Kd.R_far (p := ⟨gb1018, 1, none⟩) (Kd.R_far (p := ⟨gb1018, 0, none⟩) (Kd.R_mono HO_1010014.out (fun k_ hk => (⟨hk, hk.2⟩ : _ ∧ k_ ≠ gb1018))) (fun _ hk => hk.2) (.int .i64 ((rd_T61 t968 x110_2).f0))) (fun _ hk => hk.2) (.string ((rd_T61 t968 x110_2).f1))) (fun _ h_ => h_.1)))); (case side2 => exact (Kd.R_reads' HO_1010014.out).2.1); rintro e w84 ⟨rfl, hb⟩; refine ⟨_, rfl, ?_⟩; have n0_ := Aside0.mk (Kd.R_below (by (with_reducible repeat (first | apply Kd.R_alloc | apply Kd.R_drewN | apply Kd.R_drew)); exact (Kd.R_mono (Kd.R_far (p := ⟨gb1018, 1, none⟩) (Kd.R_far (p := ⟨gb1018, 0, none⟩) (Kd.R_mono HO_108.out (fun k_ hk => (⟨hk, hk.2⟩ : _ ∧ k_ ≠ gb1018))) (fun _ hk => hk.2) (.int .i64 ((rd_T61 t968 x110_2).f0))) (fun _ hk => hk.2) (.string ((rd_T61 t968 x110_2).f1))) (fun _ h_ => h_.1))) hb); have n1_ := Aside0.mk (Kd.R_below (by (with_reducible repeat (first | apply Kd.R_alloc | apply Kd.R_drewN | apply Kd.R_drew)); exact (Kd.R_mono (Kd.R_far (p := ⟨gb1018, 1, none⟩) (Kd.R_far (p := ⟨gb1018, 0, none⟩) (Kd.R_mono HO_953014.out (fun k_ hk => (⟨hk, hk.2⟩ : _ ∧ k_ ≠ gb1018))) (fun _ hk => hk.2) (.int .i64 ((rd_T61 t968 x110_2).f0))) (fun _ hk => hk.2) (.string ((rd_T61 t968 x110_2).f1))) (fun _ h_ => h_.1))) hb); have n2_ := Aside0.mk (Kd.R_below (by (with_reducible repeat (first | apply Kd.R_alloc | apply Kd.R_drewN | apply Kd.R_drew)); exact (Kd.R_mono (Kd.R_far (p := ⟨gb1018, 1, none⟩) (Kd.R_far (p := ⟨gb1018, 0, none⟩) (Kd.R_mono HO_954007.out (fun k_ hk => (⟨hk, hk.2⟩ : _ ∧ k_ ≠ gb1018))) (fun _ hk => hk.2) (.int .i64 ((rd_T61 t968 x110_2).f0))) (fun _ hk => hk.2) (.string ((rd_T61 t968 x110_2).f1))) (fun _ h_ => h_.1))) hb); have n3_ := Aside0.mk (Kd.R_below (by (with_reducible repeat (first | apply Kd.R_alloc | apply Kd.R_drewN | apply Kd.R_drew)); exact (Kd.R_mono (Kd.R_far (p := ⟨gb1018, 1, none⟩) (Kd.R_far (p := ⟨gb1018, 0, none⟩) (Kd.R_mono HO_1010014.out (fun k_ hk => (⟨hk, hk.2⟩ : _ ∧ k_ ≠ gb1018))) (fun _ hk => hk.2) (.int .i64 ((rd_T61 t968 x110_2).f0))) (fun _ hk => hk.2) (.string ((rd_T61 t968 x110_2).f1))) (fun _ h_ => h_.1))) hb); have n4_ := Aside0.mk (blk_below (bkx BK952.out) hb); have n5_ := Aside0.mk (blk_below (bkx BK953.out) hb); have n6_ := Aside0.mk (blk_below (bkx BK991.out) hb); have n7_ := Aside0.mk (blk_below (bkx BK1009.out) hb); have n8_ := Aside0.mk (blk_below (g := gb1018) (o := .cells #[.int .i64 ((rd_T61 t968 x110_2).f0), .string ((rd_T61 t968 x110_2).f1)] 61 (0, 0)) (by (with_reducible repeat (first | refine blk_drewN ?_ _ | refine blk_drew ?_ | refine blk_alloc ?_ _)); refine blk_put (cs := #[.int .i64 ((rd_T61 t968 x110_2).f0), .string (⟨#[]⟩ : ByteArray)]) ?_ 1 _ rfl; (with_reducible repeat (first | refine blk_drewN ?_ _ | refine blk_drew ?_ | refine blk_alloc ?_ _)); refine blk_put (cs := #[.int .i64 0, .string (⟨#[]⟩ : ByteArray)]) ?_ 0 _ rfl; (with_reducible repeat (first | refine blk_drewN ?_ _ | refine blk_drew ?_ | refine blk_alloc ?_ _)); exact BK1018.out) hb); have n9_ := Aside0.mk (below_step (hbx HB.out) hb); clear HO_108; clear HO_953014; clear HO_954007; clear HO_1010014; clear BK952; clear BK953; clear BK991; clear BK1009; clear BK1018; clear HB; have HO_108 := n0_; have HO_953014 := n1_; have HO_954007 := n2_; have HO_1010014 := n3_; have BK952 := n4_; have BK953 := n5_; have BK991 := n6_; have BK1009 := n7_; have BK1018 := n8_; have HB := n9_; clear n0_ n1_ n2_ n3_ n4_ n5_ n6_ n7_ n8_ n9_; (try clear hb); (try clear hb2); (try clear hk); (try clear hi); have hnb85 := NB952_953.out; have hnc85 := NB953_952.out; have hnb86 := NB952_991.out; have hnc86 := NB991_952.out; obtain ⟨⟨hcz87_0, hcz87_1, hcz87_2, hcz87_3, hcz87_4, hcz87_5, hcz87_6, hcz87_7, hcz87_8, hcz87_9, hcz87_10, hcz87_11, hcz87_12, hcz87_13, hcz87_14⟩, hfz87_0, hfz87_1, hfz87_2, hfz87_3, hfz87_4, hfz87_5, hfz87_6, hfz87_7, hfz87_8, hfz87_9, hfz87_10, hfz87_11, hfz87_12, hfz87_13, hfz87_14⟩ := cf15 BK952.out; obtain ⟨⟨hcz88_0, hcz88_1⟩, hfz88_0, hfz88_1⟩ := cf2 BK1018.out) | ((with_reducible refine gate_callee (f := 19) rfl ?_); refine goesL_ (some 127) rfl rfl Tryd.func19 (by kernel_rfl) rfl #[.slice (some ad1017) t968.length co27, .int .i64 ((rd_T61 t968 x110_2).f0)] rfl (by (try simp only [List.map_toArray, List.map_cons, List.map_nil]); first | done | rfl | (simp only [List.length_drop, List.length_take]; rfl)) ?_; (with_reducible refine (option_Find.calls k2 _ _ t968 ((rd_T61 t968 x110_2).f0) t1021 t1022 _ ?side1 ?side2 A72.out).mono ?_); (case side1 => repeat (first | exact (Kd.R_reads' HO_953014.out).2.2 | (with_reducible refine Kd.C_alloc ?_ _) | (with_reducible refine Kd.C_drewN ?_ _) | (with_reducible refine Kd.C_drew ?_))); (case side2 => exact (Kd.R_reads' HO_953014.out).2.1); rintro e w89 ⟨rfl, hb⟩; refine ⟨_, rfl, ?_⟩; have n0_ := Aside0.mk (Kd.R_below (by (with_reducible repeat (first | apply Kd.R_alloc | apply Kd.R_drewN | apply Kd.R_drew)); exact HO_108.out) hb); have n1_ := Aside0.mk (Kd.R_below (by (with_reducible repeat (first | apply Kd.R_alloc | apply Kd.R_drewN | apply Kd.R_drew)); exact HO_953014.out) hb); have n2_ := Aside0.mk (Kd.R_below (by (with_reducible repeat (first | apply Kd.R_alloc | apply Kd.R_drewN | apply Kd.R_drew)); exact HO_954007.out) hb); have n3_ := Aside0.mk (Kd.R_below (by (with_reducible repeat (first | apply Kd.R_alloc | apply Kd.R_drewN | apply Kd.R_drew)); exact HO_1010014.out) hb); have n4_ := Aside0.mk (blk_below (bkx BK952.out) hb); have n5_ := Aside0.mk (blk_below (bkx BK953.out) hb); have n6_ := Aside0.mk (blk_below (bkx BK991.out) hb); have n7_ := Aside0.mk (blk_below (bkx BK1009.out) hb); have n8_ := Aside0.mk (blk_below (bkx BK1018.out) hb); have n9_ := Aside0.mk (below_step (hbx HB.out) hb); clear HO_108; clear HO_953014; clear HO_954007; clear HO_1010014; clear BK952; clear BK953; clear BK991; clear BK1009; clear BK1018; clear HB; have HO_108 := n0_; have HO_953014 := n1_; have HO_954007 := n2_; have HO_1010014 := n3_; have BK952 := n4_; have BK953 := n5_; have BK991 := n6_; have BK1009 := n7_; have BK1018 := n8_; have HB := n9_; clear n0_ n1_ n2_ n3_ n4_ n5_ n6_ n7_ n8_ n9_; (try clear hb); (try clear hb2); (try clear hk); (try clear hi)))
                  (try simp only [Act.put, List.setIfInBounds_toArray, List.set_cons_zero, List.set_cons_succ])
                  go_cut [152] (fun v152 wc => ∃ (kq : Nat) (x152_72 : Bool), v152 = .bool x152_72 ∧ Aside0 (ddilaw36_DhcpLeases.j2 kq t968 (t968.length : Int) x110_2 x152_72 t954 t955 t956 t957 t958 t959 t960 t961 t962 t963 t964 t965 t966 t967 t968 t992 t993 t994 t995 t996 t997 t998 t999 t1000 t1001 t1002 t1003 t1004 t1005 t1006 = some r) ∧ Aside0 (kq ≤ k2) ∧ Aside0 (Kd.R k61 61 wc w.heap.size (fun k_ => some k_ ≠ ((.slice Ao30 y988.length co30) : Value).ownBlock ∧ some k_ ≠ ((.slice Ao47 t1006.length co47) : Value).ownBlock ∧ k_ ≠ gb1018) (.slice (some ad1017) t968.length co27) t968) ∧ Aside0 (Kd.R k61 61 wc w.heap.size (fun k_ => some k_ ≠ ((.slice Ao30 y988.length co30) : Value).ownBlock ∧ some k_ ≠ ((.slice Ao47 t1006.length co47) : Value).ownBlock ∧ k_ ≠ gb1018) (.slice (some ad1017) t968.length co27) t968) ∧ Aside0 (Kd.R k61 61 wc w.heap.size (fun k_ => some k_ ≠ ((.slice (some ad1017) t968.length co27) : Value).ownBlock ∧ some k_ ≠ ((.slice (some ad1017) t968.length co27) : Value).ownBlock ∧ some k_ ≠ ((.slice Ao47 t1006.length co47) : Value).ownBlock ∧ k_ ≠ gb1018) (.slice Ao30 y988.length co30) y988) ∧ Aside0 (Kd.R k61 61 wc w.heap.size (fun k_ => some k_ ≠ ((.slice (some ad1017) t968.length co27) : Value).ownBlock ∧ some k_ ≠ ((.slice (some ad1017) t968.length co27) : Value).ownBlock ∧ some k_ ≠ ((.slice Ao30 y988.length co30) : Value).ownBlock ∧ k_ ≠ gb1018) (.slice Ao47 t1006.length co47) t1006) ∧ Aside0 (wc.heap[gb952]? = some (.cells #[.int .i64 t954, .int .i64 t955, .int .i64 t956, .string t957, .bool t958, .int .u64 t959, .int .u64 t960, .bool t961, .int .u64 t962, .int .u64 t963, .bool t964, .int .u64 t965, .int .u64 t966, .bool t967, (.slice (some ad1017) t968.length co27)] 27 (0, 0))) ∧ Aside0 (wc.heap[gb953]? = some (.cells #[.bool a2_0, .int .u64 a2_1, .int .u64 a2_2, .int .i64 a2_3, .string a2_4, (.slice A2_5 l2_5.length c2_5), (.slice A2_6 l2_6.length c2_6), (.slice Ao30 y988.length co30), .int .i64 ji10] 53 (0, 0))) ∧ Aside0 (wc.heap[gb991]? = some (.cells #[.bool false, .int .u64 0, .int .u64 (IntKind.u64.wrap (a1))] 24 (0, 0))) ∧ Aside0 (wc.heap[gb1009]? = some (.cells #[.int .i64 t992, .int .i64 t993, .int .i64 t994, .string t995, .bool t996, .int .u64 t997, .int .u64 t998, .bool t999, .int .u64 t1000, .int .u64 t1001, .bool t1002, .int .u64 t1003, .int .u64 t1004, .bool t1005, (.slice Ao47 t1006.length co47)] 27 (0, 0))) ∧ Aside0 (wc.heap[gb1018]? = some (.cells #[.int .i64 ((rd_T61 t968 x110_2).f0), .string ((rd_T61 t968 x110_2).f1)] 61 (0, 0))) ∧ Aside0 (Below w.heap.size w wc))
                  case first => as_aux_lemma =>
                   have H := HC73.out
                   clear HC73
                   by_cases c90 : ((rd_T61 t968 x110_2).f0) = 51
                   ·rw [if_pos c90] at H
                    have c90b0 : (((rd_T61 t968 x110_2).f0) == 51) = true := beq_iff_eq.mpr c90
                    have c90b1 : (((rd_T61 t968 x110_2).f0) != 51) = false := bne_eq_false_iff_eq.mpr c90
                    clear c90
                    (first | rw [c90b0] | (simp only [i64_w, i32_w]; rw [c90b0]) | skip)
                    have H' := Aside0.mk H
                    clear H
                    have hnb91 := NB1018_952.out
                    have hnc91 := NB952_1018.out
                    have hnb92 := NB1018_953.out
                    have hnc92 := NB953_1018.out
                    have hnb93 := NB1018_991.out
                    have hnc93 := NB991_1018.out
                    have hnb94 := NB1018_1009.out
                    have hnc94 := NB1009_1018.out
                    obtain ⟨⟨hcz95_0, hcz95_1⟩, hfz95_0, hfz95_1⟩ := cf2 BK1018.out
                    go_wp2
                    go_meet
                    case rel => exact ⟨_, (false), (by first | rfl | (simp; done) | (simp [*]; done)), H', ⟨by have := HJ19.out; have := HK2.out; first | omega | exact Nat.le_refl _⟩, ⟨by (with_reducible repeat (first | apply Kd.R_alloc | apply Kd.R_drewN | apply Kd.R_drew)); exact Kd.R_mono HO_108.out (fun _ hk => ⟨hk.1.1, ⟨hk.1.2, hk.2⟩⟩)⟩, ⟨by (with_reducible repeat (first | apply Kd.R_alloc | apply Kd.R_drewN | apply Kd.R_drew)); exact Kd.R_mono HO_953014.out (fun _ hk => ⟨hk.1.1, ⟨hk.1.2, hk.2⟩⟩)⟩, ⟨by (with_reducible repeat (first | apply Kd.R_alloc | apply Kd.R_drewN | apply Kd.R_drew)); exact Kd.R_mono HO_954007.out (fun _ hk => ⟨hk.1.1, ⟨hk.1.2.1, ⟨hk.1.2.2, hk.2⟩⟩⟩)⟩, ⟨by (with_reducible repeat (first | apply Kd.R_alloc | apply Kd.R_drewN | apply Kd.R_drew)); exact Kd.R_mono HO_1010014.out (fun _ hk => ⟨hk.1.1, ⟨hk.1.2.1, ⟨hk.1.2.2, hk.2⟩⟩⟩)⟩, ⟨bkx BK952.out⟩, ⟨bkx BK953.out⟩, ⟨bkx BK991.out⟩, ⟨bkx BK1009.out⟩, ⟨bkx BK1018.out⟩, ⟨hbx HB.out⟩⟩
                   ·rw [if_neg c90] at H
                    have c90b0 : (((rd_T61 t968 x110_2).f0) == 51) = false := beq_eq_false_iff_ne.mpr c90
                    have c90b1 : (((rd_T61 t968 x110_2).f0) != 51) = true := bne_iff_ne.mpr c90
                    (first | rw [c90b0] | (simp only [i64_w, i32_w]; rw [c90b0]) | skip)
                    by_cases c96 : ((rd_T61 t968 x110_2).f0) = 58
                    ·rw [if_pos c96] at H
                     have c96b0 : (((rd_T61 t968 x110_2).f0) == 58) = true := beq_iff_eq.mpr c96
                     have c96b1 : (((rd_T61 t968 x110_2).f0) != 58) = false := bne_eq_false_iff_eq.mpr c96
                     clear c96
                     have H' := Aside0.mk H
                     clear H
                     have hnb97 := NB1018_952.out
                     have hnc97 := NB952_1018.out
                     have hnb98 := NB1018_953.out
                     have hnc98 := NB953_1018.out
                     have hnb99 := NB1018_991.out
                     have hnc99 := NB991_1018.out
                     have hnb100 := NB1018_1009.out
                     have hnc100 := NB1009_1018.out
                     obtain ⟨⟨hcz101_0, hcz101_1⟩, hfz101_0, hfz101_1⟩ := cf2 BK1018.out
                     go_wp2
                     go_meet
                     case rel => exact ⟨_, (false), (by first | rfl | (simp; done) | (simp [*]; done)), H', ⟨by have := HJ19.out; have := HK2.out; first | omega | exact Nat.le_refl _⟩, ⟨by (with_reducible repeat (first | apply Kd.R_alloc | apply Kd.R_drewN | apply Kd.R_drew)); exact Kd.R_mono HO_108.out (fun _ hk => ⟨hk.1.1, ⟨hk.1.2, hk.2⟩⟩)⟩, ⟨by (with_reducible repeat (first | apply Kd.R_alloc | apply Kd.R_drewN | apply Kd.R_drew)); exact Kd.R_mono HO_953014.out (fun _ hk => ⟨hk.1.1, ⟨hk.1.2, hk.2⟩⟩)⟩, ⟨by (with_reducible repeat (first | apply Kd.R_alloc | apply Kd.R_drewN | apply Kd.R_drew)); exact Kd.R_mono HO_954007.out (fun _ hk => ⟨hk.1.1, ⟨hk.1.2.1, ⟨hk.1.2.2, hk.2⟩⟩⟩)⟩, ⟨by (with_reducible repeat (first | apply Kd.R_alloc | apply Kd.R_drewN | apply Kd.R_drew)); exact Kd.R_mono HO_1010014.out (fun _ hk => ⟨hk.1.1, ⟨hk.1.2.1, ⟨hk.1.2.2, hk.2⟩⟩⟩)⟩, ⟨bkx BK952.out⟩, ⟨bkx BK953.out⟩, ⟨bkx BK991.out⟩, ⟨bkx BK1009.out⟩, ⟨bkx BK1018.out⟩, ⟨hbx HB.out⟩⟩
                    ·rw [if_neg c96] at H
                     have c96b0 : (((rd_T61 t968 x110_2).f0) == 58) = false := beq_eq_false_iff_ne.mpr c96
                     have c96b1 : (((rd_T61 t968 x110_2).f0) != 58) = true := bne_iff_ne.mpr c96
                     by_cases c102 : ((rd_T61 t968 x110_2).f0) = 59
                     ·rw [if_pos c102] at H
                      have c102b0 : (((rd_T61 t968 x110_2).f0) == 59) = true := beq_iff_eq.mpr c102
                      have c102b1 : (((rd_T61 t968 x110_2).f0) != 59) = false := bne_eq_false_iff_eq.mpr c102
                      clear c102
                      have H' := Aside0.mk H
                      clear H
                      have hnb103 := NB1018_952.out
                      have hnc103 := NB952_1018.out
                      have hnb104 := NB1018_953.out
                      have hnc104 := NB953_1018.out
                      have hnb105 := NB1018_991.out
                      have hnc105 := NB991_1018.out
                      have hnb106 := NB1018_1009.out
                      have hnc106 := NB1009_1018.out
                      obtain ⟨⟨hcz107_0, hcz107_1⟩, hfz107_0, hfz107_1⟩ := cf2 BK1018.out
                      go_wp2
                      go_meet
                      case rel => exact ⟨_, (false), (by first | rfl | (simp; done) | (simp [*]; done)), H', ⟨by have := HJ19.out; have := HK2.out; first | omega | exact Nat.le_refl _⟩, ⟨by (with_reducible repeat (first | apply Kd.R_alloc | apply Kd.R_drewN | apply Kd.R_drew)); exact Kd.R_mono HO_108.out (fun _ hk => ⟨hk.1.1, ⟨hk.1.2, hk.2⟩⟩)⟩, ⟨by (with_reducible repeat (first | apply Kd.R_alloc | apply Kd.R_drewN | apply Kd.R_drew)); exact Kd.R_mono HO_953014.out (fun _ hk => ⟨hk.1.1, ⟨hk.1.2, hk.2⟩⟩)⟩, ⟨by (with_reducible repeat (first | apply Kd.R_alloc | apply Kd.R_drewN | apply Kd.R_drew)); exact Kd.R_mono HO_954007.out (fun _ hk => ⟨hk.1.1, ⟨hk.1.2.1, ⟨hk.1.2.2, hk.2⟩⟩⟩)⟩, ⟨by (with_reducible repeat (first | apply Kd.R_alloc | apply Kd.R_drewN | apply Kd.R_drew)); exact Kd.R_mono HO_1010014.out (fun _ hk => ⟨hk.1.1, ⟨hk.1.2.1, ⟨hk.1.2.2, hk.2⟩⟩⟩)⟩, ⟨bkx BK952.out⟩, ⟨bkx BK953.out⟩, ⟨bkx BK991.out⟩, ⟨bkx BK1009.out⟩, ⟨bkx BK1018.out⟩, ⟨hbx HB.out⟩⟩
                     ·rw [if_neg c102] at H
                      have c102b0 : (((rd_T61 t968 x110_2).f0) == 59) = false := beq_eq_false_iff_ne.mpr c102
                      have c102b1 : (((rd_T61 t968 x110_2).f0) != 59) = true := bne_iff_ne.mpr c102
                      by_cases c108 : (t1020 != t1022) = true
                      ·rw [if_pos c108] at H
                       have c108b0 : (t1020 != t1022) = true := c108
                       (try (have c108b1 : decide (t1020 = t1022) = false := by simpa using c108))
                       (try (have c108b2 : (t1020 == t1022) = false := by simpa using c108))
                       (try (have c108b3 : ¬ (t1020 = t1022) := by simpa using c108))
                       clear c108
                       have H' := Aside0.mk H
                       clear H
                       have hnb109 := NB1018_952.out
                       have hnc109 := NB952_1018.out
                       have hnb110 := NB1018_953.out
                       have hnc110 := NB953_1018.out
                       have hnb111 := NB1018_991.out
                       have hnc111 := NB991_1018.out
                       have hnb112 := NB1018_1009.out
                       have hnc112 := NB1009_1018.out
                       obtain ⟨⟨hcz113_0, hcz113_1⟩, hfz113_0, hfz113_1⟩ := cf2 BK1018.out
                       go_wp2
                       go_meet
                       case rel => exact ⟨_, (true), (by first | rfl | (simp; done) | (simp [*]; done)), H', ⟨by have := HJ19.out; have := HK2.out; first | omega | exact Nat.le_refl _⟩, ⟨by (with_reducible repeat (first | apply Kd.R_alloc | apply Kd.R_drewN | apply Kd.R_drew)); exact Kd.R_mono HO_108.out (fun _ hk => ⟨hk.1.1, ⟨hk.1.2, hk.2⟩⟩)⟩, ⟨by (with_reducible repeat (first | apply Kd.R_alloc | apply Kd.R_drewN | apply Kd.R_drew)); exact Kd.R_mono HO_953014.out (fun _ hk => ⟨hk.1.1, ⟨hk.1.2, hk.2⟩⟩)⟩, ⟨by (with_reducible repeat (first | apply Kd.R_alloc | apply Kd.R_drewN | apply Kd.R_drew)); exact Kd.R_mono HO_954007.out (fun _ hk => ⟨hk.1.1, ⟨hk.1.2.1, ⟨hk.1.2.2, hk.2⟩⟩⟩)⟩, ⟨by (with_reducible repeat (first | apply Kd.R_alloc | apply Kd.R_drewN | apply Kd.R_drew)); exact Kd.R_mono HO_1010014.out (fun _ hk => ⟨hk.1.1, ⟨hk.1.2.1, ⟨hk.1.2.2, hk.2⟩⟩⟩)⟩, ⟨bkx BK952.out⟩, ⟨bkx BK953.out⟩, ⟨bkx BK991.out⟩, ⟨bkx BK1009.out⟩, ⟨bkx BK1018.out⟩, ⟨hbx HB.out⟩⟩
                      ·rw [if_neg c108] at H
                       have c108b0 : (t1020 != t1022) = false := by simpa using c108
                       (try (have c108b1 : decide (t1020 = t1022) = true := by simpa using c108))
                       (try (have c108b2 : (t1020 == t1022) = true := by simpa using c108))
                       clear c108
                       have H' := Aside0.mk H
                       clear H
                       have hnb114 := NB1018_952.out
                       have hnc114 := NB952_1018.out
                       have hnb115 := NB1018_953.out
                       have hnc115 := NB953_1018.out
                       have hnb116 := NB1018_991.out
                       have hnc116 := NB991_1018.out
                       have hnb117 := NB1018_1009.out
                       have hnc117 := NB1009_1018.out
                       obtain ⟨⟨hcz118_0, hcz118_1⟩, hfz118_0, hfz118_1⟩ := cf2 BK1018.out
                       go_wp2
                       go_meet
                       case rel => exact ⟨_, ((t1019.toList != t1021.toList)), (by first | rfl | (simp; done) | (simp [*]; done)), H', ⟨by have := HJ19.out; have := HK2.out; first | omega | exact Nat.le_refl _⟩, ⟨by (with_reducible repeat (first | apply Kd.R_alloc | apply Kd.R_drewN | apply Kd.R_drew)); exact Kd.R_mono HO_108.out (fun _ hk => ⟨hk.1.1, ⟨hk.1.2, hk.2⟩⟩)⟩, ⟨by (with_reducible repeat (first | apply Kd.R_alloc | apply Kd.R_drewN | apply Kd.R_drew)); exact Kd.R_mono HO_953014.out (fun _ hk => ⟨hk.1.1, ⟨hk.1.2, hk.2⟩⟩)⟩, ⟨by (with_reducible repeat (first | apply Kd.R_alloc | apply Kd.R_drewN | apply Kd.R_drew)); exact Kd.R_mono HO_954007.out (fun _ hk => ⟨hk.1.1, ⟨hk.1.2.1, ⟨hk.1.2.2, hk.2⟩⟩⟩)⟩, ⟨by (with_reducible repeat (first | apply Kd.R_alloc | apply Kd.R_drewN | apply Kd.R_drew)); exact Kd.R_mono HO_1010014.out (fun _ hk => ⟨hk.1.1, ⟨hk.1.2.1, ⟨hk.1.2.2, hk.2⟩⟩⟩)⟩, ⟨bkx BK952.out⟩, ⟨bkx BK953.out⟩, ⟨bkx BK991.out⟩, ⟨bkx BK1009.out⟩, ⟨bkx BK1018.out⟩, ⟨hbx HB.out⟩⟩
                  case rest => as_aux_lemma =>
                   clear HC73
                   try clear c1
                   try clear p1
                   try clear q1
                   try clear hx1
                   try clear c2
                   try clear p2
                   try clear c3
                   try clear q3
                   try clear c4
                   try clear c5
                   try clear c6
                   try clear c7
                   try clear c7b0
                   try clear c7b1
                   try clear c8
                   try clear c8b0
                   try clear c8b1
                   try clear c9
                   try clear c10
                   try clear p10
                   try clear q10
                   try clear hx10
                   try clear c11
                   try clear c13
                   try clear c13b0
                   try clear c14
                   try clear c14b0
                   try clear c14b1
                   try clear c15
                   try clear c15b0
                   try clear c15b1
                   try clear c16
                   try clear c16b0
                   try clear c16b1
                   try clear c17
                   try clear c17b0
                   try clear c17b1
                   try clear c18
                   try clear c18b0
                   try clear c18b1
                   try clear c19
                   try clear c20
                   try clear c23
                   try clear c26
                   try clear c28
                   try clear q34
                   try clear c36
                   try clear c37
                   try clear c43
                   try clear c44
                   try clear c45
                   try clear c54
                   try clear c63
                   try clear c64
                   try clear c65
                   try clear c66
                   try clear c68
                   try clear c68b0
                   try clear c69
                   try clear c69b0
                   try clear c70
                   try clear c70b0
                   try clear c75
                   try clear c76
                   try clear c77
                   try clear c78
                   try clear c80
                   try clear c81
                   try clear c82
                   try clear c85
                   try clear c86
                   try clear c90
                   try clear c90b0
                   try clear c90b1
                   try clear c91
                   try clear c92
                   try clear c93
                   try clear c94
                   try clear c96
                   try clear c96b0
                   try clear c96b1
                   try clear c97
                   try clear c98
                   try clear c99
                   try clear c100
                   try clear p101
                   try clear q101
                   try clear hx101
                   try clear c102
                   try clear c102b0
                   try clear c102b1
                   try clear c103
                   try clear c104
                   try clear c105
                   try clear c106
                   try clear c108
                   try clear c108b0
                   try clear c108b1
                   try clear c108b2
                   try clear c109
                   try clear c110
                   try clear c111
                   try clear c112
                   try clear c114
                   try clear c115
                   try clear c116
                   try clear c117
                   try clear hcz101_0 hcz101_1
                   try clear hcz107_0 hcz107_1
                   try clear hcz113_0 hcz113_1
                   try clear hcz118_0 hcz118_1
                   try clear hcz24_0 hcz24_1 hcz24_10 hcz24_11 hcz24_12 hcz24_13 hcz24_14 hcz24_2 hcz24_3 hcz24_4 hcz24_5 hcz24_6 hcz24_7 hcz24_8 hcz24_9
                   try clear hcz26_0 hcz26_1 hcz26_10 hcz26_11 hcz26_12 hcz26_13 hcz26_14 hcz26_2 hcz26_3 hcz26_4 hcz26_5 hcz26_6 hcz26_7 hcz26_8 hcz26_9
                   try clear hcz28_0 hcz28_1 hcz28_2 hcz28_3 hcz28_4 hcz28_5 hcz28_6 hcz28_7 hcz28_8
                   try clear hcz31_0 hcz31_1 hcz31_2 hcz31_3 hcz31_4 hcz31_5 hcz31_6 hcz31_7 hcz31_8
                   try clear hcz33_0 hcz33_1 hcz33_2 hcz33_3 hcz33_4 hcz33_5 hcz33_6 hcz33_7 hcz33_8
                   try clear hcz38_0 hcz38_1 hcz38_2
                   try clear hcz39_0 hcz39_1 hcz39_2 hcz39_3 hcz39_4 hcz39_5 hcz39_6 hcz39_7 hcz39_8
                   try clear hcz40_0 hcz40_1 hcz40_10 hcz40_11 hcz40_12 hcz40_13 hcz40_14 hcz40_2 hcz40_3 hcz40_4 hcz40_5 hcz40_6 hcz40_7 hcz40_8 hcz40_9
                   try clear hcz46_0 hcz46_1 hcz46_10 hcz46_11 hcz46_12 hcz46_13 hcz46_14 hcz46_2 hcz46_3 hcz46_4 hcz46_5 hcz46_6 hcz46_7 hcz46_8 hcz46_9
                   try clear hcz49_0 hcz49_1 hcz49_10 hcz49_11 hcz49_12 hcz49_13 hcz49_14 hcz49_2 hcz49_3 hcz49_4 hcz49_5 hcz49_6 hcz49_7 hcz49_8 hcz49_9
                   try clear hcz50_0 hcz50_1 hcz50_2
                   try clear hcz51_0 hcz51_1 hcz51_10 hcz51_11 hcz51_12 hcz51_13 hcz51_14 hcz51_2 hcz51_3 hcz51_4 hcz51_5 hcz51_6 hcz51_7 hcz51_8 hcz51_9
                   try clear hcz52_0 hcz52_1 hcz52_2 hcz52_3 hcz52_4 hcz52_5 hcz52_6 hcz52_7 hcz52_8
                   try clear hcz67_0 hcz67_1 hcz67_10 hcz67_11 hcz67_12 hcz67_13 hcz67_14 hcz67_2 hcz67_3 hcz67_4 hcz67_5 hcz67_6 hcz67_7 hcz67_8 hcz67_9
                   try clear hcz79_0 hcz79_1
                   try clear hcz83_0 hcz83_1 hcz83_10 hcz83_11 hcz83_12 hcz83_13 hcz83_14 hcz83_2 hcz83_3 hcz83_4 hcz83_5 hcz83_6 hcz83_7 hcz83_8 hcz83_9
                   try clear hcz87_0 hcz87_1 hcz87_10 hcz87_11 hcz87_12 hcz87_13 hcz87_14 hcz87_2 hcz87_3 hcz87_4 hcz87_5 hcz87_6 hcz87_7 hcz87_8 hcz87_9
                   try clear hcz88_0 hcz88_1
                   try clear hcz95_0 hcz95_1
                   try clear hfz101_0 hfz101_1
                   try clear hfz107_0 hfz107_1
                   try clear hfz113_0 hfz113_1
                   try clear hfz118_0 hfz118_1
                   try clear hfz24_0 hfz24_1 hfz24_10 hfz24_11 hfz24_12 hfz24_13 hfz24_14 hfz24_2 hfz24_3 hfz24_4 hfz24_5 hfz24_6 hfz24_7 hfz24_8 hfz24_9
                   try clear hfz26_0 hfz26_1 hfz26_10 hfz26_11 hfz26_12 hfz26_13 hfz26_14 hfz26_2 hfz26_3 hfz26_4 hfz26_5 hfz26_6 hfz26_7 hfz26_8 hfz26_9
                   try clear hfz28_0 hfz28_1 hfz28_2 hfz28_3 hfz28_4 hfz28_5 hfz28_6 hfz28_7 hfz28_8
                   try clear hfz31_0 hfz31_1 hfz31_2 hfz31_3 hfz31_4 hfz31_5 hfz31_6 hfz31_7 hfz31_8
                   try clear hfz33_0 hfz33_1 hfz33_2 hfz33_3 hfz33_4 hfz33_5 hfz33_6 hfz33_7 hfz33_8
                   try clear hfz38_0 hfz38_1 hfz38_2
                   try clear hfz39_0 hfz39_1 hfz39_2 hfz39_3 hfz39_4 hfz39_5 hfz39_6 hfz39_7 hfz39_8
                   try clear hfz40_0 hfz40_1 hfz40_10 hfz40_11 hfz40_12 hfz40_13 hfz40_14 hfz40_2 hfz40_3 hfz40_4 hfz40_5 hfz40_6 hfz40_7 hfz40_8 hfz40_9
                   try clear hfz46_0 hfz46_1 hfz46_10 hfz46_11 hfz46_12 hfz46_13 hfz46_14 hfz46_2 hfz46_3 hfz46_4 hfz46_5 hfz46_6 hfz46_7 hfz46_8 hfz46_9
                   try clear hfz49_0 hfz49_1 hfz49_10 hfz49_11 hfz49_12 hfz49_13 hfz49_14 hfz49_2 hfz49_3 hfz49_4 hfz49_5 hfz49_6 hfz49_7 hfz49_8 hfz49_9
                   try clear hfz50_0 hfz50_1 hfz50_2
                   try clear hfz51_0 hfz51_1 hfz51_10 hfz51_11 hfz51_12 hfz51_13 hfz51_14 hfz51_2 hfz51_3 hfz51_4 hfz51_5 hfz51_6 hfz51_7 hfz51_8 hfz51_9
                   try clear hfz52_0 hfz52_1 hfz52_2 hfz52_3 hfz52_4 hfz52_5 hfz52_6 hfz52_7 hfz52_8
                   try clear hfz67_0 hfz67_1 hfz67_10 hfz67_11 hfz67_12 hfz67_13 hfz67_14 hfz67_2 hfz67_3 hfz67_4 hfz67_5 hfz67_6 hfz67_7 hfz67_8 hfz67_9
                   try clear hfz79_0 hfz79_1
                   try clear hfz83_0 hfz83_1 hfz83_10 hfz83_11 hfz83_12 hfz83_13 hfz83_14 hfz83_2 hfz83_3 hfz83_4 hfz83_5 hfz83_6 hfz83_7 hfz83_8 hfz83_9
                   try clear hfz87_0 hfz87_1 hfz87_10 hfz87_11 hfz87_12 hfz87_13 hfz87_14 hfz87_2 hfz87_3 hfz87_4 hfz87_5 hfz87_6 hfz87_7 hfz87_8 hfz87_9
                   try clear hfz88_0 hfz88_1
                   try clear hfz95_0 hfz95_1
                   try clear hx1017_0
                   try clear hx1017_1
                   try clear p1017
                   try clear p2
                   try clear q1017
                   try clear q3
                   try clear q34
                   obtain ⟨kq, x152_72, rfl, HA, HJ72, HO_108, HO_953014, HO_954007, HO_1010014, BK952, BK953, BK991, BK1009, BK1018, HB⟩ := hcut
                   cases kq with
                   | zero => exact absurd HA.out (by simp [ddilaw36_DhcpLeases.j2])
                   | succ kj72 =>
                    have H := HA.out
                    clear HA
                    simp only [ddilaw36_DhcpLeases.j2] at H
                    by_cases c119 : x152_72 = true
                    ·subst c119
                     rw [if_pos rfl] at H
                     exact absurd H (by simp)
                    ·replace c119 := Bool.eq_false_iff.mpr c119
                     subst c119
                     rw [if_neg (show ¬ (false = true) by decide)] at H
                     have H' := Aside0.mk H
                     clear H
                     go_wp2
                     go_roundg kj72
                     case measure => have := HJ19.out; have := HK2.out; have := HJ72.out; omega
                     case rel => exact ⟨(wrap64 (x110_2 + 1)), (by first | rfl | (simp; done) | (simp [*]; done)), H', ⟨by have := HJ19.out; have := HK2.out; have := HJ72.out; omega⟩, ⟨by (with_reducible repeat (first | apply Kd.R_alloc | apply Kd.R_drewN | apply Kd.R_drew)); exact Kd.R_mono HO_108.out (fun _ hk => ⟨hk.1, hk.2.1⟩)⟩, ⟨by (with_reducible repeat (first | apply Kd.R_alloc | apply Kd.R_drewN | apply Kd.R_drew)); exact Kd.R_mono HO_953014.out (fun _ hk => ⟨hk.1, hk.2.1⟩)⟩, ⟨by (with_reducible repeat (first | apply Kd.R_alloc | apply Kd.R_drewN | apply Kd.R_drew)); exact Kd.R_mono HO_954007.out (fun _ hk => ⟨hk.1, ⟨hk.2.1, hk.2.2.1⟩⟩)⟩, ⟨by (with_reducible repeat (first | apply Kd.R_alloc | apply Kd.R_drewN | apply Kd.R_drew)); exact Kd.R_mono HO_1010014.out (fun _ hk => ⟨hk.1, ⟨hk.2.1, hk.2.2.1⟩⟩)⟩, ⟨bkx BK952.out⟩, ⟨bkx BK953.out⟩, ⟨bkx BK991.out⟩, ⟨bkx BK1009.out⟩, ⟨hbx HB.out⟩⟩
                 ·rw [if_neg c70] at H
                  exact absurd H (by simp)
                ·rw [if_neg c69] at H
                 exact absurd H (by simp)
               ·rw [if_neg c68] at H
                have c68b0 : decide (x110_2 < (t968.length : Int)) = false := decide_eq_false c68
                clear c68
                replace H := Option.bind_eq_some_iff.mp H
                obtain ⟨t1023, A1200, H⟩ := H
                replace H : (some t1023) = some r := H
                have A120 := Aside0.mk A1200
                clear A1200
                obtain rfl := Option.some.inj H
                go_wp2_with (first | ((with_reducible refine gate_callee (f := 18) rfl ?_); refine goesL_ (some 154) rfl rfl Tryd.func18 (by kernel_rfl) rfl #[] rfl (by (try simp only [List.map_toArray, List.map_cons, List.map_nil]); first | done | rfl | (simp only [List.length_drop, List.length_take]; rfl)) ?_; (with_reducible refine (ddilaw36_awake.calls k2  t1023 _ A120.out).mono ?_); rintro e w121 ⟨rfl, hb⟩; refine ⟨_, rfl, ?_⟩; have n0_ := Aside0.mk (Kd.R_below (by (with_reducible repeat (first | apply Kd.R_alloc | apply Kd.R_drewN | apply Kd.R_drew)); exact HO_108.out) hb); have n1_ := Aside0.mk (Kd.R_below (by (with_reducible repeat (first | apply Kd.R_alloc | apply Kd.R_drewN | apply Kd.R_drew)); exact HO_953014.out) hb); have n2_ := Aside0.mk (Kd.R_below (by (with_reducible repeat (first | apply Kd.R_alloc | apply Kd.R_drewN | apply Kd.R_drew)); exact HO_954007.out) hb); have n3_ := Aside0.mk (Kd.R_below (by (with_reducible repeat (first | apply Kd.R_alloc | apply Kd.R_drewN | apply Kd.R_drew)); exact HO_1010014.out) hb); have n4_ := Aside0.mk (blk_below (bkx BK952.out) hb); have n5_ := Aside0.mk (blk_below (bkx BK953.out) hb); have n6_ := Aside0.mk (blk_below (bkx BK991.out) hb); have n7_ := Aside0.mk (blk_below (bkx BK1009.out) hb); have n8_ := Aside0.mk (below_step (hbx HB.out) hb); clear HO_108; clear HO_953014; clear HO_954007; clear HO_1010014; clear BK952; clear BK953; clear BK991; clear BK1009; clear HB; have HO_108 := n0_; have HO_953014 := n1_; have HO_954007 := n2_; have HO_1010014 := n3_; have BK952 := n4_; have BK953 := n5_; have BK991 := n6_; have BK1009 := n7_; have HB := n8_; clear n0_ n1_ n2_ n3_ n4_ n5_ n6_ n7_ n8_; (try clear hb); (try clear hb2); (try clear hk); (try clear hi)))
                go_ret
                exact ⟨by first | rfl | (simp [errW_none, errW_some] <;> rfl) | (simp only [← hji6, ← hji9, ← hji10]; first | rfl | (simp [errW_none, errW_some] <;> rfl)) | (simp [*, errW_none, errW_some] <;> rfl), hbx HB.out⟩
         ·replace c19 := Bool.eq_false_iff.mpr c19
          subst c19
          rw [if_neg (show ¬ (false = true) by decide)] at H
          exact absurd H (by simp)
        ·rw [if_neg c18] at H
         exact absurd H (by simp)
       ·rw [if_neg c17] at H
        exact absurd H (by simp)
      ·rw [if_neg c16] at H
       exact absurd H (by simp)
     ·rw [if_neg c15] at H
      exact absurd H (by simp)
    ·rw [if_neg c14] at H
     exact absurd H (by simp)
  ·rw [if_neg c8] at H
   exact absurd H (by simp)
 ·rw [if_neg c7] at H
  exact absurd H (by simp)

end Go.Proofs.YtcoekgnbncocnaaDoor.Pa

