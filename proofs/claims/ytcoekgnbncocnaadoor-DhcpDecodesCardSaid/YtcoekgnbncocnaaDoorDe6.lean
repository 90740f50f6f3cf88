/- Parts of the proof of this claim's statement (joined by a program of this session): Pax60, Pax61. -/
import Derived.Test.YtcoekgnbncocnaaDoorDe4
import Derived.Test.YtcoekgnbncocnaaDoorDe1
import Derived.Test.YtcoekgnbncocnaaDoorDe3
import Derived.Test.YtcoekgnbncocnaaDoorDe5
namespace Go.Proofs.YtcoekgnbncocnaaDoor.Pa
open Go.RowKit Go.Proofs.YtcoekgnbncocnaaDoorW.PrintWords Go.Proofs.YtcoekgnbncocnaaDoorW.PrintLast Go.Proofs.YtcoekgnbncocnaaDoorW.PrintMore Go.Proofs.YtcoekgnbncocnaaDoor.BX
attribute [local go_sem] max2_int min2_int max_two min_two max_three min_three max_four min_four   -- for this text's walks alone
set_option linter.unusedVariables false
set_option linter.unusedSimpArgs false

theorem gen_wp {P : Program} {c : Code} {Q : Exit → Act → World → Prop} {a : Act} {w : World} (F : World → Prop) (hF : F w) (h : ∀ W, F W → Code.wp P c Q a W) : Code.wp P c Q a w := h w hF
mutual
def ddiref36_Decode.j0 : Nat → ByteArray → Bool → Option (Int × Int × Int × ByteArray × Bool × Int × Int × Bool × Int × Int × Bool × Int × Int × Bool × (List (S61)) × Int)
 | 0, _, _ => none
 | k + 1, x0, x19 => if x19 = true then (some (0, 0, 0, (⟨#[]⟩ : ByteArray), false, 0, 0, false, 0, 0, false, 0, 0, false, ([] : List (S61)), 6)) else (if 1 < (x0.size : Int) then (if 2 ≤ 6 then (if 6 ≤ (x0.size : Int) then ((ddiref36_number.f k (x0.extract 2 6)).bind fun t648 => (if 6 ≤ 8 then (if 8 ≤ (x0.size : Int) then ((ddiref36_number.f k (x0.extract 6 8)).bind fun t649 => (if 20 < (x0.size : Int) then (if 8 ≤ 12 then (if 12 ≤ (x0.size : Int) then ((ddiref36_number.f k (x0.extract 8 12)).bind fun t651 => (if 12 ≤ 16 then (if 16 ≤ (x0.size : Int) then ((ddiref36_number.f k (x0.extract 12 16)).bind fun t652 => (if 16 ≤ 20 then (if 20 ≤ (x0.size : Int) then ((ddiref36_number.f k (x0.extract 16 20)).bind fun t653 => (if 21 < (x0.size : Int) then (if 22 ≤ (wrap64 (22 + (wrap64 (bt x0 21)))) then (if (wrap64 (22 + (wrap64 (bt x0 21)))) ≤ (x0.size : Int) then (if (wrap64 (bt x0 1)) < 1 then (ddiref36_Decode.j1 k x0 (wrap64 (22 + (wrap64 (bt x0 21)))) true (wrap64 (bt x0 1)) t648 t649 (x0.extract 22 ((wrap64 (22 + (wrap64 (bt x0 21)))) : Int).toNat) false 0 (IntKind.u64.wrap (t651)) false 0 (IntKind.u64.wrap (t652)) false 0 (IntKind.u64.wrap (t653)) ((bt x0 20) == 1)) else (if (wrap64 (bt x0 1)) > 8 then (ddiref36_Decode.j1 k x0 (wrap64 (22 + (wrap64 (bt x0 21)))) true (wrap64 (bt x0 1)) t648 t649 (x0.extract 22 ((wrap64 (22 + (wrap64 (bt x0 21)))) : Int).toNat) false 0 (IntKind.u64.wrap (t651)) false 0 (IntKind.u64.wrap (t652)) false 0 (IntKind.u64.wrap (t653)) ((bt x0 20) == 1)) else (if 0 < (x0.size : Int) then ((ddiref36_op.f (wrap64 (bt x0 1))).bind fun t654 => (if (wrap64 (bt x0 0)) = t654 then (if (bt x0 20) > 1 then (ddiref36_Decode.j1 k x0 (wrap64 (22 + (wrap64 (bt x0 21)))) true (wrap64 (bt x0 1)) t648 t649 (x0.extract 22 ((wrap64 (22 + (wrap64 (bt x0 21)))) : Int).toNat) false 0 (IntKind.u64.wrap (t651)) false 0 (IntKind.u64.wrap (t652)) false 0 (IntKind.u64.wrap (t653)) ((bt x0 20) == 1)) else ((ddiref36_Valid.f k (wrap64 (bt x0 1)) t648 t649 (x0.extract 22 ((wrap64 (22 + (wrap64 (bt x0 21)))) : Int).toNat) false 0 (IntKind.u64.wrap (t651)) false 0 (IntKind.u64.wrap (t652)) false 0 (IntKind.u64.wrap (t653)) ((bt x0 20) == 1) ([] : List (S61))).bind fun t655 => (ddiref36_Decode.j1 k x0 (wrap64 (22 + (wrap64 (bt x0 21)))) (!t655) (wrap64 (bt x0 1)) t648 t649 (x0.extract 22 ((wrap64 (22 + (wrap64 (bt x0 21)))) : Int).toNat) false 0 (IntKind.u64.wrap (t651)) false 0 (IntKind.u64.wrap (t652)) false 0 (IntKind.u64.wrap (t653)) ((bt x0 20) == 1)))) else (ddiref36_Decode.j1 k x0 (wrap64 (22 + (wrap64 (bt x0 21)))) true (wrap64 (bt x0 1)) t648 t649 (x0.extract 22 ((wrap64 (22 + (wrap64 (bt x0 21)))) : Int).toNat) false 0 (IntKind.u64.wrap (t651)) false 0 (IntKind.u64.wrap (t652)) false 0 (IntKind.u64.wrap (t653)) ((bt x0 20) == 1)))) else (none)))) else (none)) else (none)) else (none))) else (none)) else (none))) else (none)) else (none))) else (none)) else (none)) else (none))) else (none)) else (none))) else (none)) else (none)) else (none))
def ddiref36_Decode.j1 : Nat → ByteArray → Int → Bool → Int → Int → Int → ByteArray → Bool → Int → Int → Bool → Int → Int → Bool → Int → Int → Bool → Option (Int × Int × Int × ByteArray × Bool × Int × Int × Bool × Int × Int × Bool × Int × Int × Bool × (List (S61)) × Int)
 | 0, _, _, _, _, _, _, _, _, _, _, _, _, _, _, _, _, _ => none
 | k + 1, x0, x5, x86, x651000, x651001, x651002, x651003, x651004, x651005, x651006, x651007, x651008, x651009, x651010, x651011, x651012, x651013 => if x86 = true then (some (0, 0, 0, (⟨#[]⟩ : ByteArray), false, 0, 0, false, 0, 0, false, 0, 0, false, ([] : List (S61)), 7)) else (if 0 ≤ x5 then (if x5 ≤ (x0.size : Int) then ((ddiref35_Decode.f k (x0.extract (x5 : Int).toNat x0.size)).bind fun bt656 => (if bt656.2 = 0 then ((ddiref36_Valid.f k x651000 x651001 x651002 x651003 x651004 x651005 x651006 x651007 x651008 x651009 x651010 x651011 x651012 x651013 bt656.1).bind fun t660 => (if t660 = true then (some (x651000, x651001, x651002, x651003, x651004, x651005, x651006, x651007, x651008, x651009, x651010, x651011, x651012, x651013, bt656.1, 0)) else (some (0, 0, 0, (⟨#[]⟩ : ByteArray), false, 0, 0, false, 0, 0, false, 0, 0, false, ([] : List (S61)), 7)))) else (some (0, 0, 0, (⟨#[]⟩ : ByteArray), false, 0, 0, false, 0, 0, false, 0, 0, false, ([] : List (S61)), bt656.2)))) else (none)) else (none))
end
def ddiref36_Decode.f (k : Nat) (a0 : ByteArray) : Option (Int × Int × Int × ByteArray × Bool × Int × Int × Bool × Int × Int × Bool × Int × Int × Bool × (List (S61)) × Int) := if (a0.size : Int) < 22 then (ddiref36_Decode.j0 k a0 true) else (if 21 < (a0.size : Int) then (ddiref36_Decode.j0 k a0 (decide ((a0.size : Int) < (wrap64 (22 + (wrap64 (bt a0 21))))))) else (none))
def ddiref36_Decode.T3 : Bool × List (List Nat × List Nat) := (true, [([], []), ([0], [0]), ([1], [1]), ([], []), ([3], [3]), ([4], [4]), ([], []), ([6], [6]), ([7, 5], [7]), ([], []), ([9], [9]), ([10], [10]), ([2, 5, 8, 11], [2, 5, 8, 11]), ([], []), ([13, 12, 8, 0, 1, 2, 3, 4, 5, 6, 7, 8, 9, 10, 11, 12, 13], [12, 13])])
def ddiref36_Decode.B3 : List Nat := [0, 1, 3, 0, 8, 24, 0, 64, 248, 0, 512, 1536, 4095, 0, 16383]
theorem ddiref36_Decode.tab3 : rtab .any (opsOf Tryd.f25 3) = ddiref36_Decode.T3 := by kernel_rfl
theorem ddiref36_Decode.bits3 : waitsOk ddiref36_Decode.T3.2 ddiref36_Decode.B3 = true := by kernel_rfl
def ddiref36_Decode.T9 : Bool × List (List Nat × List Nat) := (true, [([], []), ([0], [0]), ([1], [1]), ([2], [2]), ([3], [3]), ([4, 3], [3, 4]), ([5, 3], [3, 5]), ([3, 6], [3, 6]), ([7, 3], [7]), ([8], [8]), ([9, 8], [8, 9]), ([10, 8], [8, 10]), ([8], [8]), ([12, 8], [8, 12]), ([13, 8, 8], [8, 13]), ([11, 14, 8], [8, 11, 14]), ([8, 15], [8, 15]), ([16, 14], [16]), ([17], [17]), ([18, 17], [17, 18]), ([19, 17], [17, 19]), ([17, 20], [17, 20]), ([21, 17], [21]), ([22], [22]), ([23, 22, 22], [22, 23]), ([24, 22], [22, 24]), ([22, 25], [22, 25])])
def ddiref36_Decode.B9 : List Nat := [0, 1, 3, 7, 15, 31, 63, 127, 255, 511, 1023, 2047, 511, 4607, 12799, 32767, 65535, 131071, 262143, 524287, 1048575, 2097151, 4194303, 8388607, 16777215, 33554431, 67108863]
theorem ddiref36_Decode.tab9 : rtab .any (opsOf Tryd.f25 9) = ddiref36_Decode.T9 := by kernel_rfl
theorem ddiref36_Decode.bits9 : waitsOk ddiref36_Decode.T9.2 ddiref36_Decode.B9 = true := by kernel_rfl
set_option maxHeartbeats 8000000 in
set_option maxRecDepth 100000 in
theorem ddiref36_Decode.rest2 (k : Nat) (a0 : ByteArray) (r1 : Int) (r2 : Int) (r3 : Int) (r4 : ByteArray) (r5 : Bool) (r6 : Int) (r7 : Int) (r8 : Bool) (r9 : Int) (r10 : Int) (r11 : Bool) (r12 : Int) (r13 : Int) (r14 : Bool) (r15 : List (S61)) (r16 : Int) (w : World) (t648 t649 t651 t652 t653 : Int) (gb647 gb650 kj1 : Nat) (NB650_647 : Aside0 (gb650 ≠ gb647)) (GE647 : Aside0 (w.heap.size ≤ gb647)) (GE650 : Aside0 (w.heap.size ≤ gb650)) (K K1 : Act → World → Prop) (wc : World) (u1 u3 u6 u7 u8 u9 u10 u11 u12 u13 u14 u15 u16 u17 u18 u19 u20 u21 u22 u23 u24 u25 u26 u27 u28 u29 u30 u31 u32 u33 u34 u35 u36 u37 u38 u39 u40 u41 u42 u43 u44 u45 u46 u47 u48 u49 u50 u51 u52 u53 u54 u55 u56 u57 u58 u59 u60 u61 u62 u63 u64 u65 u66 u67 u68 u69 u70 u71 u72 u73 u74 u75 u76 u77 u78 u79 u80 u81 u82 u83 u84 u85 u86 u87 u88 u89 u90 u91 u92 u93 u94 u95 u96 u97 u98 u99 u100 u101 u102 u103 u104 u105 : Value)
  (hK : ∀ a_ w_, Code.wp Tryd.prog (csnd (cfst (csnd (csnd (csnd (csnd (csnd (csnd (csnd (csnd (cbody Tryd.f25))))))))))) (Exit.then K1 (bodyPost Tryd.prog Tryd.f25 fun e w' => ∃ v14_ : Value, e = .returned (.tuple #[.agg #[.int .i64 r1, .int .i64 r2, .int .i64 r3, .string r4, .bool r5, .int .u64 r6, .int .u64 r7, .bool r8, .int .u64 r9, .int .u64 r10, .bool r11, .int .u64 r12, .int .u64 r13, .bool r14, v14_], .int .i64 r16]) ∧ Kd.R k61 61 w' w.heap.size (fun _ => True) v14_ r15 ∧ Below w.heap.size w w')) a_ w_ → K a_ w_) (hK1 : ∀ a_ w_, Code.wp Tryd.prog (csnd (csnd (csnd (csnd (csnd (csnd (csnd (csnd (csnd (cbody Tryd.f25)))))))))) (bodyPost Tryd.prog Tryd.f25 fun e w' => ∃ v14_ : Value, e = .returned (.tuple #[.agg #[.int .i64 r1, .int .i64 r2, .int .i64 r3, .string r4, .bool r5, .int .u64 r6, .int .u64 r7, .bool r8, .int .u64 r9, .int .u64 r10, .bool r11, .int .u64 r12, .int .u64 r13, .bool r14, v14_], .int .i64 r16]) ∧ Kd.R k61 61 w' w.heap.size (fun _ => True) v14_ r15 ∧ Below w.heap.size w w') a_ w_ → K1 a_ w_)
  (hcut : ∃ (kq : Nat) (x86_31 : Bool), u86 = .bool x86_31 ∧ Aside0 (ddiref36_Decode.j1 kq a0 (wrap64 (22 + (wrap64 (bt a0 21)))) x86_31 (wrap64 (bt a0 1)) t648 t649 (a0.extract 22 ((wrap64 (22 + (wrap64 (bt a0 21)))) : Int).toNat) false 0 (IntKind.u64.wrap (t651)) false 0 (IntKind.u64.wrap (t652)) false 0 (IntKind.u64.wrap (t653)) ((bt a0 20) == 1) = some (r1, r2, r3, r4, r5, r6, r7, r8, r9, r10, r11, r12, r13, r14, r15, r16)) ∧ Aside0 (kq ≤ kj1) ∧ Aside0 (wc.heap[gb647]? = some (.cells #[.int .i64 0, .int .i64 0, .int .i64 0, .string (⟨#[]⟩ : ByteArray), .bool false, .int .u64 0, .int .u64 0, .bool false, .int .u64 0, .int .u64 0, .bool false, .int .u64 0, .int .u64 0, .bool false, (.slice none 0 0)] 27 (0, 0))) ∧ Aside0 (wc.heap[gb650]? = some (.cells #[.int .i64 (wrap64 (bt a0 1)), .int .i64 t648, .int .i64 t649, .string (a0.extract 22 ((wrap64 (22 + (wrap64 (bt a0 21)))) : Int).toNat), .bool false, .int .u64 0, .int .u64 (IntKind.u64.wrap (t651)), .bool false, .int .u64 0, .int .u64 (IntKind.u64.wrap (t652)), .bool false, .int .u64 0, .int .u64 (IntKind.u64.wrap (t653)), .bool ((bt a0 20) == 1), (.slice none 0 0)] 27 (0, 0))) ∧ Aside0 (Below w.heap.size w wc)) : K { tmps := #[.string a0, u1, .pointer (some ⟨gb647, 0, none⟩), u3, .pointer (some ⟨gb650, 0, none⟩), .int .i64 (wrap64 (22 + (wrap64 (bt a0 21)))), u6, u7, u8, u9, u10, u11, u12, u13, u14, u15, u16, u17, u18, u19, u20, u21, u22, u23, u24, u25, u26, u27, u28, u29, u30, u31, u32, u33, u34, u35, u36, u37, u38, u39, u40, u41, u42, u43, u44, u45, u46, u47, u48, u49, u50, u51, u52, u53, u54, u55, u56, u57, u58, u59, u60, u61, u62, u63, u64, u65, u66, u67, u68, u69, u70, u71, u72, u73, u74, u75, u76, u77, u78, u79, u80, u81, u82, u83, u84, u85, u86, u87, u88, u89, u90, u91, u92, u93, u94, u95, u96, u97, u98, u99, u100, u101, u102, u103, u104, u105], defers := [] } wc := by
 have hu27 := Tryd.underlying27
 dsimp only [cbody, cfst, csnd, Tryd.f25, Option.getD] at hK hK1
 obtain ⟨kq, b, rfl, HA, HJ, BK1, BK2, HB⟩ := hcut
 have I : Aside0 (Inv w [(gb650, 27, _), (gb647, 27, _)] (fun _ => True) wc) := ⟨⟨HB.out, (fun b hb => by rcases List.mem_cons.1 hb with rfl | hb; exact BK2.out; rw [List.mem_singleton] at hb; subst hb; exact BK1.out), (fun b hb => by rcases List.mem_cons.1 hb with rfl | hb; exact GE650.out; rw [List.mem_singleton] at hb; subst hb; exact GE647.out), (by simp only [List.map_cons, List.map_nil, List.nodup_cons, List.mem_singleton, List.not_mem_nil, not_false_eq_true, List.nodup_nil, and_true]; exact NB650_647.out), fun _ _ => trivial⟩⟩
 clear BK1 BK2 HB HJ
 have h := HA.out
 clear HA
 cases kq with
 | zero => rw [ddiref36_Decode.j1] at h; cases h
 | succ kj =>
  rw [ddiref36_Decode.j1] at h
  obtain ⟨ji, hji⟩ : ∃ j_ : Int, wrap64 (22 + (wrap64 (bt a0 21))) = j_ := ⟨_, rfl⟩
  rw [hji] at h I ⊢
  clear hji
  refine hK _ _ ?_
  clear hK
  cases b with
  | true =>
    rw [if_pos rfl] at h
    simp only [Option.some.injEq, Prod.mk.injEq] at h
    obtain ⟨rfl, rfl, rfl, rfl, rfl, rfl, rfl, rfl, rfl, rfl, rfl, rfl, rfl, rfl, rfl, rfl⟩ := h
    go_wp2_with (first
     | ((with_reducible refine gate_sr rfl ?_); refine wl_srR rfl rfl rfl rfl rfl I.out (by first | exact .head | exact .tail .head) (by kernel_rfl) (by rfl) (by simp [Value.oneCell']) ?_; intro w1 hI; clear I; have I := Aside0.mk hI; clear hI)
     )
    refine bodyPost_ret (results_ct rfl _ _ gb647 27 #[.int .i64 0, .int .i64 0, .int .i64 0, .string (⟨#[]⟩ : ByteArray), .bool false, .int .u64 0, .int .u64 0, .bool false, .int .u64 0, .int .u64 0, .bool false, .int .u64 0, .int .u64 0, .bool false, .slice none 0 0] (0, 0) _ rfl (I.out.box (gb647, 27, #[.int .i64 0, .int .i64 0, .int .i64 0, .string (⟨#[]⟩ : ByteArray), .bool false, .int .u64 0, .int .u64 0, .bool false, .int .u64 0, .int .u64 0, .bool false, .int .u64 0, .int .u64 0, .bool false, .slice none 0 0]) (by first | exact .head _ | exact .tail _ (.head _))) Tryd.underlying27 rfl (by kernel_rfl)) rfl ?_
    exact ⟨_, rfl, Kd.R_nil _ _ _ _ _, I.out.below⟩
  | false =>
    rw [if_neg (by decide)] at h
    by_cases c1 : 0 ≤ ji
    rotate_left
    · rw [if_neg c1] at h; cases h
    rw [if_pos c1] at h
    by_cases c2 : ji ≤ (a0.size : Int)
    rotate_left
    · rw [if_neg c2] at h; cases h
    rw [if_pos c2] at h
    have c1b := decide_eq_true c1
    have c2b := decide_eq_true c2
    have c1t := eq_true c1
    have c2t := eq_true c2
    clear c1 c2
    replace h := Option.bind_eq_some_iff.mp h
    obtain ⟨⟨l, e⟩, B1, h⟩ := h
    have A1 := Aside0.mk B1
    clear B1
    dsimp only at h
    by_cases ce : e = 0
    rotate_left
    · rw [if_neg ce] at h
      have ce1 : (e == 0) = false := beq_eq_false_iff_ne.mpr ce
      have ce2 : (e != 0) = true := bne_iff_ne.mpr ce
      clear ce
      simp only [Option.some.injEq, Prod.mk.injEq] at h
      obtain ⟨rfl, rfl, rfl, rfl, rfl, rfl, rfl, rfl, rfl, rfl, rfl, rfl, rfl, rfl, rfl, rfl⟩ := h
      go_wp2_with (first
       | ((with_reducible refine gate_callee (f := 53) rfl ?_); refine goesL_ (some 92) rfl rfl Tryd.func53 (by kernel_rfl) rfl #[.string (a0.extract (ji : Int).toNat a0.size)] rfl (by (try simp only [List.map_toArray, List.map_cons, List.map_nil]); first | done | rfl) ?_; (with_reducible refine (ddiref35_Decode.calls kj (a0.extract (ji : Int).toNat a0.size) l e _ A1.out).mono ?_); rintro e_ w1 ⟨v, rfl, hR, hb⟩; refine ⟨_, rfl, ?_⟩; obtain ⟨A, c, rfl⟩ := Kd.R_slice hR; have hc := (Kd.R_reads' hR).2.1; have I2 := Aside0.mk (I.out.addM hb hR); clear I hR hb; have I := I2; clear I2)
       | ((with_reducible refine gate_sr rfl ?_); refine wl_srR rfl rfl rfl rfl rfl I.out (by first | exact .head | exact .tail .head) (by kernel_rfl) (by rfl) (by simp [Value.oneCell']) ?_; intro w1 hI; clear I; have I := Aside0.mk hI; clear hI)
       )
      refine bodyPost_ret (results_ct rfl _ _ gb647 27 #[.int .i64 0, .int .i64 0, .int .i64 0, .string (⟨#[]⟩ : ByteArray), .bool false, .int .u64 0, .int .u64 0, .bool false, .int .u64 0, .int .u64 0, .bool false, .int .u64 0, .int .u64 0, .bool false, .slice none 0 0] (0, 0) _ rfl (I.out.box (gb647, 27, #[.int .i64 0, .int .i64 0, .int .i64 0, .string (⟨#[]⟩ : ByteArray), .bool false, .int .u64 0, .int .u64 0, .bool false, .int .u64 0, .int .u64 0, .bool false, .int .u64 0, .int .u64 0, .bool false, .slice none 0 0]) (by first | exact .head _ | exact .tail _ (.head _))) Tryd.underlying27 rfl (by kernel_rfl)) rfl ?_
      exact ⟨_, rfl, Kd.R_nil _ _ _ _ _, I.out.below⟩
    rw [if_pos ce] at h
    have ce1 : (e == 0) = true := beq_iff_eq.mpr ce
    have ce2 : (e != 0) = false := bne_eq_false_iff_eq.mpr ce
    clear ce
    replace h := Option.bind_eq_some_iff.mp h
    obtain ⟨q, B2, h⟩ := h
    have A2 := Aside0.mk B2
    clear B2
    cases q with
    | false =>
      rw [if_neg (by decide)] at h
      simp only [Option.some.injEq, Prod.mk.injEq] at h
      obtain ⟨rfl, rfl, rfl, rfl, rfl, rfl, rfl, rfl, rfl, rfl, rfl, rfl, rfl, rfl, rfl, rfl⟩ := h
      go_wp2_with (first
       | ((with_reducible refine gate_callee (f := 53) rfl ?_); refine goesL_ (some 92) rfl rfl Tryd.func53 (by kernel_rfl) rfl #[.string (a0.extract (ji : Int).toNat a0.size)] rfl (by (try simp only [List.map_toArray, List.map_cons, List.map_nil]); first | done | rfl) ?_; (with_reducible refine (ddiref35_Decode.calls kj (a0.extract (ji : Int).toNat a0.size) l e _ A1.out).mono ?_); rintro e_ w1 ⟨v, rfl, hR, hb⟩; refine ⟨_, rfl, ?_⟩; obtain ⟨A, c, rfl⟩ := Kd.R_slice hR; have hc := (Kd.R_reads' hR).2.1; have I2 := Aside0.mk (I.out.addM hb hR); clear I hR hb; have I := I2; clear I2)
       | ((with_reducible refine gate_callee (f := 23) rfl ?_); refine goesL_ (some 102) rfl rfl Tryd.func23 (by kernel_rfl) rfl #[.agg #[.int .i64 (wrap64 (bt a0 1)), .int .i64 t648, .int .i64 t649, .string (a0.extract 22 (ji : Int).toNat), .bool false, .int .u64 0, .int .u64 (IntKind.u64.wrap t651), .bool false, .int .u64 0, .int .u64 (IntKind.u64.wrap t652), .bool false, .int .u64 0, .int .u64 (IntKind.u64.wrap t653), .bool ((bt a0 20) == 1), .slice A l.length c]] rfl (by (try simp only [List.map_toArray, List.map_cons, List.map_nil]); first | done | rfl) ?_; (with_reducible refine (ddiref36_Valid.calls kj (wrap64 (bt a0 1)) t648 t649 (a0.extract 22 (ji : Int).toNat) false 0 (IntKind.u64.wrap t651) false 0 (IntKind.u64.wrap t652) false 0 (IntKind.u64.wrap t653) ((bt a0 20) == 1) A c l false _ (Kd.R_reads' I.out.now.2).2.2 hc A2.out).mono ?_); rintro e_ w1 ⟨rfl, hb⟩; refine ⟨_, rfl, ?_⟩; have I2 := Aside0.mk (I.out.call hb); clear I hb; have I := I2; clear I2)
       | ((with_reducible refine gate_ld rfl ?_); refine wl_ld rfl rfl rfl I.out (by first | exact .head _ | exact .tail _ (.head _)) (by exact ld_row _ Tryd.underlying27 rfl (by kernel_rfl)) ?_)
       | ((with_reducible refine gate_sr (ty := 25) rfl ?_); refine wl_sr (cs' := #[.int .i64 (wrap64 (bt a0 1)), .int .i64 t648, .int .i64 t649, .string (a0.extract 22 (ji : Int).toNat), .bool false, .int .u64 0, .int .u64 (IntKind.u64.wrap t651), .bool false, .int .u64 0, .int .u64 (IntKind.u64.wrap t652), .bool false, .int .u64 0, .int .u64 (IntKind.u64.wrap t653), .bool ((bt a0 20) == 1), .slice A l.length c]) rfl rfl rfl rfl rfl I.out (by first | exact .head | exact .tail .head) (by exact sr_one (by kernel_rfl) rfl rfl (by simp) rfl) ?_; intro w1 hI; clear I; have I := Aside0.mk hI; clear hI)
       | ((with_reducible refine gate_sr rfl ?_); refine wl_srR rfl rfl rfl rfl rfl I.out (by first | exact .head | exact .tail .head) (by kernel_rfl) (by rfl) (by simp [Value.oneCell']) ?_; intro w1 hI; clear I; have I := Aside0.mk hI; clear hI)
       )
      refine bodyPost_ret (results_ct rfl _ _ gb647 27 #[.int .i64 0, .int .i64 0, .int .i64 0, .string (⟨#[]⟩ : ByteArray), .bool false, .int .u64 0, .int .u64 0, .bool false, .int .u64 0, .int .u64 0, .bool false, .int .u64 0, .int .u64 0, .bool false, .slice none 0 0] (0, 0) _ rfl (I.out.box (gb647, 27, #[.int .i64 0, .int .i64 0, .int .i64 0, .string (⟨#[]⟩ : ByteArray), .bool false, .int .u64 0, .int .u64 0, .bool false, .int .u64 0, .int .u64 0, .bool false, .int .u64 0, .int .u64 0, .bool false, .slice none 0 0]) (by first | exact .head _ | exact .tail _ (.head _))) Tryd.underlying27 rfl (by kernel_rfl)) rfl ?_
      exact ⟨_, rfl, Kd.R_nil _ _ _ _ _, I.out.below⟩
    | true =>
      rw [if_pos rfl] at h
      simp only [Option.some.injEq, Prod.mk.injEq] at h
      obtain ⟨rfl, rfl, rfl, rfl, rfl, rfl, rfl, rfl, rfl, rfl, rfl, rfl, rfl, rfl, rfl, rfl⟩ := h
      go_wp2_with (first
       | ((with_reducible refine gate_callee (f := 53) rfl ?_); refine goesL_ (some 92) rfl rfl Tryd.func53 (by kernel_rfl) rfl #[.string (a0.extract (ji : Int).toNat a0.size)] rfl (by (try simp only [List.map_toArray, List.map_cons, List.map_nil]); first | done | rfl) ?_; (with_reducible refine (ddiref35_Decode.calls kj (a0.extract (ji : Int).toNat a0.size) l e _ A1.out).mono ?_); rintro e_ w1 ⟨v, rfl, hR, hb⟩; refine ⟨_, rfl, ?_⟩; obtain ⟨A, c, rfl⟩ := Kd.R_slice hR; have hc := (Kd.R_reads' hR).2.1; have I2 := Aside0.mk (I.out.addM hb hR); clear I hR hb; have I := I2; clear I2)
       | ((with_reducible refine gate_callee (f := 23) rfl ?_); refine goesL_ (some 102) rfl rfl Tryd.func23 (by kernel_rfl) rfl #[.agg #[.int .i64 (wrap64 (bt a0 1)), .int .i64 t648, .int .i64 t649, .string (a0.extract 22 (ji : Int).toNat), .bool false, .int .u64 0, .int .u64 (IntKind.u64.wrap t651), .bool false, .int .u64 0, .int .u64 (IntKind.u64.wrap t652), .bool false, .int .u64 0, .int .u64 (IntKind.u64.wrap t653), .bool ((bt a0 20) == 1), .slice A l.length c]] rfl (by (try simp only [List.map_toArray, List.map_cons, List.map_nil]); first | done | rfl) ?_; (with_reducible refine (ddiref36_Valid.calls kj (wrap64 (bt a0 1)) t648 t649 (a0.extract 22 (ji : Int).toNat) false 0 (IntKind.u64.wrap t651) false 0 (IntKind.u64.wrap t652) false 0 (IntKind.u64.wrap t653) ((bt a0 20) == 1) A c l true _ (Kd.R_reads' I.out.now.2).2.2 hc A2.out).mono ?_); rintro e_ w1 ⟨rfl, hb⟩; refine ⟨_, rfl, ?_⟩; have I2 := Aside0.mk (I.out.call hb); clear I hb; have I := I2; clear I2)
       | ((with_reducible refine gate_ld rfl ?_); refine wl_ld rfl rfl rfl I.out (by first | exact .head _ | exact .tail _ (.head _)) (by exact ld_row _ Tryd.underlying27 rfl (by kernel_rfl)) ?_)
       | ((with_reducible refine gate_sr (ty := 25) rfl ?_); refine wl_sr (cs' := #[.int .i64 (wrap64 (bt a0 1)), .int .i64 t648, .int .i64 t649, .string (a0.extract 22 (ji : Int).toNat), .bool false, .int .u64 0, .int .u64 (IntKind.u64.wrap t651), .bool false, .int .u64 0, .int .u64 (IntKind.u64.wrap t652), .bool false, .int .u64 0, .int .u64 (IntKind.u64.wrap t653), .bool ((bt a0 20) == 1), .slice A l.length c]) rfl rfl rfl rfl rfl I.out (by first | exact .head | exact .tail .head) (by exact sr_one (by kernel_rfl) rfl rfl (by simp) rfl) ?_; intro w1 hI; clear I; have I := Aside0.mk hI; clear hI)
       | ((with_reducible refine gate_sr rfl ?_); refine wl_srR rfl rfl rfl rfl rfl I.out (by first | exact .head | exact .tail .head) (by kernel_rfl) (by rfl) (by simp [Value.oneCell']) ?_; intro w1 hI; clear I; have I := Aside0.mk hI; clear hI)
       )
      refine bodyPost_ret (results_ct rfl _ _ gb647 27 #[.int .i64 (wrap64 (bt a0 1)), .int .i64 t648, .int .i64 t649, .string (a0.extract 22 (ji : Int).toNat), .bool false, .int .u64 0, .int .u64 (IntKind.u64.wrap t651), .bool false, .int .u64 0, .int .u64 (IntKind.u64.wrap t652), .bool false, .int .u64 0, .int .u64 (IntKind.u64.wrap t653), .bool ((bt a0 20) == 1), .slice A l.length c] (0, 0) _ rfl (I.out.box (gb647, 27, #[.int .i64 (wrap64 (bt a0 1)), .int .i64 t648, .int .i64 t649, .string (a0.extract 22 (ji : Int).toNat), .bool false, .int .u64 0, .int .u64 (IntKind.u64.wrap t651), .bool false, .int .u64 0, .int .u64 (IntKind.u64.wrap t652), .bool false, .int .u64 0, .int .u64 (IntKind.u64.wrap t653), .bool ((bt a0 20) == 1), .slice A l.length c]) (by first | exact .head _ | exact .tail _ (.head _))) Tryd.underlying27 rfl (by kernel_rfl)) rfl ?_
      exact ⟨_, rfl, Kd.R_mono I.out.now.2 (fun _ _ => trivial), I.out.below⟩
set_option maxHeartbeats 80000000 in
set_option maxRecDepth 100000 in
theorem ddiref36_Decode.calls (k : Nat) (a0 : ByteArray) (r1 : Int) (r2 : Int) (r3 : Int) (r4 : ByteArray) (r5 : Bool) (r6 : Int) (r7 : Int) (r8 : Bool) (r9 : Int) (r10 : Int) (r11 : Bool) (r12 : Int) (r13 : Int) (r14 : Bool) (r15 : List (S61)) (r16 : Int) (w : World) (h : ddiref36_Decode.f k a0 = some (r1, r2, r3, r4, r5, r6, r7, r8, r9, r10, r11, r12, r13, r14, r15, r16)) :
  Calls Tryd.prog 25 #[.string a0] w fun e w' => ∃ v14_ : Value, e = .returned (.tuple #[.agg #[.int .i64 r1, .int .i64 r2, .int .i64 r3, .string r4, .bool r5, .int .u64 r6, .int .u64 r7, .bool r8, .int .u64 r9, .int .u64 r10, .bool r11, .int .u64 r12, .int .u64 r13, .bool r14, v14_], .int .i64 r16]) ∧ Kd.R k61 61 w' w.heap.size (fun _ => True) v14_ r15 ∧ Below w.heap.size w w' := by
 have hu27 := Tryd.underlying27
 have hu24 := Tryd.underlying24
 have HB := Aside0.mk (Below.refl w.heap.size w)
 have H : (if (a0.size : Int) < 22 then (ddiref36_Decode.j0 k a0 true) else (if 21 < (a0.size : Int) then (ddiref36_Decode.j0 k a0 (decide ((a0.size : Int) < (wrap64 (22 + (wrap64 (bt a0 21))))))) else (none))) = some (r1, r2, r3, r4, r5, r6, r7, r8, r9, r10, r11, r12, r13, r14, r15, r16) := h
 clear h
 have HC2 := Aside0.mk H
 clear H
 go_enter Tryd.func25, Tryd.ntmps25
 go_upto_region 1 with (first | ((with_reducible refine gate_dst (N := 2) rfl ?_); (try (refine gate_guard (by rfl) ?_; dsimp only)); refine box_event ?hg (N := 2) ?hd (cs := #[.int .i64 0, .int .i64 0, .int .i64 0, .string (⟨#[]⟩ : ByteArray), .bool false, .int .u64 0, .int .u64 0, .bool false, .int .u64 0, .int .u64 0, .bool false, .int .u64 0, .int .u64 0, .bool false, .slice none 0 0]) (t := 27) ?hr ?_; (case hd => rfl); (case hg => rfl); (case hr => first | (go_simp; done) | (go_simp; rfl)); intro gb647 hg w3 hbox hb; have n0_ := Aside0.mk (below_step (hbx HB.out) hb); have n1_ := Aside0.mk (hbox); have n2_ := Aside0.mk ((by rw [hg]; exact (below_size (hbx HB.out)) : w.heap.size ≤ gb647)); have n3_ := Aside0.mk ((by rw [hg]; exact (below_size (hbx HB.out)) : w.heap.size ≤ gb647)); clear HB; have HB := n0_; have BK647 := n1_; have GW647 := n2_; have GE647 := n3_; clear n0_ n1_ n2_ n3_; clear hb hbox hg))
 (try simp only [Act.put, List.setIfInBounds_toArray, List.set_cons_zero, List.set_cons_succ])
 go_cut [19] (fun v19 wc => ∃ (kq : Nat) (x19_1 : Bool), v19 = .bool x19_1 ∧ Aside0 (ddiref36_Decode.j0 kq a0 x19_1 = some (r1, r2, r3, r4, r5, r6, r7, r8, r9, r10, r11, r12, r13, r14, r15, r16)) ∧ Aside0 (kq ≤ k) ∧ Aside0 (wc.heap[gb647]? = some (.cells #[.int .i64 0, .int .i64 0, .int .i64 0, .string (⟨#[]⟩ : ByteArray), .bool false, .int .u64 0, .int .u64 0, .bool false, .int .u64 0, .int .u64 0, .bool false, .int .u64 0, .int .u64 0, .bool false, (.slice none 0 0)] 27 (0, 0))) ∧ Aside0 (Below w.heap.size w wc))
 case first =>
  have H := HC2.out
  clear HC2
  by_cases c4 : (a0.size : Int) < 22
  ·rw [if_pos c4] at H
   have c4b0 : decide ((a0.size : Int) < 22) = true := decide_eq_true c4
   have c4b1 : decide (a0.size < 22) = true := decide_eq_true (by omega)
   clear c4
   (first | rw [c4b0] | (simp only [i64_w, i32_w]; rw [c4b0]) | skip)
   have H' := Aside0.mk H
   clear H
   go_wp2
   go_meet
   case rel => exact ⟨_, (true), (by first | rfl | (simp; done) | (simp [*]; done)), H', ⟨by first | omega | exact Nat.le_refl _⟩, ⟨bkx BK647.out⟩, ⟨hbx HB.out⟩⟩
  ·rw [if_neg c4] at H
   have c4b0 : decide ((a0.size : Int) < 22) = false := decide_eq_false c4
   have c4b1 : decide (a0.size < 22) = false := decide_eq_false (by omega)
   clear c4
   (first | rw [c4b0] | (simp only [i64_w, i32_w]; rw [c4b0]) | skip)
   by_cases c5 : 21 < (a0.size : Int)
   ·rw [if_pos c5] at H
    have c5b0 : decide (21 < (a0.size : Int)) = true := decide_eq_true c5
    have c5b1 : decide (21 < a0.size) = true := decide_eq_true (by omega)
    clear c5
    have H' := Aside0.mk H
    clear H
    have p6 : 0 ≤ (21 : Int) := (by omega)
    have q6 : 21 < a0.size := (by have : (21 : Int) < (a0.size : Int) := of_decide_eq_true (by first | (with_reducible assumption) | assumption); omega)
    have hx6 : ∀ h : 21 < a0.size, ((a0[21]'h).toNat : Int) = bt a0 21 := bt_at a0 21
    clear p6
    have qi6 : (21 < (a0.size : Int)) = True := eq_true (of_decide_eq_true (by first | (with_reducible assumption) | assumption))
    replace q6 := eq_true q6
    go_wp2
    go_meet
    case rel => exact ⟨_, (decide ((a0.size : Int) < (wrap64 (22 + (wrap64 (bt a0 21)))))), (by first | rfl | (simp; done) | (simp [*]; done)), H', ⟨by first | omega | exact Nat.le_refl _⟩, ⟨bkx BK647.out⟩, ⟨hbx HB.out⟩⟩
   ·rw [if_neg c5] at H
    exact absurd H (by simp)
 case rest =>
  clear HC2
  try clear c2
  try clear p2
  try clear c4
  try clear c4b0
  try clear c4b1
  try clear c5
  try clear c5b0
  try clear c5b1
  try clear p6
  try clear q6
  try clear hx6
  try clear qi6
  try clear p6
  try clear q6
  obtain ⟨kq, x19_1, rfl, HA, HJ1, BK647, HB⟩ := hcut
  cases kq with
  | zero => exact absurd HA.out (by simp [ddiref36_Decode.j0])
  | succ kj1 =>
   have H := HA.out
   clear HA
   simp only [ddiref36_Decode.j0] at H
   by_cases c7 : x19_1 = true
   ·subst c7
    rw [if_pos rfl] at H
    simp only [Option.some.injEq, Prod.mk.injEq] at H
    obtain ⟨rfl, rfl, rfl, rfl, rfl, rfl, rfl, rfl, rfl, rfl, rfl, rfl, rfl, rfl, rfl, rfl⟩ := H
    obtain ⟨⟨hcz8_0, hcz8_1, hcz8_2, hcz8_3, hcz8_4, hcz8_5, hcz8_6, hcz8_7, hcz8_8, hcz8_9, hcz8_10, hcz8_11, hcz8_12, hcz8_13, hcz8_14⟩, hfz8_0, hfz8_1, hfz8_2, hfz8_3, hfz8_4, hfz8_5, hfz8_6, hfz8_7, hfz8_8, hfz8_9, hfz8_10, hfz8_11, hfz8_12, hfz8_13, hfz8_14⟩ := cf15 BK647.out
    go_wp2
    refine bodyPost_ret (results_ct rfl _ _ gb647 27 #[.int .i64 0, .int .i64 0, .int .i64 0, .string (⟨#[]⟩ : ByteArray), .bool false, .int .u64 0, .int .u64 0, .bool false, .int .u64 0, .int .u64 0, .bool false, .int .u64 0, .int .u64 0, .bool false, .slice none 0 0] (0, 0) _ rfl (by (with_reducible repeat (first | refine blk_drewN ?_ _ | refine blk_drew ?_ | refine blk_alloc ?_ _)); refine blk_put (cs := #[.int .i64 0, .int .i64 0, .int .i64 0, .string (⟨#[]⟩ : ByteArray), .bool false, .int .u64 0, .int .u64 0, .bool false, .int .u64 0, .int .u64 0, .bool false, .int .u64 0, .int .u64 0, .bool false, .slice none 0 0]) ?_ 14 _ rfl; (with_reducible repeat (first | refine blk_drewN ?_ _ | refine blk_drew ?_ | refine blk_alloc ?_ _)); refine blk_put (cs := #[.int .i64 0, .int .i64 0, .int .i64 0, .string (⟨#[]⟩ : ByteArray), .bool false, .int .u64 0, .int .u64 0, .bool false, .int .u64 0, .int .u64 0, .bool false, .int .u64 0, .int .u64 0, .bool false, .slice none 0 0]) ?_ 13 _ rfl; (with_reducible repeat (first | refine blk_drewN ?_ _ | refine blk_drew ?_ | refine blk_alloc ?_ _)); refine blk_put (cs := #[.int .i64 0, .int .i64 0, .int .i64 0, .string (⟨#[]⟩ : ByteArray), .bool false, .int .u64 0, .int .u64 0, .bool false, .int .u64 0, .int .u64 0, .bool false, .int .u64 0, .int .u64 0, .bool false, .slice none 0 0]) ?_ 12 _ rfl; (with_reducible repeat (first | refine blk_drewN ?_ _ | refine blk_drew ?_ | refine blk_alloc ?_ _)); refine blk_put (cs := #[.int .i64 0, .int .i64 0, .int .i64 0, .string (⟨#[]⟩ : ByteArray), .bool false, .int .u64 0, .int .u64 0, .bool false, .int .u64 0, .int .u64 0, .bool false, .int .u64 0, .int .u64 0, .bool false, .slice none 0 0]) ?_ 11 _ rfl; (with_reducible repeat (first | refine blk_drewN ?_ _ | refine blk_drew ?_ | refine blk_alloc ?_ _)); refine blk_put (cs := #[.int .i64 0, .int .i64 0, .int .i64 0, .string (⟨#[]⟩ : ByteArray), .bool false, .int .u64 0, .int .u64 0, .bool false, .int .u64 0, .int .u64 0, .bool false, .int .u64 0, .int .u64 0, .bool false, .slice none 0 0]) ?_ 10 _ rfl; (with_reducible repeat (first | refine blk_drewN ?_ _ | refine blk_drew ?_ | refine blk_alloc ?_ _)); refine blk_put (cs := #[.int .i64 0, .int .i64 0, .int .i64 0, .string (⟨#[]⟩ : ByteArray), .bool false, .int .u64 0, .int .u64 0, .bool false, .int .u64 0, .int .u64 0, .bool false, .int .u64 0, .int .u64 0, .bool false, .slice none 0 0]) ?_ 9 _ rfl; (with_reducible repeat (first | refine blk_drewN ?_ _ | refine blk_drew ?_ | refine blk_alloc ?_ _)); refine blk_put (cs := #[.int .i64 0, .int .i64 0, .int .i64 0, .string (⟨#[]⟩ : ByteArray), .bool false, .int .u64 0, .int .u64 0, .bool false, .int .u64 0, .int .u64 0, .bool false, .int .u64 0, .int .u64 0, .bool false, .slice none 0 0]) ?_ 8 _ rfl; (with_reducible repeat (first | refine blk_drewN ?_ _ | refine blk_drew ?_ | refine blk_alloc ?_ _)); refine blk_put (cs := #[.int .i64 0, .int .i64 0, .int .i64 0, .string (⟨#[]⟩ : ByteArray), .bool false, .int .u64 0, .int .u64 0, .bool false, .int .u64 0, .int .u64 0, .bool false, .int .u64 0, .int .u64 0, .bool false, .slice none 0 0]) ?_ 7 _ rfl; (with_reducible repeat (first | refine blk_drewN ?_ _ | refine blk_drew ?_ | refine blk_alloc ?_ _)); refine blk_put (cs := #[.int .i64 0, .int .i64 0, .int .i64 0, .string (⟨#[]⟩ : ByteArray), .bool false, .int .u64 0, .int .u64 0, .bool false, .int .u64 0, .int .u64 0, .bool false, .int .u64 0, .int .u64 0, .bool false, .slice none 0 0]) ?_ 6 _ rfl; (with_reducible repeat (first | refine blk_drewN ?_ _ | refine blk_drew ?_ | refine blk_alloc ?_ _)); refine blk_put (cs := #[.int .i64 0, .int .i64 0, .int .i64 0, .string (⟨#[]⟩ : ByteArray), .bool false, .int .u64 0, .int .u64 0, .bool false, .int .u64 0, .int .u64 0, .bool false, .int .u64 0, .int .u64 0, .bool false, .slice none 0 0]) ?_ 5 _ rfl; (with_reducible repeat (first | refine blk_drewN ?_ _ | refine blk_drew ?_ | refine blk_alloc ?_ _)); refine blk_put (cs := #[.int .i64 0, .int .i64 0, .int .i64 0, .string (⟨#[]⟩ : ByteArray), .bool false, .int .u64 0, .int .u64 0, .bool false, .int .u64 0, .int .u64 0, .bool false, .int .u64 0, .int .u64 0, .bool false, .slice none 0 0]) ?_ 4 _ rfl; (with_reducible repeat (first | refine blk_drewN ?_ _ | refine blk_drew ?_ | refine blk_alloc ?_ _)); refine blk_put (cs := #[.int .i64 0, .int .i64 0, .int .i64 0, .string (⟨#[]⟩ : ByteArray), .bool false, .int .u64 0, .int .u64 0, .bool false, .int .u64 0, .int .u64 0, .bool false, .int .u64 0, .int .u64 0, .bool false, .slice none 0 0]) ?_ 3 _ rfl; (with_reducible repeat (first | refine blk_drewN ?_ _ | refine blk_drew ?_ | refine blk_alloc ?_ _)); refine blk_put (cs := #[.int .i64 0, .int .i64 0, .int .i64 0, .string (⟨#[]⟩ : ByteArray), .bool false, .int .u64 0, .int .u64 0, .bool false, .int .u64 0, .int .u64 0, .bool false, .int .u64 0, .int .u64 0, .bool false, .slice none 0 0]) ?_ 2 _ rfl; (with_reducible repeat (first | refine blk_drewN ?_ _ | refine blk_drew ?_ | refine blk_alloc ?_ _)); refine blk_put (cs := #[.int .i64 0, .int .i64 0, .int .i64 0, .string (⟨#[]⟩ : ByteArray), .bool false, .int .u64 0, .int .u64 0, .bool false, .int .u64 0, .int .u64 0, .bool false, .int .u64 0, .int .u64 0, .bool false, .slice none 0 0]) ?_ 1 _ rfl; (with_reducible repeat (first | refine blk_drewN ?_ _ | refine blk_drew ?_ | refine blk_alloc ?_ _)); refine blk_put (cs := #[.int .i64 0, .int .i64 0, .int .i64 0, .string (⟨#[]⟩ : ByteArray), .bool false, .int .u64 0, .int .u64 0, .bool false, .int .u64 0, .int .u64 0, .bool false, .int .u64 0, .int .u64 0, .bool false, .slice none 0 0]) ?_ 0 _ rfl; (with_reducible repeat (first | refine blk_drewN ?_ _ | refine blk_drew ?_ | refine blk_alloc ?_ _)); exact BK647.out) Tryd.underlying27 rfl (by kernel_rfl)) rfl ?_
    exact ⟨_, by first | rfl | (simp [errW_none, errW_some] <;> rfl) | (simp [*, errW_none, errW_some] <;> rfl), by first | exact Kd.R_nil _ _ _ _ _ | exact Kd.N_nil _ _ _ _ _ | exact Kd.V_nil _ _ _ _ _ | exact Kd.Q_nil _ _ _ _ _ | exact Kd.S_nil _ _ _ _ _, hbx HB.out⟩
   ·replace c7 := Bool.eq_false_iff.mpr c7
    subst c7
    rw [if_neg (show ¬ (false = true) by decide)] at H
    by_cases c9 : 1 < (a0.size : Int)
    ·rw [if_pos c9] at H
     have c9b0 : decide (1 < (a0.size : Int)) = true := decide_eq_true c9
     have c9b1 : decide (1 < a0.size) = true := decide_eq_true (by omega)
     clear c9
     by_cases c11 : 2 ≤ 6
     ·rw [if_pos c11] at H
      have c11b0 := eq_true c11
      have c11b1 : decide (2 ≤ 6) = true := decide_eq_true c11
      clear c11
      by_cases c12 : 6 ≤ (a0.size : Int)
      ·rw [if_pos c12] at H
       have c12b0 := eq_true c12
       have c12b1 : decide (6 ≤ (a0.size : Int)) = true := decide_eq_true c12
       clear c12
       replace H := Option.bind_eq_some_iff.mp H
       obtain ⟨t648, A130, H⟩ := H
       (try dsimp only at H)
       have A13 := Aside0.mk A130
       clear A130
       by_cases c14 : 6 ≤ 8
       ·rw [if_pos c14] at H
        have c14b0 := eq_true c14
        have c14b1 : decide (6 ≤ 8) = true := decide_eq_true c14
        clear c14
        by_cases c15 : 8 ≤ (a0.size : Int)
        ·rw [if_pos c15] at H
         have c15b0 := eq_true c15
         have c15b1 : decide (8 ≤ (a0.size : Int)) = true := decide_eq_true c15
         clear c15
         replace H := Option.bind_eq_some_iff.mp H
         obtain ⟨t649, A160, H⟩ := H
         (try dsimp only at H)
         have A16 := Aside0.mk A160
         clear A160
         by_cases c17 : 20 < (a0.size : Int)
         ·rw [if_pos c17] at H
          have c17b0 : decide (20 < (a0.size : Int)) = true := decide_eq_true c17
          have c17b1 : decide (20 < a0.size) = true := decide_eq_true (by omega)
          clear c17
          by_cases c19 : 8 ≤ 12
          ·rw [if_pos c19] at H
           have c19b0 := eq_true c19
           have c19b1 : decide (8 ≤ 12) = true := decide_eq_true c19
           clear c19
           by_cases c20 : 12 ≤ (a0.size : Int)
           ·rw [if_pos c20] at H
            have c20b0 := eq_true c20
            have c20b1 : decide (12 ≤ (a0.size : Int)) = true := decide_eq_true c20
            clear c20
            replace H := Option.bind_eq_some_iff.mp H
            obtain ⟨t651, A210, H⟩ := H
            (try dsimp only at H)
            have A21 := Aside0.mk A210
            clear A210
            by_cases c22 : 12 ≤ 16
            ·rw [if_pos c22] at H
             have c22b0 := eq_true c22
             have c22b1 : decide (12 ≤ 16) = true := decide_eq_true c22
             clear c22
             by_cases c23 : 16 ≤ (a0.size : Int)
             ·rw [if_pos c23] at H
              have c23b0 := eq_true c23
              have c23b1 : decide (16 ≤ (a0.size : Int)) = true := decide_eq_true c23
              clear c23
              replace H := Option.bind_eq_some_iff.mp H
              obtain ⟨t652, A240, H⟩ := H
              (try dsimp only at H)
              have A24 := Aside0.mk A240
              clear A240
              by_cases c25 : 16 ≤ 20
              ·rw [if_pos c25] at H
               have c25b0 := eq_true c25
               have c25b1 : decide (16 ≤ 20) = true := decide_eq_true c25
               clear c25
               by_cases c26 : 20 ≤ (a0.size : Int)
               ·rw [if_pos c26] at H
                have c26b0 := eq_true c26
                have c26b1 : decide (20 ≤ (a0.size : Int)) = true := decide_eq_true c26
                clear c26
                replace H := Option.bind_eq_some_iff.mp H
                obtain ⟨t653, A270, H⟩ := H
                (try dsimp only at H)
                have A27 := Aside0.mk A270
                clear A270
                by_cases c28 : 21 < (a0.size : Int)
                ·rw [if_pos c28] at H
                 have c28b0 : decide (21 < (a0.size : Int)) = true := decide_eq_true c28
                 have c28b1 : decide (21 < a0.size) = true := decide_eq_true (by omega)
                 clear c28
                 by_cases c30 : 22 ≤ (wrap64 (22 + (wrap64 (bt a0 21))))
                 ·rw [if_pos c30] at H
                  have c30b0 := eq_true c30
                  have c30b1 : decide (22 ≤ (wrap64 (22 + (wrap64 (bt a0 21))))) = true := decide_eq_true c30
                  by_cases c31 : (wrap64 (22 + (wrap64 (bt a0 21)))) ≤ (a0.size : Int)
                  ·rw [if_pos c31] at H
                   have c31b0 := eq_true c31
                   have c31b1 : decide ((wrap64 (22 + (wrap64 (bt a0 21)))) ≤ (a0.size : Int)) = true := decide_eq_true c31
                   have HC32 := Aside0.mk H
                   clear H
                   try go_wp2
                   have n0_ := Aside0.mk (blk_drew BK647.out)
                   have n1_ := Aside0.mk (below_drew1 HB.out)
                   clear BK647
                   clear HB
                   have BK647 := n0_
                   have HB := n1_
                   clear n0_ n1_
                   have p10 : 0 ≤ (1 : Int) := (by omega)
                   have q10 : 1 < a0.size := (by have : (1 : Int) < (a0.size : Int) := of_decide_eq_true (by first | (with_reducible assumption) | assumption); omega)
                   have hx10 : ∀ h : 1 < a0.size, ((a0[1]'h).toNat : Int) = bt a0 1 := bt_at a0 1
                   clear p10
                   have qi10 : (1 < (a0.size : Int)) = True := eq_true (of_decide_eq_true (by first | (with_reducible assumption) | assumption))
                   replace q10 := eq_true q10
                   have p18 : 0 ≤ (20 : Int) := (by omega)
                   have q18 : 20 < a0.size := (by have : (20 : Int) < (a0.size : Int) := of_decide_eq_true (by first | (with_reducible assumption) | assumption); omega)
                   have hx18 : ∀ h : 20 < a0.size, ((a0[20]'h).toNat : Int) = bt a0 20 := bt_at a0 20
                   clear p18
                   have qi18 : (20 < (a0.size : Int)) = True := eq_true (of_decide_eq_true (by first | (with_reducible assumption) | assumption))
                   replace q18 := eq_true q18
                   refine start_ (n := 15) (S := fun w' => True) (ds := []) #[false, false, false, false, false, false, false, false, false, false, false, false, false, false, false] (by kernel_rfl) rfl rfl trivial (fun hHeld => ?_); refine with_tabW ddiref36_Decode.tab3 ddiref36_Decode.bits3 (fun HT_ HW_ => ?_)
                   generalize wc.drew = w33 at BK647 HB hHeld ⊢
                   refine pu0 (i := 0) (N := some 21) #[true, false, false, false, false, false, false, false, false, false, false, false, false, false, false] rfl rfl (any_of HT_.out (by kernel_rfl)) ?_
                   refine pu0 (i := 3) (N := some 24) #[true, false, false, true, false, false, false, false, false, false, false, false, false, false, false] rfl rfl (any_of HT_.out (by kernel_rfl)) ?_
                   refine pu0 (i := 4) (N := some 25) #[true, false, false, true, true, false, false, false, false, false, false, false, false, false, false] rfl rfl (any_of HT_.out (by kernel_rfl)) ?_
                   refine pu0 (i := 6) (N := some 27) #[true, false, false, true, true, false, true, false, false, false, false, false, false, false, false] rfl rfl (any_of HT_.out (by kernel_rfl)) ?_
                   refine pu0 (i := 7) (N := some 28) #[true, false, false, true, true, false, true, true, false, false, false, false, false, false, false] rfl rfl (any_of HT_.out (by kernel_rfl)) ?_
                   refine pu0 (i := 9) (N := some 30) #[true, false, false, true, true, false, true, true, false, true, false, false, false, false, false] rfl rfl (any_of HT_.out (by kernel_rfl)) ?_
                   refine ta0 (i := 1) (N := some 22) #[true, true, false, true, true, false, true, true, false, true, false, false, false, false, false] rfl rfl (take_ofW HT_.out HW_.out (by kernel_rfl)) hHeld ?_
                   refine pu0 (i := 2) (N := some 23) #[true, true, true, true, true, false, true, true, false, true, false, false, false, false, false] rfl rfl (any_of HT_.out (by kernel_rfl)) ?_
                   refine ta0 (i := 10) (N := some 31) #[true, true, true, true, true, false, true, true, false, true, true, false, false, false, false] rfl rfl (take_ofW HT_.out HW_.out (by kernel_rfl)) hHeld ?_
                   refine pu0 (i := 11) (N := some 32) #[true, true, true, true, true, false, true, true, false, true, true, true, false, false, false] rfl rfl (any_of HT_.out (by kernel_rfl)) ?_
                   refine join_ (σ := Nat) 1 #[true, true, true, true, true, true, true, true, true, true, true, true, true, true, false] (fun s_ => [(26, .int .i64 t648), (29, .int .i64 t649), (4, .pointer (some ⟨s_, 0, none⟩)), (33, .agg #[.int .i64 (wrap64 (bt a0 1)), .int .i64 t648, .int .i64 t649, .string (⟨#[]⟩ : ByteArray), .bool false, .int .u64 0, .int .u64 0, .bool false, .int .u64 0, .int .u64 0, .bool false, .int .u64 0, .int .u64 0, .bool ((bt a0 20) == 1), .slice none 0 0])]) (fun s_ w' => (w'.heap[gb647]? = some (.cells #[.int .i64 0, .int .i64 0, .int .i64 0, .string (⟨#[]⟩ : ByteArray), .bool false, .int .u64 0, .int .u64 0, .bool false, .int .u64 0, .int .u64 0, .bool false, .int .u64 0, .int .u64 0, .bool false, .slice none 0 0] 27 (0, 0))) ∧ (w'.heap[s_]? = some (.cells #[.int .i64 0, .int .i64 0, .int .i64 0, .string (⟨#[]⟩ : ByteArray), .bool false, .int .u64 0, .int .u64 0, .bool false, .int .u64 0, .int .u64 0, .bool false, .int .u64 0, .int .u64 0, .bool false, .slice none 0 0] 27 (0, 0))) ∧ (w.heap.size ≤ s_) ∧ (w.heap.size ≤ s_) ∧ (gb647 ≠ s_) ∧ (s_ ≠ gb647) ∧ (Below w.heap.size w w')) ?_ ?_
                   rotate_left
                   ·intro hCont
                    refine two_ (i := 5) (j := 13) (Ni := some 26) (Nj := some 4) #[true, true, true, true, true, true, true, true, false, true, true, true, false, false, false] #[true, true, true, true, true, false, true, true, false, true, true, true, false, true, false] rfl rfl rfl rfl (two_of HT_.out (by kernel_rfl)) (by decide) (by decide) (fun K hK => ?_) (fun K hK => ?_)
                    ·skip
                     refine goes_ Tryd.func52 (by kernel_rfl) rfl #[.string (a0.extract 2 6)] (by rfl) rfl rfl (by (try simp only [List.map_toArray, List.map_cons, List.map_nil]); first | done | rfl | (simp only [List.length_drop, List.length_take]; rfl)) ?_
                     with_reducible refine (ddiref36_number.calls kj1 (a0.extract 2 6) t648 _ A13.out).mono ?_
                     rintro e w' ⟨rfl, ⟨nd, rfl⟩⟩
                     refine ⟨_, rfl, ?_⟩
                     refine hK.out _ _ trivial (fun hHeld => ?_)
                     clear hK K
                     refine norm_ (a' := ?_) ?_ ?_
                     rotate_left
                     ·show Act.put _ (some 26) _ = _
                      simp only [Act.put, List.setIfInBounds_toArray, List.set_cons_zero, List.set_cons_succ, i64_w, i32_w]
                      rfl
                     refine two_ (i := 8) (j := 13) (Ni := some 29) (Nj := some 4) #[true, true, true, true, true, true, true, true, true, true, true, true, false, false, false] #[true, true, true, true, true, true, true, true, false, true, true, true, false, true, false] rfl rfl rfl rfl (two_of HT_.out (by kernel_rfl)) (by decide) (by decide) (fun K hK => ?_) (fun K hK => ?_)
                     ·skip
                      refine goes_ Tryd.func52 (by kernel_rfl) rfl #[.string (a0.extract 6 8)] (by rfl) rfl rfl (by (try simp only [List.map_toArray, List.map_cons, List.map_nil]); first | done | rfl | (simp only [List.length_drop, List.length_take]; rfl)) ?_
                      with_reducible refine (ddiref36_number.calls kj1 (a0.extract 6 8) t649 _ A16.out).mono ?_
                      rintro e w' ⟨rfl, ⟨nd, rfl⟩⟩
                      refine ⟨_, rfl, ?_⟩
                      refine hK.out _ _ trivial (fun hHeld => ?_)
                      clear hK K
                      refine norm_ (a' := ?_) ?_ ?_
                      rotate_left
                      ·show Act.put _ (some 29) _ = _
                       simp only [Act.put, List.setIfInBounds_toArray, List.set_cons_zero, List.set_cons_succ, i64_w, i32_w]
                       rfl
                      refine pu0 (i := 12) (N := some 33) #[true, true, true, true, true, true, true, true, true, true, true, true, true, false, false] rfl rfl (any_of HT_.out (by kernel_rfl)) ?_
                      refine one_ (i := 13) (N := some 4) #[true, true, true, true, true, true, true, true, true, true, true, true, true, true, false] rfl rfl (one_of HT_.out (by kernel_rfl)) (by decide) (fun K hK => ?_)
                      refine box_step ?hg (N := 4) ?hd (cs := #[.int .i64 0, .int .i64 0, .int .i64 0, .string (⟨#[]⟩ : ByteArray), .bool false, .int .u64 0, .int .u64 0, .bool false, .int .u64 0, .int .u64 0, .bool false, .int .u64 0, .int .u64 0, .bool false, .slice none 0 0]) (t := 27) ?hr ?_; (case hd => rfl); (case hg => rfl); (case hr => first | (go_simp; done) | (go_simp; rfl))
                      intro gb650 hg w34 hbox hb
                      have n0_ := Aside0.mk (blk_below (bkx BK647.out) hb)
                      have n1_ := Aside0.mk (below_step (hbx HB.out) hb)
                      have n2_ := Aside0.mk (hbox)
                      have n3_ := Aside0.mk ((by rw [hg]; exact (below_size (hbx HB.out)) : w.heap.size ≤ gb650))
                      have n4_ := Aside0.mk ((by rw [hg]; exact (below_size (hbx HB.out)) : w.heap.size ≤ gb650))
                      have n5_ := Aside0.mk ((by rw [hg]; exact Nat.ne_of_lt (blk_lt (bkx BK647.out)) : gb647 ≠ gb650))
                      have n6_ := Aside0.mk ((by rw [hg]; exact Nat.ne_of_gt (blk_lt (bkx BK647.out)) : gb650 ≠ gb647))
                      clear BK647
                      clear HB
                      have BK647 := n0_
                      have HB := n1_
                      have BK650 := n2_
                      have GW650 := n3_
                      have GE650 := n4_
                      have NB647_650 := n5_
                      have NB650_647 := n6_
                      clear n0_ n1_ n2_ n3_ n4_ n5_ n6_
                      clear hb hbox hg
                      refine hK.out _ _ trivial (fun hHeld => ?_)
                      clear hK K
                      refine norm_ (a' := ?_) ?_ ?_
                      rotate_left
                      ·show Act.put _ (some 4) _ = _
                       simp only [Act.put, List.setIfInBounds_toArray, List.set_cons_zero, List.set_cons_succ, i64_w, i32_w]
                       rfl
                      exact norm_ (by simp only [putAll, Act.put, List.setIfInBounds_toArray, List.set_cons_zero, List.set_cons_succ]) (hCont (gb650) _ ⟨(bkx BK647.out), (bkx BK650.out), GW650.out, GE650.out, NB647_650.out, NB650_647.out, (hbx HB.out)⟩)
                     ·skip
                      refine box_step ?hg (N := 4) ?hd (cs := #[.int .i64 0, .int .i64 0, .int .i64 0, .string (⟨#[]⟩ : ByteArray), .bool false, .int .u64 0, .int .u64 0, .bool false, .int .u64 0, .int .u64 0, .bool false, .int .u64 0, .int .u64 0, .bool false, .slice none 0 0]) (t := 27) ?hr ?_; (case hd => rfl); (case hg => rfl); (case hr => first | (go_simp; done) | (go_simp; rfl))
                      intro gb650 hg w34 hbox hb
                      have n0_ := Aside0.mk (blk_below (bkx BK647.out) hb)
                      have n1_ := Aside0.mk (below_step (hbx HB.out) hb)
                      have n2_ := Aside0.mk (hbox)
                      have n3_ := Aside0.mk ((by rw [hg]; exact (below_size (hbx HB.out)) : w.heap.size ≤ gb650))
                      have n4_ := Aside0.mk ((by rw [hg]; exact (below_size (hbx HB.out)) : w.heap.size ≤ gb650))
                      have n5_ := Aside0.mk ((by rw [hg]; exact Nat.ne_of_lt (blk_lt (bkx BK647.out)) : gb647 ≠ gb650))
                      have n6_ := Aside0.mk ((by rw [hg]; exact Nat.ne_of_gt (blk_lt (bkx BK647.out)) : gb650 ≠ gb647))
                      clear BK647
                      clear HB
                      have BK647 := n0_
                      have HB := n1_
                      have BK650 := n2_
                      have GW650 := n3_
                      have GE650 := n4_
                      have NB647_650 := n5_
                      have NB650_647 := n6_
                      clear n0_ n1_ n2_ n3_ n4_ n5_ n6_
                      clear hb hbox hg
                      refine hK.out _ _ trivial (fun hHeld => ?_)
                      clear hK K
                      refine norm_ (a' := ?_) ?_ ?_
                      rotate_left
                      ·show Act.put _ (some 4) _ = _
                       simp only [Act.put, List.setIfInBounds_toArray, List.set_cons_zero, List.set_cons_succ, i64_w, i32_w]
                       rfl
                      refine one_ (i := 8) (N := some 29) #[true, true, true, true, true, true, true, true, true, true, true, true, false, true, false] rfl rfl (one_of HT_.out (by kernel_rfl)) (by decide) (fun K hK => ?_)
                      refine goes_ Tryd.func52 (by kernel_rfl) rfl #[.string (a0.extract 6 8)] (by rfl) rfl rfl (by (try simp only [List.map_toArray, List.map_cons, List.map_nil]); first | done | rfl | (simp only [List.length_drop, List.length_take]; rfl)) ?_
                      with_reducible refine (ddiref36_number.calls kj1 (a0.extract 6 8) t649 _ A16.out).mono ?_
                      rintro e w' ⟨rfl, ⟨nd, rfl⟩⟩
                      refine ⟨_, rfl, ?_⟩
                      refine hK.out _ _ trivial (fun hHeld => ?_)
                      clear hK K
                      refine norm_ (a' := ?_) ?_ ?_
                      rotate_left
                      ·show Act.put _ (some 29) _ = _
                       simp only [Act.put, List.setIfInBounds_toArray, List.set_cons_zero, List.set_cons_succ, i64_w, i32_w]
                       rfl
                      refine pu0 (i := 12) (N := some 33) #[true, true, true, true, true, true, true, true, true, true, true, true, true, true, false] rfl rfl (any_of HT_.out (by kernel_rfl)) ?_
                      exact norm_ (by simp only [putAll, Act.put, List.setIfInBounds_toArray, List.set_cons_zero, List.set_cons_succ]) (hCont (gb650) _ ⟨(bkx BK647.out), (bkx BK650.out), GW650.out, GE650.out, NB647_650.out, NB650_647.out, (hbx HB.out)⟩)
                    ·skip
                     refine box_step ?hg (N := 4) ?hd (cs := #[.int .i64 0, .int .i64 0, .int .i64 0, .string (⟨#[]⟩ : ByteArray), .bool false, .int .u64 0, .int .u64 0, .bool false, .int .u64 0, .int .u64 0, .bool false, .int .u64 0, .int .u64 0, .bool false, .slice none 0 0]) (t := 27) ?hr ?_; (case hd => rfl); (case hg => rfl); (case hr => first | (go_simp; done) | (go_simp; rfl))
                     intro gb650 hg w34 hbox hb
                     have n0_ := Aside0.mk (blk_below (bkx BK647.out) hb)
                     have n1_ := Aside0.mk (below_step (hbx HB.out) hb)
                     have n2_ := Aside0.mk (hbox)
                     have n3_ := Aside0.mk ((by rw [hg]; exact (below_size (hbx HB.out)) : w.heap.size ≤ gb650))
                     have n4_ := Aside0.mk ((by rw [hg]; exact (below_size (hbx HB.out)) : w.heap.size ≤ gb650))
                     have n5_ := Aside0.mk ((by rw [hg]; exact Nat.ne_of_lt (blk_lt (bkx BK647.out)) : gb647 ≠ gb650))
                     have n6_ := Aside0.mk ((by rw [hg]; exact Nat.ne_of_gt (blk_lt (bkx BK647.out)) : gb650 ≠ gb647))
                     clear BK647
                     clear HB
                     have BK647 := n0_
                     have HB := n1_
                     have BK650 := n2_
                     have GW650 := n3_
                     have GE650 := n4_
                     have NB647_650 := n5_
                     have NB650_647 := n6_
                     clear n0_ n1_ n2_ n3_ n4_ n5_ n6_
                     clear hb hbox hg
                     refine hK.out _ _ trivial (fun hHeld => ?_)
                     clear hK K
                     refine norm_ (a' := ?_) ?_ ?_
                     rotate_left
                     ·show Act.put _ (some 4) _ = _
                      simp only [Act.put, List.setIfInBounds_toArray, List.set_cons_zero, List.set_cons_succ, i64_w, i32_w]
                      rfl
                     refine one_ (i := 5) (N := some 26) #[true, true, true, true, true, true, true, true, false, true, true, true, false, true, false] rfl rfl (one_of HT_.out (by kernel_rfl)) (by decide) (fun K hK => ?_)
                     refine goes_ Tryd.func52 (by kernel_rfl) rfl #[.string (a0.extract 2 6)] (by rfl) rfl rfl (by (try simp only [List.map_toArray, List.map_cons, List.map_nil]); first | done | rfl | (simp only [List.length_drop, List.length_take]; rfl)) ?_
                     with_reducible refine (ddiref36_number.calls kj1 (a0.extract 2 6) t648 _ A13.out).mono ?_
                     rintro e w' ⟨rfl, ⟨nd, rfl⟩⟩
                     refine ⟨_, rfl, ?_⟩
                     refine hK.out _ _ trivial (fun hHeld => ?_)
                     clear hK K
                     refine norm_ (a' := ?_) ?_ ?_
                     rotate_left
                     ·show Act.put _ (some 26) _ = _
                      simp only [Act.put, List.setIfInBounds_toArray, List.set_cons_zero, List.set_cons_succ, i64_w, i32_w]
                      rfl
                     refine one_ (i := 8) (N := some 29) #[true, true, true, true, true, true, true, true, true, true, true, true, false, true, false] rfl rfl (one_of HT_.out (by kernel_rfl)) (by decide) (fun K hK => ?_)
                     refine goes_ Tryd.func52 (by kernel_rfl) rfl #[.string (a0.extract 6 8)] (by rfl) rfl rfl (by (try simp only [List.map_toArray, List.map_cons, List.map_nil]); first | done | rfl | (simp only [List.length_drop, List.length_take]; rfl)) ?_
                     with_reducible refine (ddiref36_number.calls kj1 (a0.extract 6 8) t649 _ A16.out).mono ?_
                     rintro e w' ⟨rfl, ⟨nd, rfl⟩⟩
                     refine ⟨_, rfl, ?_⟩
                     refine hK.out _ _ trivial (fun hHeld => ?_)
                     clear hK K
                     refine norm_ (a' := ?_) ?_ ?_
                     rotate_left
                     ·show Act.put _ (some 29) _ = _
                      simp only [Act.put, List.setIfInBounds_toArray, List.set_cons_zero, List.set_cons_succ, i64_w, i32_w]
                      rfl
                     refine pu0 (i := 12) (N := some 33) #[true, true, true, true, true, true, true, true, true, true, true, true, true, true, false] rfl rfl (any_of HT_.out (by kernel_rfl)) ?_
                     exact norm_ (by simp only [putAll, Act.put, List.setIfInBounds_toArray, List.set_cons_zero, List.set_cons_succ]) (hCont (gb650) _ ⟨(bkx BK647.out), (bkx BK650.out), GW650.out, GE650.out, NB647_650.out, NB650_647.out, (hbx HB.out)⟩)
                   rintro gb650 w35 ⟨h0_, h1_, h2_, h3_, h4_, h5_, h6_⟩
                   have n0_ : Aside0 (w35.heap[gb647]? = some (.cells #[.int .i64 0, .int .i64 0, .int .i64 0, .string (⟨#[]⟩ : ByteArray), .bool false, .int .u64 0, .int .u64 0, .bool false, .int .u64 0, .int .u64 0, .bool false, .int .u64 0, .int .u64 0, .bool false, .slice none 0 0] 27 (0, 0))) := ⟨h0_⟩
                   have n1_ : Aside0 (w35.heap[gb650]? = some (.cells #[.int .i64 0, .int .i64 0, .int .i64 0, .string (⟨#[]⟩ : ByteArray), .bool false, .int .u64 0, .int .u64 0, .bool false, .int .u64 0, .int .u64 0, .bool false, .int .u64 0, .int .u64 0, .bool false, .slice none 0 0] 27 (0, 0))) := ⟨h1_⟩
                   have n2_ : Aside0 (w.heap.size ≤ gb650) := ⟨h2_⟩
                   have n3_ : Aside0 (w.heap.size ≤ gb650) := ⟨h3_⟩
                   have n4_ : Aside0 (gb647 ≠ gb650) := ⟨h4_⟩
                   have n5_ : Aside0 (gb650 ≠ gb647) := ⟨h5_⟩
                   have n6_ : Aside0 (Below w.heap.size w w35) := ⟨h6_⟩
                   clear BK647
                   clear HB
                   clear h0_ h1_ h2_ h3_ h4_ h5_ h6_
                   have BK647 := n0_
                   have BK650 := n1_
                   have GW650 := n2_
                   have GE650 := n3_
                   have NB647_650 := n4_
                   have NB650_647 := n5_
                   have HB := n6_
                   clear n0_ n1_ n2_ n3_ n4_ n5_ n6_
                   have hHeld := trivial
                   refine norm_ (a' := ?_) ?_ ?_
                   rotate_left
                   ·simp only [putAll, Act.put, List.setIfInBounds_toArray, List.set_cons_zero, List.set_cons_succ]
                    rfl
                   refine one_ (i := 14) (N := none) #[true, true, true, true, true, true, true, true, true, true, true, true, true, true, true] rfl rfl (one_of HT_.out (by kernel_rfl)) (by decide) (fun K hK => ?_)
                   have hs36 : w35.cell? ⟨gb650, 0, none⟩ = some (.int .i64 0) := (blk_cell BK650.out 0).trans rfl
                   have hfs36 := blk_frozen BK650.out 0
                   have hns36_0 := NB647_650.out
                   have hms36_0 := NB650_647.out
                   have hs37 : w35.cell? ⟨gb650, 1, none⟩ = some (.int .i64 0) := (blk_cell BK650.out 1).trans rfl
                   have hfs37 := blk_frozen BK650.out 1
                   have hns37_0 := NB647_650.out
                   have hms37_0 := NB650_647.out
                   have hs38 : w35.cell? ⟨gb650, 2, none⟩ = some (.int .i64 0) := (blk_cell BK650.out 2).trans rfl
                   have hfs38 := blk_frozen BK650.out 2
                   have hns38_0 := NB647_650.out
                   have hms38_0 := NB650_647.out
                   have hs39 : w35.cell? ⟨gb650, 3, none⟩ = some (.string (⟨#[]⟩ : ByteArray)) := (blk_cell BK650.out 3).trans rfl
                   have hfs39 := blk_frozen BK650.out 3
                   have hns39_0 := NB647_650.out
                   have hms39_0 := NB650_647.out
                   have hs40 : w35.cell? ⟨gb650, 4, none⟩ = some (.bool false) := (blk_cell BK650.out 4).trans rfl
                   have hfs40 := blk_frozen BK650.out 4
                   have hns40_0 := NB647_650.out
                   have hms40_0 := NB650_647.out
                   have hs41 : w35.cell? ⟨gb650, 5, none⟩ = some (.int .u64 0) := (blk_cell BK650.out 5).trans rfl
                   have hfs41 := blk_frozen BK650.out 5
                   have hns41_0 := NB647_650.out
                   have hms41_0 := NB650_647.out
                   have hs42 : w35.cell? ⟨gb650, 6, none⟩ = some (.int .u64 0) := (blk_cell BK650.out 6).trans rfl
                   have hfs42 := blk_frozen BK650.out 6
                   have hns42_0 := NB647_650.out
                   have hms42_0 := NB650_647.out
                   have hs43 : w35.cell? ⟨gb650, 7, none⟩ = some (.bool false) := (blk_cell BK650.out 7).trans rfl
                   have hfs43 := blk_frozen BK650.out 7
                   have hns43_0 := NB647_650.out
                   have hms43_0 := NB650_647.out
                   have hs44 : w35.cell? ⟨gb650, 8, none⟩ = some (.int .u64 0) := (blk_cell BK650.out 8).trans rfl
                   have hfs44 := blk_frozen BK650.out 8
                   have hns44_0 := NB647_650.out
                   have hms44_0 := NB650_647.out
                   have hs45 : w35.cell? ⟨gb650, 9, none⟩ = some (.int .u64 0) := (blk_cell BK650.out 9).trans rfl
                   have hfs45 := blk_frozen BK650.out 9
                   have hns45_0 := NB647_650.out
                   have hms45_0 := NB650_647.out
                   have hs46 : w35.cell? ⟨gb650, 10, none⟩ = some (.bool false) := (blk_cell BK650.out 10).trans rfl
                   have hfs46 := blk_frozen BK650.out 10
                   have hns46_0 := NB647_650.out
                   have hms46_0 := NB650_647.out
                   have hs47 : w35.cell? ⟨gb650, 11, none⟩ = some (.int .u64 0) := (blk_cell BK650.out 11).trans rfl
                   have hfs47 := blk_frozen BK650.out 11
                   have hns47_0 := NB647_650.out
                   have hms47_0 := NB650_647.out
                   have hs48 : w35.cell? ⟨gb650, 12, none⟩ = some (.int .u64 0) := (blk_cell BK650.out 12).trans rfl
                   have hfs48 := blk_frozen BK650.out 12
                   have hns48_0 := NB647_650.out
                   have hms48_0 := NB650_647.out
                   have hs49 : w35.cell? ⟨gb650, 13, none⟩ = some (.bool false) := (blk_cell BK650.out 13).trans rfl
                   have hfs49 := blk_frozen BK650.out 13
                   have hns49_0 := NB647_650.out
                   have hms49_0 := NB650_647.out
                   have hs50 : w35.cell? ⟨gb650, 14, none⟩ = some (.slice none 0 0) := (blk_cell BK650.out 14).trans rfl
                   have hfs50 := blk_frozen BK650.out 14
                   have hns50_0 := NB647_650.out
                   have hms50_0 := NB650_647.out
                   refine skip_ (w1 := ?_) (by rfl) rfl ?_ ?_
                   rotate_left
                   ·go_simp
                    rfl
                   refine hK.out _ _ trivial (fun hHeld => ?_)
                   clear hK K
                   refine done_ (done_of HT_.out (by kernel_rfl)) ?_
                   go_upto_region 9 with (first | ((with_reducible refine gate_callee (f := 52) rfl ?_); refine goesL_ (some 36) rfl rfl Tryd.func52 (by kernel_rfl) rfl #[.string (a0.extract 8 12)] rfl (by (try simp only [List.map_toArray, List.map_cons, List.map_nil]); first | done | rfl | (simp only [List.length_drop, List.length_take]; rfl)) ?_; (with_reducible refine (ddiref36_number.calls kj1 (a0.extract 8 12) t651 _ A21.out).mono ?_); rintro e w' ⟨rfl, ⟨nd, rfl⟩⟩; refine ⟨_, rfl, ?_⟩; have hnb51 := NB650_647.out; have hnc51 := NB647_650.out; obtain ⟨⟨hcz52_0, hcz52_1, hcz52_2, hcz52_3, hcz52_4, hcz52_5, hcz52_6, hcz52_7, hcz52_8, hcz52_9, hcz52_10, hcz52_11, hcz52_12, hcz52_13, hcz52_14⟩, hfz52_0, hfz52_1, hfz52_2, hfz52_3, hfz52_4, hfz52_5, hfz52_6, hfz52_7, hfz52_8, hfz52_9, hfz52_10, hfz52_11, hfz52_12, hfz52_13, hfz52_14⟩ := cf15 BK650.out) | ((with_reducible refine gate_callee (f := 52) rfl ?_); refine goesL_ (some 42) rfl rfl Tryd.func52 (by kernel_rfl) rfl #[.string (a0.extract 12 16)] rfl (by (try simp only [List.map_toArray, List.map_cons, List.map_nil]); first | done | rfl | (simp only [List.length_drop, List.length_take]; rfl)) ?_; (with_reducible refine (ddiref36_number.calls kj1 (a0.extract 12 16) t652 _ A24.out).mono ?_); rintro e w' ⟨rfl, ⟨nd, rfl⟩⟩; refine ⟨_, rfl, ?_⟩) | ((with_reducible refine gate_callee (f := 52) rfl ?_); refine goesL_ (some 48) rfl rfl Tryd.func52 (by kernel_rfl) rfl #[.string (a0.extract 16 20)] rfl (by (try simp only [List.map_toArray, List.map_cons, List.map_nil]); first | done | rfl | (simp only [List.length_drop, List.length_take]; rfl)) ?_; (with_reducible refine (ddiref36_number.calls kj1 (a0.extract 16 20) t653 _ A27.out).mono ?_); rintro e w' ⟨rfl, ⟨nd, rfl⟩⟩; refine ⟨_, rfl, ?_⟩; have p29 : 0 ≤ (21 : Int) := (by omega); have q29 : 21 < a0.size := (by have : (21 : Int) < (a0.size : Int) := of_decide_eq_true (by first | (with_reducible assumption) | assumption); omega); have hx29 : ∀ h : 21 < a0.size, ((a0[21]'h).toNat : Int) = bt a0 21 := bt_at a0 21; clear p29; have qi29 : (21 < (a0.size : Int)) = True := eq_true (of_decide_eq_true (by first | (with_reducible assumption) | assumption)); replace q29 := eq_true q29))
                   (try simp only [Act.put, List.setIfInBounds_toArray, List.set_cons_zero, List.set_cons_succ])
                   go_cut [86] (fun v86 wc => ∃ (kq : Nat) (x86_31 : Bool), v86 = .bool x86_31 ∧ Aside0 (ddiref36_Decode.j1 kq a0 (wrap64 (22 + (wrap64 (bt a0 21)))) x86_31 (wrap64 (bt a0 1)) t648 t649 (a0.extract 22 ((wrap64 (22 + (wrap64 (bt a0 21)))) : Int).toNat) false 0 (IntKind.u64.wrap (t651)) false 0 (IntKind.u64.wrap (t652)) false 0 (IntKind.u64.wrap (t653)) ((bt a0 20) == 1) = some (r1, r2, r3, r4, r5, r6, r7, r8, r9, r10, r11, r12, r13, r14, r15, r16)) ∧ Aside0 (kq ≤ kj1) ∧ Aside0 (wc.heap[gb647]? = some (.cells #[.int .i64 0, .int .i64 0, .int .i64 0, .string (⟨#[]⟩ : ByteArray), .bool false, .int .u64 0, .int .u64 0, .bool false, .int .u64 0, .int .u64 0, .bool false, .int .u64 0, .int .u64 0, .bool false, (.slice none 0 0)] 27 (0, 0))) ∧ Aside0 (wc.heap[gb650]? = some (.cells #[.int .i64 (wrap64 (bt a0 1)), .int .i64 t648, .int .i64 t649, .string (a0.extract 22 ((wrap64 (22 + (wrap64 (bt a0 21)))) : Int).toNat), .bool false, .int .u64 0, .int .u64 (IntKind.u64.wrap (t651)), .bool false, .int .u64 0, .int .u64 (IntKind.u64.wrap (t652)), .bool false, .int .u64 0, .int .u64 (IntKind.u64.wrap (t653)), .bool ((bt a0 20) == 1), (.slice none 0 0)] 27 (0, 0))) ∧ Aside0 (Below w.heap.size w wc))
                   case first =>
                    have H := HC32.out
                    clear HC32
                    by_cases c53 : (wrap64 (bt a0 1)) < 1
                    ·rw [if_pos c53] at H
                     have c53b0 : decide ((wrap64 (bt a0 1)) < 1) = true := decide_eq_true c53
                     clear c53
                     (first | rw [c53b0] | (simp only [i64_w, i32_w]; rw [c53b0]) | skip)
                     have H' := Aside0.mk H
                     clear H
                     try go_wp2
                     refine gen_wp (fun W_ => (W_.heap[gb647]? = some (.cells #[.int .i64 0, .int .i64 0, .int .i64 0, .string (⟨#[]⟩ : ByteArray), .bool false, .int .u64 0, .int .u64 0, .bool false, .int .u64 0, .int .u64 0, .bool false, .int .u64 0, .int .u64 0, .bool false, .slice none 0 0] 27 (0, 0))) ∧ (W_.heap[gb650]? = some (.cells #[.int .i64 (wrap64 (bt a0 1)), .int .i64 t648, .int .i64 t649, .string (a0.extract 22 ((wrap64 (22 + (wrap64 (bt a0 21)))) : Int).toNat), .bool false, .int .u64 0, .int .u64 (IntKind.u64.wrap (t651)), .bool false, .int .u64 0, .int .u64 (IntKind.u64.wrap (t652)), .bool false, .int .u64 0, .int .u64 (IntKind.u64.wrap (t653)), .bool ((bt a0 20) == 1), .slice none 0 0] 27 (0, 0))) ∧ (Below w.heap.size w W_)) ⟨bkx BK647.out, bkp BK650.out, hbx HB.out⟩ (fun w54 HF_ => ?_)
                     (try clear BK647)
                     (try clear BK650)
                     (try clear HB)
                     have n0_ := Aside0.mk HF_.1
                     have n1_ := Aside0.mk HF_.2.1
                     have n2_ := Aside0.mk HF_.2.2
                     clear HF_
                     have BK647 := n0_
                     have BK650 := n1_
                     have HB := n2_
                     clear n0_ n1_ n2_
                     have n0_ := Aside0.mk (blk_drew BK647.out)
                     have n1_ := Aside0.mk (blk_drew BK650.out)
                     have n2_ := Aside0.mk (below_drew1 HB.out)
                     clear BK647
                     clear BK650
                     clear HB
                     have BK647 := n0_
                     have BK650 := n1_
                     have HB := n2_
                     clear n0_ n1_ n2_
                     refine start_ (n := 27) (S := fun w' => w'.cell? ⟨gb650, 0, none⟩ = some (.int .i64 (wrap64 (bt a0 1))) ∧ w'.cell? ⟨gb650, 1, none⟩ = some (.int .i64 t648) ∧ w'.cell? ⟨gb650, 2, none⟩ = some (.int .i64 t649) ∧ w'.cell? ⟨gb650, 3, none⟩ = some (.string (a0.extract 22 ((wrap64 (22 + (wrap64 (bt a0 21)))) : Int).toNat)) ∧ w'.cell? ⟨gb650, 4, none⟩ = some (.bool false) ∧ w'.cell? ⟨gb650, 5, none⟩ = some (.int .u64 0) ∧ w'.cell? ⟨gb650, 6, none⟩ = some (.int .u64 (IntKind.u64.wrap (t651))) ∧ w'.cell? ⟨gb650, 7, none⟩ = some (.bool false) ∧ w'.cell? ⟨gb650, 8, none⟩ = some (.int .u64 0) ∧ w'.cell? ⟨gb650, 9, none⟩ = some (.int .u64 (IntKind.u64.wrap (t652))) ∧ w'.cell? ⟨gb650, 10, none⟩ = some (.bool false) ∧ w'.cell? ⟨gb650, 11, none⟩ = some (.int .u64 0) ∧ w'.cell? ⟨gb650, 12, none⟩ = some (.int .u64 (IntKind.u64.wrap (t653))) ∧ w'.cell? ⟨gb650, 13, none⟩ = some (.bool ((bt a0 20) == 1)) ∧ w'.cell? ⟨gb650, 14, none⟩ = some (.slice none 0 0)) (ds := []) #[false, false, false, false, false, false, false, false, false, false, false, false, false, false, false, false, false, false, false, false, false, false, false, false, false, false, false] (by kernel_rfl) rfl rfl ⟨(blk_cell BK650.out 0).trans rfl, (blk_cell BK650.out 1).trans rfl, (blk_cell BK650.out 2).trans rfl, (blk_cell BK650.out 3).trans rfl, (blk_cell BK650.out 4).trans rfl, (blk_cell BK650.out 5).trans rfl, (blk_cell BK650.out 6).trans rfl, (blk_cell BK650.out 7).trans rfl, (blk_cell BK650.out 8).trans rfl, (blk_cell BK650.out 9).trans rfl, (blk_cell BK650.out 10).trans rfl, (blk_cell BK650.out 11).trans rfl, (blk_cell BK650.out 12).trans rfl, (blk_cell BK650.out 13).trans rfl, (blk_cell BK650.out 14).trans rfl⟩ (fun hHeld => ?_); refine with_tabW ddiref36_Decode.tab9 ddiref36_Decode.bits9 (fun HT_ HW_ => ?_)
                     generalize w54.drew = w55 at BK647 BK650 HB hHeld ⊢
                     refine pu0 (i := 0) (N := some 60) #[true, false, false, false, false, false, false, false, false, false, false, false, false, false, false, false, false, false, false, false, false, false, false, false, false, false, false] rfl rfl (any_of HT_.out (by kernel_rfl)) ?_
                     refine take_ (i := 1) (N := some 61) (v := ?_) (a' := ?_) #[true, true, false, false, false, false, false, false, false, false, false, false, false, false, false, false, false, false, false, false, false, false, false, false, false, false, false] rfl rfl (take_ofW HT_.out HW_.out (by kernel_rfl)) (fun _ _ _ h => h) (Or.inl ⟨by rfl, ?_⟩) hHeld ?_ ?_
                     rotate_left
                     ·rintro w' ⟨s0, s1, s2, s3, s4, s5, s6, s7, s8, s9, s10, s11, s12, s13, s14⟩
                      go_simp
                      with_reducible rfl
                     rotate_left
                     ·simp only [Act.put, List.setIfInBounds_toArray, List.set_cons_zero, List.set_cons_succ, i64_w, i32_w]
                      rfl
                     refine pu0 (i := 2) (N := some 62) #[true, true, true, false, false, false, false, false, false, false, false, false, false, false, false, false, false, false, false, false, false, false, false, false, false, false, false] rfl rfl (any_of HT_.out (by kernel_rfl)) ?_
                     refine pu0 (i := 3) (N := some 63) #[true, true, true, true, false, false, false, false, false, false, false, false, false, false, false, false, false, false, false, false, false, false, false, false, false, false, false] rfl rfl (any_of HT_.out (by kernel_rfl)) ?_
                     refine pure_ (i := 4) (N := some 64) (v := undef) (a' := ?_) #[true, true, true, true, true, false, false, false, false, false, false, false, false, false, false, false, false, false, false, false, false, false, false, false, false, false, false] rfl rfl (any_of HT_.out (by kernel_rfl)) (fun _ _ _ h => h) (Or.inr ⟨by rfl, rfl⟩) ?_ ?_
                     rotate_left
                     ·simp only [Act.put, List.setIfInBounds_toArray, List.set_cons_zero, List.set_cons_succ, i64_w, i32_w]
                      rfl
                     refine pure_ (i := 5) (N := some 65) (v := undef) (a' := ?_) #[true, true, true, true, true, true, false, false, false, false, false, false, false, false, false, false, false, false, false, false, false, false, false, false, false, false, false] rfl rfl (any_of HT_.out (by kernel_rfl)) (fun _ _ _ h => h) (Or.inr ⟨by rfl, rfl⟩) ?_ ?_
                     rotate_left
                     ·simp only [Act.put, List.setIfInBounds_toArray, List.set_cons_zero, List.set_cons_succ, i64_w, i32_w]
                      rfl
                     refine pure_ (i := 6) (N := some 66) (v := undef) (a' := ?_) #[true, true, true, true, true, true, true, false, false, false, false, false, false, false, false, false, false, false, false, false, false, false, false, false, false, false, false] rfl rfl (any_of HT_.out (by kernel_rfl)) (fun _ _ _ h => h) (Or.inr ⟨by rfl, rfl⟩) ?_ ?_
                     rotate_left
                     ·simp only [Act.put, List.setIfInBounds_toArray, List.set_cons_zero, List.set_cons_succ, i64_w, i32_w]
                      rfl
                     refine pu0 (i := 7) (N := some 67) #[true, true, true, true, true, true, true, true, false, false, false, false, false, false, false, false, false, false, false, false, false, false, false, false, false, false, false] rfl rfl (any_of HT_.out (by kernel_rfl)) ?_
                     refine pu0 (i := 8) (N := some 68) #[true, true, true, true, true, true, true, true, true, false, false, false, false, false, false, false, false, false, false, false, false, false, false, false, false, false, false] rfl rfl (any_of HT_.out (by kernel_rfl)) ?_
                     refine pure_ (i := 9) (N := some 69) (v := undef) (a' := ?_) #[true, true, true, true, true, true, true, true, true, true, false, false, false, false, false, false, false, false, false, false, false, false, false, false, false, false, false] rfl rfl (any_of HT_.out (by kernel_rfl)) (fun _ _ _ h => h) (Or.inr ⟨by rfl, rfl⟩) ?_ ?_
                     rotate_left
                     ·simp only [Act.put, List.setIfInBounds_toArray, List.set_cons_zero, List.set_cons_succ, i64_w, i32_w]
                      rfl
                     refine pure_ (i := 10) (N := some 70) (v := undef) (a' := ?_) #[true, true, true, true, true, true, true, true, true, true, true, false, false, false, false, false, false, false, false, false, false, false, false, false, false, false, false] rfl rfl (any_of HT_.out (by kernel_rfl)) (fun _ _ _ h => h) (Or.inr ⟨by rfl, rfl⟩) ?_ ?_
                     rotate_left
                     ·simp only [Act.put, List.setIfInBounds_toArray, List.set_cons_zero, List.set_cons_succ, i64_w, i32_w]
                      rfl
                     refine pure_ (i := 11) (N := some 71) (v := undef) (a' := ?_) #[true, true, true, true, true, true, true, true, true, true, true, true, false, false, false, false, false, false, false, false, false, false, false, false, false, false, false] rfl rfl (any_of HT_.out (by kernel_rfl)) (fun _ _ _ h => h) (Or.inr ⟨by rfl, rfl⟩) ?_ ?_
                     rotate_left
                     ·simp only [Act.put, List.setIfInBounds_toArray, List.set_cons_zero, List.set_cons_succ, i64_w, i32_w]
                      rfl
                     refine pure_ (i := 12) (N := some 72) (v := undef) (a' := ?_) #[true, true, true, true, true, true, true, true, true, true, true, true, true, false, false, false, false, false, false, false, false, false, false, false, false, false, false] rfl rfl (any_of HT_.out (by kernel_rfl)) (fun _ _ _ h => h) (Or.inr ⟨by rfl, rfl⟩) ?_ ?_
                     rotate_left
                     ·simp only [Act.put, List.setIfInBounds_toArray, List.set_cons_zero, List.set_cons_succ, i64_w, i32_w]
                      rfl
                     refine pure_ (i := 13) (N := some 73) (v := undef) (a' := ?_) #[true, true, true, true, true, true, true, true, true, true, true, true, true, true, false, false, false, false, false, false, false, false, false, false, false, false, false] rfl rfl (any_of HT_.out (by kernel_rfl)) (fun _ _ _ h => h) (Or.inr ⟨by rfl, rfl⟩) ?_ ?_
                     rotate_left
                     ·simp only [Act.put, List.setIfInBounds_toArray, List.set_cons_zero, List.set_cons_succ, i64_w, i32_w]
                      rfl
                     refine pure_ (i := 14) (N := some 74) (v := undef) (a' := ?_) #[true, true, true, true, true, true, true, true, true, true, true, true, true, true, true, false, false, false, false, false, false, false, false, false, false, false, false] rfl rfl (any_of HT_.out (by kernel_rfl)) (fun _ _ _ h => h) (Or.inr ⟨by rfl, rfl⟩) ?_ ?_
                     rotate_left
                     ·simp only [Act.put, List.setIfInBounds_toArray, List.set_cons_zero, List.set_cons_succ, i64_w, i32_w]
                      rfl
                     refine pure_ (i := 15) (N := some 75) (v := undef) (a' := ?_) #[true, true, true, true, true, true, true, true, true, true, true, true, true, true, true, true, false, false, false, false, false, false, false, false, false, false, false] rfl rfl (any_of HT_.out (by kernel_rfl)) (fun _ _ _ h => h) (Or.inr ⟨by rfl, rfl⟩) ?_ ?_
                     rotate_left
                     ·simp only [Act.put, List.setIfInBounds_toArray, List.set_cons_zero, List.set_cons_succ, i64_w, i32_w]
                      rfl
                     refine pu0 (i := 16) (N := some 76) #[true, true, true, true, true, true, true, true, true, true, true, true, true, true, true, true, true, false, false, false, false, false, false, false, false, false, false] rfl rfl (any_of HT_.out (by kernel_rfl)) ?_
                     refine pu0 (i := 17) (N := some 77) #[true, true, true, true, true, true, true, true, true, true, true, true, true, true, true, true, true, true, false, false, false, false, false, false, false, false, false] rfl rfl (any_of HT_.out (by kernel_rfl)) ?_
                     refine pure_ (i := 18) (N := some 78) (v := undef) (a' := ?_) #[true, true, true, true, true, true, true, true, true, true, true, true, true, true, true, true, true, true, true, false, false, false, false, false, false, false, false] rfl rfl (any_of HT_.out (by kernel_rfl)) (fun _ _ _ h => h) (Or.inr ⟨by rfl, rfl⟩) ?_ ?_
                     rotate_left
                     ·simp only [Act.put, List.setIfInBounds_toArray, List.set_cons_zero, List.set_cons_succ, i64_w, i32_w]
                      rfl
                     refine pure_ (i := 19) (N := some 79) (v := undef) (a' := ?_) #[true, true, true, true, true, true, true, true, true, true, true, true, true, true, true, true, true, true, true, true, false, false, false, false, false, false, false] rfl rfl (any_of HT_.out (by kernel_rfl)) (fun _ _ _ h => h) (Or.inr ⟨by rfl, rfl⟩) ?_ ?_
                     rotate_left
                     ·simp only [Act.put, List.setIfInBounds_toArray, List.set_cons_zero, List.set_cons_succ, i64_w, i32_w]
                      rfl
                     refine pure_ (i := 20) (N := some 80) (v := undef) (a' := ?_) #[true, true, true, true, true, true, true, true, true, true, true, true, true, true, true, true, true, true, true, true, true, false, false, false, false, false, false] rfl rfl (any_of HT_.out (by kernel_rfl)) (fun _ _ _ h => h) (Or.inr ⟨by rfl, rfl⟩) ?_ ?_
                     rotate_left
                     ·simp only [Act.put, List.setIfInBounds_toArray, List.set_cons_zero, List.set_cons_succ, i64_w, i32_w]
                      rfl
                     refine pu0 (i := 21) (N := some 81) #[true, true, true, true, true, true, true, true, true, true, true, true, true, true, true, true, true, true, true, true, true, true, false, false, false, false, false] rfl rfl (any_of HT_.out (by kernel_rfl)) ?_
                     refine pu0 (i := 22) (N := some 82) #[true, true, true, true, true, true, true, true, true, true, true, true, true, true, true, true, true, true, true, true, true, true, true, false, false, false, false] rfl rfl (any_of HT_.out (by kernel_rfl)) ?_
                     refine pure_ (i := 23) (N := some 83) (v := undef) (a' := ?_) #[true, true, true, true, true, true, true, true, true, true, true, true, true, true, true, true, true, true, true, true, true, true, true, true, false, false, false] rfl rfl (any_of HT_.out (by kernel_rfl)) (fun _ _ _ h => h) (Or.inr ⟨by rfl, rfl⟩) ?_ ?_
                     rotate_left
                     ·simp only [Act.put, List.setIfInBounds_toArray, List.set_cons_zero, List.set_cons_succ, i64_w, i32_w]
                      rfl
                     refine pure_ (i := 24) (N := some 84) (v := undef) (a' := ?_) #[true, true, true, true, true, true, true, true, true, true, true, true, true, true, true, true, true, true, true, true, true, true, true, true, true, false, false] rfl rfl (any_of HT_.out (by kernel_rfl)) (fun _ _ _ h => h) (Or.inr ⟨by rfl, rfl⟩) ?_ ?_
                     rotate_left
                     ·simp only [Act.put, List.setIfInBounds_toArray, List.set_cons_zero, List.set_cons_succ, i64_w, i32_w]
                      rfl
                     refine pure_ (i := 25) (N := some 85) (v := undef) (a' := ?_) #[true, true, true, true, true, true, true, true, true, true, true, true, true, true, true, true, true, true, true, true, true, true, true, true, true, true, false] rfl rfl (any_of HT_.out (by kernel_rfl)) (fun _ _ _ h => h) (Or.inr ⟨by rfl, rfl⟩) ?_ ?_
                     rotate_left
                     ·simp only [Act.put, List.setIfInBounds_toArray, List.set_cons_zero, List.set_cons_succ, i64_w, i32_w]
                      rfl
                     refine pu0 (i := 26) (N := some 86) #[true, true, true, true, true, true, true, true, true, true, true, true, true, true, true, true, true, true, true, true, true, true, true, true, true, true, true] rfl rfl (any_of HT_.out (by kernel_rfl)) ?_
                     refine done_ (done_of HT_.out (by kernel_rfl)) ?_
                     try go_wp2
                     go_meet
                     case rel => exact ⟨_, (true), (by first | rfl | (simp; done) | (simp [*]; done)), H', ⟨by have := HJ1.out; first | omega | exact Nat.le_refl _⟩, ⟨bkx BK647.out⟩, ⟨bkx BK650.out⟩, ⟨hbx HB.out⟩⟩
                    ·rw [if_neg c53] at H
                     have c53b0 : decide ((wrap64 (bt a0 1)) < 1) = false := decide_eq_false c53
                     clear c53
                     (first | rw [c53b0] | (simp only [i64_w, i32_w]; rw [c53b0]) | skip)
                     by_cases c56 : (wrap64 (bt a0 1)) > 8
                     ·rw [if_pos c56] at H
                      have c56b0 : decide (8 < (wrap64 (bt a0 1))) = true := decide_eq_true c56
                      clear c56
                      have H' := Aside0.mk H
                      clear H
                      try go_wp2
                      refine gen_wp (fun W_ => (W_.heap[gb647]? = some (.cells #[.int .i64 0, .int .i64 0, .int .i64 0, .string (⟨#[]⟩ : ByteArray), .bool false, .int .u64 0, .int .u64 0, .bool false, .int .u64 0, .int .u64 0, .bool false, .int .u64 0, .int .u64 0, .bool false, .slice none 0 0] 27 (0, 0))) ∧ (W_.heap[gb650]? = some (.cells #[.int .i64 (wrap64 (bt a0 1)), .int .i64 t648, .int .i64 t649, .string (a0.extract 22 ((wrap64 (22 + (wrap64 (bt a0 21)))) : Int).toNat), .bool false, .int .u64 0, .int .u64 (IntKind.u64.wrap (t651)), .bool false, .int .u64 0, .int .u64 (IntKind.u64.wrap (t652)), .bool false, .int .u64 0, .int .u64 (IntKind.u64.wrap (t653)), .bool ((bt a0 20) == 1), .slice none 0 0] 27 (0, 0))) ∧ (Below w.heap.size w W_)) ⟨bkx BK647.out, bkp BK650.out, hbx HB.out⟩ (fun w57 HF_ => ?_)
                      (try clear BK647)
                      (try clear BK650)
                      (try clear HB)
                      have n0_ := Aside0.mk HF_.1
                      have n1_ := Aside0.mk HF_.2.1
                      have n2_ := Aside0.mk HF_.2.2
                      clear HF_
                      have BK647 := n0_
                      have BK650 := n1_
                      have HB := n2_
                      clear n0_ n1_ n2_
                      have n0_ := Aside0.mk (blk_drew BK647.out)
                      have n1_ := Aside0.mk (blk_drew BK650.out)
                      have n2_ := Aside0.mk (below_drew1 HB.out)
                      clear BK647
                      clear BK650
                      clear HB
                      have BK647 := n0_
                      have BK650 := n1_
                      have HB := n2_
                      clear n0_ n1_ n2_
                      refine start_ (n := 27) (S := fun w' => w'.cell? ⟨gb650, 0, none⟩ = some (.int .i64 (wrap64 (bt a0 1))) ∧ w'.cell? ⟨gb650, 1, none⟩ = some (.int .i64 t648) ∧ w'.cell? ⟨gb650, 2, none⟩ = some (.int .i64 t649) ∧ w'.cell? ⟨gb650, 3, none⟩ = some (.string (a0.extract 22 ((wrap64 (22 + (wrap64 (bt a0 21)))) : Int).toNat)) ∧ w'.cell? ⟨gb650, 4, none⟩ = some (.bool false) ∧ w'.cell? ⟨gb650, 5, none⟩ = some (.int .u64 0) ∧ w'.cell? ⟨gb650, 6, none⟩ = some (.int .u64 (IntKind.u64.wrap (t651))) ∧ w'.cell? ⟨gb650, 7, none⟩ = some (.bool false) ∧ w'.cell? ⟨gb650, 8, none⟩ = some (.int .u64 0) ∧ w'.cell? ⟨gb650, 9, none⟩ = some (.int .u64 (IntKind.u64.wrap (t652))) ∧ w'.cell? ⟨gb650, 10, none⟩ = some (.bool false) ∧ w'.cell? ⟨gb650, 11, none⟩ = some (.int .u64 0) ∧ w'.cell? ⟨gb650, 12, none⟩ = some (.int .u64 (IntKind.u64.wrap (t653))) ∧ w'.cell? ⟨gb650, 13, none⟩ = some (.bool ((bt a0 20) == 1)) ∧ w'.cell? ⟨gb650, 14, none⟩ = some (.slice none 0 0)) (ds := []) #[false, false, false, false, false, false, false, false, false, false, false, false, false, false, false, false, false, false, false, false, false, false, false, false, false, false, false] (by kernel_rfl) rfl rfl ⟨(blk_cell BK650.out 0).trans rfl, (blk_cell BK650.out 1).trans rfl, (blk_cell BK650.out 2).trans rfl, (blk_cell BK650.out 3).trans rfl, (blk_cell BK650.out 4).trans rfl, (blk_cell BK650.out 5).trans rfl, (blk_cell BK650.out 6).trans rfl, (blk_cell BK650.out 7).trans rfl, (blk_cell BK650.out 8).trans rfl, (blk_cell BK650.out 9).trans rfl, (blk_cell BK650.out 10).trans rfl, (blk_cell BK650.out 11).trans rfl, (blk_cell BK650.out 12).trans rfl, (blk_cell BK650.out 13).trans rfl, (blk_cell BK650.out 14).trans rfl⟩ (fun hHeld => ?_); refine with_tabW ddiref36_Decode.tab9 ddiref36_Decode.bits9 (fun HT_ HW_ => ?_)
                      generalize w57.drew = w58 at BK647 BK650 HB hHeld ⊢
                      refine pu0 (i := 0) (N := some 60) #[true, false, false, false, false, false, false, false, false, false, false, false, false, false, false, false, false, false, false, false, false, false, false, false, false, false, false] rfl rfl (any_of HT_.out (by kernel_rfl)) ?_
                      refine take_ (i := 1) (N := some 61) (v := ?_) (a' := ?_) #[true, true, false, false, false, false, false, false, false, false, false, false, false, false, false, false, false, false, false, false, false, false, false, false, false, false, false] rfl rfl (take_ofW HT_.out HW_.out (by kernel_rfl)) (fun _ _ _ h => h) (Or.inl ⟨by rfl, ?_⟩) hHeld ?_ ?_
                      rotate_left
                      ·rintro w' ⟨s0, s1, s2, s3, s4, s5, s6, s7, s8, s9, s10, s11, s12, s13, s14⟩
                       go_simp
                       with_reducible rfl
                      rotate_left
                      ·simp only [Act.put, List.setIfInBounds_toArray, List.set_cons_zero, List.set_cons_succ, i64_w, i32_w]
                       rfl
                      refine pu0 (i := 2) (N := some 62) #[true, true, true, false, false, false, false, false, false, false, false, false, false, false, false, false, false, false, false, false, false, false, false, false, false, false, false] rfl rfl (any_of HT_.out (by kernel_rfl)) ?_
                      refine pu0 (i := 3) (N := some 63) #[true, true, true, true, false, false, false, false, false, false, false, false, false, false, false, false, false, false, false, false, false, false, false, false, false, false, false] rfl rfl (any_of HT_.out (by kernel_rfl)) ?_
                      refine pu0 (i := 4) (N := some 64) #[true, true, true, true, true, false, false, false, false, false, false, false, false, false, false, false, false, false, false, false, false, false, false, false, false, false, false] rfl rfl (any_of HT_.out (by kernel_rfl)) ?_
                      refine take_ (i := 5) (N := some 65) (v := ?_) (a' := ?_) #[true, true, true, true, true, true, false, false, false, false, false, false, false, false, false, false, false, false, false, false, false, false, false, false, false, false, false] rfl rfl (take_ofW HT_.out HW_.out (by kernel_rfl)) (fun _ _ _ h => h) (Or.inl ⟨by rfl, ?_⟩) hHeld ?_ ?_
                      rotate_left
                      ·rintro w' ⟨s0, s1, s2, s3, s4, s5, s6, s7, s8, s9, s10, s11, s12, s13, s14⟩
                       go_simp
                       with_reducible rfl
                      rotate_left
                      ·simp only [Act.put, List.setIfInBounds_toArray, List.set_cons_zero, List.set_cons_succ, i64_w, i32_w]
                       rfl
                      refine pu0 (i := 6) (N := some 66) #[true, true, true, true, true, true, true, false, false, false, false, false, false, false, false, false, false, false, false, false, false, false, false, false, false, false, false] rfl rfl (any_of HT_.out (by kernel_rfl)) ?_
                      refine pu0 (i := 7) (N := some 67) #[true, true, true, true, true, true, true, true, false, false, false, false, false, false, false, false, false, false, false, false, false, false, false, false, false, false, false] rfl rfl (any_of HT_.out (by kernel_rfl)) ?_
                      refine pu0 (i := 8) (N := some 68) #[true, true, true, true, true, true, true, true, true, false, false, false, false, false, false, false, false, false, false, false, false, false, false, false, false, false, false] rfl rfl (any_of HT_.out (by kernel_rfl)) ?_
                      refine pure_ (i := 9) (N := some 69) (v := undef) (a' := ?_) #[true, true, true, true, true, true, true, true, true, true, false, false, false, false, false, false, false, false, false, false, false, false, false, false, false, false, false] rfl rfl (any_of HT_.out (by kernel_rfl)) (fun _ _ _ h => h) (Or.inr ⟨by rfl, rfl⟩) ?_ ?_
                      rotate_left
                      ·simp only [Act.put, List.setIfInBounds_toArray, List.set_cons_zero, List.set_cons_succ, i64_w, i32_w]
                       rfl
                      refine pure_ (i := 10) (N := some 70) (v := undef) (a' := ?_) #[true, true, true, true, true, true, true, true, true, true, true, false, false, false, false, false, false, false, false, false, false, false, false, false, false, false, false] rfl rfl (any_of HT_.out (by kernel_rfl)) (fun _ _ _ h => h) (Or.inr ⟨by rfl, rfl⟩) ?_ ?_
                      rotate_left
                      ·simp only [Act.put, List.setIfInBounds_toArray, List.set_cons_zero, List.set_cons_succ, i64_w, i32_w]
                       rfl
                      refine pure_ (i := 11) (N := some 71) (v := undef) (a' := ?_) #[true, true, true, true, true, true, true, true, true, true, true, true, false, false, false, false, false, false, false, false, false, false, false, false, false, false, false] rfl rfl (any_of HT_.out (by kernel_rfl)) (fun _ _ _ h => h) (Or.inr ⟨by rfl, rfl⟩) ?_ ?_
                      rotate_left
                      ·simp only [Act.put, List.setIfInBounds_toArray, List.set_cons_zero, List.set_cons_succ, i64_w, i32_w]
                       rfl
                      refine pure_ (i := 12) (N := some 72) (v := undef) (a' := ?_) #[true, true, true, true, true, true, true, true, true, true, true, true, true, false, false, false, false, false, false, false, false, false, false, false, false, false, false] rfl rfl (any_of HT_.out (by kernel_rfl)) (fun _ _ _ h => h) (Or.inr ⟨by rfl, rfl⟩) ?_ ?_
                      rotate_left
                      ·simp only [Act.put, List.setIfInBounds_toArray, List.set_cons_zero, List.set_cons_succ, i64_w, i32_w]
                       rfl
                      refine pure_ (i := 13) (N := some 73) (v := undef) (a' := ?_) #[true, true, true, true, true, true, true, true, true, true, true, true, true, true, false, false, false, false, false, false, false, false, false, false, false, false, false] rfl rfl (any_of HT_.out (by kernel_rfl)) (fun _ _ _ h => h) (Or.inr ⟨by rfl, rfl⟩) ?_ ?_
                      rotate_left
                      ·simp only [Act.put, List.setIfInBounds_toArray, List.set_cons_zero, List.set_cons_succ, i64_w, i32_w]
                       rfl
                      refine pure_ (i := 14) (N := some 74) (v := undef) (a' := ?_) #[true, true, true, true, true, true, true, true, true, true, true, true, true, true, true, false, false, false, false, false, false, false, false, false, false, false, false] rfl rfl (any_of HT_.out (by kernel_rfl)) (fun _ _ _ h => h) (Or.inr ⟨by rfl, rfl⟩) ?_ ?_
                      rotate_left
                      ·simp only [Act.put, List.setIfInBounds_toArray, List.set_cons_zero, List.set_cons_succ, i64_w, i32_w]
                       rfl
                      refine pure_ (i := 15) (N := some 75) (v := undef) (a' := ?_) #[true, true, true, true, true, true, true, true, true, true, true, true, true, true, true, true, false, false, false, false, false, false, false, false, false, false, false] rfl rfl (any_of HT_.out (by kernel_rfl)) (fun _ _ _ h => h) (Or.inr ⟨by rfl, rfl⟩) ?_ ?_
                      rotate_left
                      ·simp only [Act.put, List.setIfInBounds_toArray, List.set_cons_zero, List.set_cons_succ, i64_w, i32_w]
                       rfl
                      refine pu0 (i := 16) (N := some 76) #[true, true, true, true, true, true, true, true, true, true, true, true, true, true, true, true, true, false, false, false, false, false, false, false, false, false, false] rfl rfl (any_of HT_.out (by kernel_rfl)) ?_
                      refine pu0 (i := 17) (N := some 77) #[true, true, true, true, true, true, true, true, true, true, true, true, true, true, true, true, true, true, false, false, false, false, false, false, false, false, false] rfl rfl (any_of HT_.out (by kernel_rfl)) ?_
                      refine pure_ (i := 18) (N := some 78) (v := undef) (a' := ?_) #[true, true, true, true, true, true, true, true, true, true, true, true, true, true, true, true, true, true, true, false, false, false, false, false, false, false, false] rfl rfl (any_of HT_.out (by kernel_rfl)) (fun _ _ _ h => h) (Or.inr ⟨by rfl, rfl⟩) ?_ ?_
                      rotate_left
                      ·simp only [Act.put, List.setIfInBounds_toArray, List.set_cons_zero, List.set_cons_succ, i64_w, i32_w]
                       rfl
                      refine pure_ (i := 19) (N := some 79) (v := undef) (a' := ?_) #[true, true, true, true, true, true, true, true, true, true, true, true, true, true, true, true, true, true, true, true, false, false, false, false, false, false, false] rfl rfl (any_of HT_.out (by kernel_rfl)) (fun _ _ _ h => h) (Or.inr ⟨by rfl, rfl⟩) ?_ ?_
                      rotate_left
                      ·simp only [Act.put, List.setIfInBounds_toArray, List.set_cons_zero, List.set_cons_succ, i64_w, i32_w]
                       rfl
                      refine pure_ (i := 20) (N := some 80) (v := undef) (a' := ?_) #[true, true, true, true, true, true, true, true, true, true, true, true, true, true, true, true, true, true, true, true, true, false, false, false, false, false, false] rfl rfl (any_of HT_.out (by kernel_rfl)) (fun _ _ _ h => h) (Or.inr ⟨by rfl, rfl⟩) ?_ ?_
                      rotate_left
                      ·simp only [Act.put, List.setIfInBounds_toArray, List.set_cons_zero, List.set_cons_succ, i64_w, i32_w]
                       rfl
                      refine pu0 (i := 21) (N := some 81) #[true, true, true, true, true, true, true, true, true, true, true, true, true, true, true, true, true, true, true, true, true, true, false, false, false, false, false] rfl rfl (any_of HT_.out (by kernel_rfl)) ?_
                      refine pu0 (i := 22) (N := some 82) #[true, true, true, true, true, true, true, true, true, true, true, true, true, true, true, true, true, true, true, true, true, true, true, false, false, false, false] rfl rfl (any_of HT_.out (by kernel_rfl)) ?_
                      refine pure_ (i := 23) (N := some 83) (v := undef) (a' := ?_) #[true, true, true, true, true, true, true, true, true, true, true, true, true, true, true, true, true, true, true, true, true, true, true, true, false, false, false] rfl rfl (any_of HT_.out (by kernel_rfl)) (fun _ _ _ h => h) (Or.inr ⟨by rfl, rfl⟩) ?_ ?_
                      rotate_left
                      ·simp only [Act.put, List.setIfInBounds_toArray, List.set_cons_zero, List.set_cons_succ, i64_w, i32_w]
                       rfl
                      refine pure_ (i := 24) (N := some 84) (v := undef) (a' := ?_) #[true, true, true, true, true, true, true, true, true, true, true, true, true, true, true, true, true, true, true, true, true, true, true, true, true, false, false] rfl rfl (any_of HT_.out (by kernel_rfl)) (fun _ _ _ h => h) (Or.inr ⟨by rfl, rfl⟩) ?_ ?_
                      rotate_left
                      ·simp only [Act.put, List.setIfInBounds_toArray, List.set_cons_zero, List.set_cons_succ, i64_w, i32_w]
                       rfl
                      refine pure_ (i := 25) (N := some 85) (v := undef) (a' := ?_) #[true, true, true, true, true, true, true, true, true, true, true, true, true, true, true, true, true, true, true, true, true, true, true, true, true, true, false] rfl rfl (any_of HT_.out (by kernel_rfl)) (fun _ _ _ h => h) (Or.inr ⟨by rfl, rfl⟩) ?_ ?_
                      rotate_left
                      ·simp only [Act.put, List.setIfInBounds_toArray, List.set_cons_zero, List.set_cons_succ, i64_w, i32_w]
                       rfl
                      refine pu0 (i := 26) (N := some 86) #[true, true, true, true, true, true, true, true, true, true, true, true, true, true, true, true, true, true, true, true, true, true, true, true, true, true, true] rfl rfl (any_of HT_.out (by kernel_rfl)) ?_
                      refine done_ (done_of HT_.out (by kernel_rfl)) ?_
                      try go_wp2
                      go_meet
                      case rel => exact ⟨_, (true), (by first | rfl | (simp; done) | (simp [*]; done)), H', ⟨by have := HJ1.out; first | omega | exact Nat.le_refl _⟩, ⟨bkx BK647.out⟩, ⟨bkx BK650.out⟩, ⟨hbx HB.out⟩⟩
                     ·rw [if_neg c56] at H
                      have c56b0 : decide (8 < (wrap64 (bt a0 1))) = false := decide_eq_false c56
                      clear c56
                      by_cases c59 : 0 < (a0.size : Int)
                      ·rw [if_pos c59] at H
                       have c59b0 : decide (0 < (a0.size : Int)) = true := decide_eq_true c59
                       have c59b1 : decide (0 < a0.size) = true := decide_eq_true (by omega)
                       clear c59
                       replace H := Option.bind_eq_some_iff.mp H
                       obtain ⟨t654, A610, H⟩ := H
                       (try dsimp only at H)
                       have A61 := Aside0.mk A610
                       clear A610
                       by_cases c62 : (wrap64 (bt a0 0)) = t654
                       ·rw [if_pos c62] at H
                        have c62b0 : ((wrap64 (bt a0 0)) == t654) = true := beq_iff_eq.mpr c62
                        have c62b1 : ((wrap64 (bt a0 0)) != t654) = false := bne_eq_false_iff_eq.mpr c62
                        clear c62
                        by_cases c64 : (bt a0 20) > 1
                        ·rw [if_pos c64] at H
                         have c64b0 : decide (1 < (bt a0 20)) = true := decide_eq_true c64
                         clear c64
                         have H' := Aside0.mk H
                         clear H
                         try go_wp2
                         refine gen_wp (fun W_ => (W_.heap[gb647]? = some (.cells #[.int .i64 0, .int .i64 0, .int .i64 0, .string (⟨#[]⟩ : ByteArray), .bool false, .int .u64 0, .int .u64 0, .bool false, .int .u64 0, .int .u64 0, .bool false, .int .u64 0, .int .u64 0, .bool false, .slice none 0 0] 27 (0, 0))) ∧ (W_.heap[gb650]? = some (.cells #[.int .i64 (wrap64 (bt a0 1)), .int .i64 t648, .int .i64 t649, .string (a0.extract 22 ((wrap64 (22 + (wrap64 (bt a0 21)))) : Int).toNat), .bool false, .int .u64 0, .int .u64 (IntKind.u64.wrap (t651)), .bool false, .int .u64 0, .int .u64 (IntKind.u64.wrap (t652)), .bool false, .int .u64 0, .int .u64 (IntKind.u64.wrap (t653)), .bool ((bt a0 20) == 1), .slice none 0 0] 27 (0, 0))) ∧ (Below w.heap.size w W_)) ⟨bkx BK647.out, bkp BK650.out, hbx HB.out⟩ (fun w65 HF_ => ?_)
                         (try clear BK647)
                         (try clear BK650)
                         (try clear HB)
                         have n0_ := Aside0.mk HF_.1
                         have n1_ := Aside0.mk HF_.2.1
                         have n2_ := Aside0.mk HF_.2.2
                         clear HF_
                         have BK647 := n0_
                         have BK650 := n1_
                         have HB := n2_
                         clear n0_ n1_ n2_
                         have n0_ := Aside0.mk (blk_drew BK647.out)
                         have n1_ := Aside0.mk (blk_drew BK650.out)
                         have n2_ := Aside0.mk (below_drew1 HB.out)
                         clear BK647
                         clear BK650
                         clear HB
                         have BK647 := n0_
                         have BK650 := n1_
                         have HB := n2_
                         clear n0_ n1_ n2_
                         have p60 : 0 ≤ (0 : Int) := (by omega)
                         have q60 : 0 < a0.size := (by have : (0 : Int) < (a0.size : Int) := of_decide_eq_true (by first | (with_reducible assumption) | assumption); omega)
                         have hx60 : ∀ h : 0 < a0.size, ((a0[0]'h).toNat : Int) = bt a0 0 := bt_at a0 0
                         clear p60
                         have qi60 : (0 < (a0.size : Int)) = True := eq_true (of_decide_eq_true (by first | (with_reducible assumption) | assumption))
                         replace q60 := eq_true q60
                         refine start_ (n := 27) (S := fun w' => w'.cell? ⟨gb650, 0, none⟩ = some (.int .i64 (wrap64 (bt a0 1))) ∧ w'.cell? ⟨gb650, 1, none⟩ = some (.int .i64 t648) ∧ w'.cell? ⟨gb650, 2, none⟩ = some (.int .i64 t649) ∧ w'.cell? ⟨gb650, 3, none⟩ = some (.string (a0.extract 22 ((wrap64 (22 + (wrap64 (bt a0 21)))) : Int).toNat)) ∧ w'.cell? ⟨gb650, 4, none⟩ = some (.bool false) ∧ w'.cell? ⟨gb650, 5, none⟩ = some (.int .u64 0) ∧ w'.cell? ⟨gb650, 6, none⟩ = some (.int .u64 (IntKind.u64.wrap (t651))) ∧ w'.cell? ⟨gb650, 7, none⟩ = some (.bool false) ∧ w'.cell? ⟨gb650, 8, none⟩ = some (.int .u64 0) ∧ w'.cell? ⟨gb650, 9, none⟩ = some (.int .u64 (IntKind.u64.wrap (t652))) ∧ w'.cell? ⟨gb650, 10, none⟩ = some (.bool false) ∧ w'.cell? ⟨gb650, 11, none⟩ = some (.int .u64 0) ∧ w'.cell? ⟨gb650, 12, none⟩ = some (.int .u64 (IntKind.u64.wrap (t653))) ∧ w'.cell? ⟨gb650, 13, none⟩ = some (.bool ((bt a0 20) == 1)) ∧ w'.cell? ⟨gb650, 14, none⟩ = some (.slice none 0 0)) (ds := []) #[false, false, false, false, false, false, false, false, false, false, false, false, false, false, false, false, false, false, false, false, false, false, false, false, false, false, false] (by kernel_rfl) rfl rfl ⟨(blk_cell BK650.out 0).trans rfl, (blk_cell BK650.out 1).trans rfl, (blk_cell BK650.out 2).trans rfl, (blk_cell BK650.out 3).trans rfl, (blk_cell BK650.out 4).trans rfl, (blk_cell BK650.out 5).trans rfl, (blk_cell BK650.out 6).trans rfl, (blk_cell BK650.out 7).trans rfl, (blk_cell BK650.out 8).trans rfl, (blk_cell BK650.out 9).trans rfl, (blk_cell BK650.out 10).trans rfl, (blk_cell BK650.out 11).trans rfl, (blk_cell BK650.out 12).trans rfl, (blk_cell BK650.out 13).trans rfl, (blk_cell BK650.out 14).trans rfl⟩ (fun hHeld => ?_); refine with_tabW ddiref36_Decode.tab9 ddiref36_Decode.bits9 (fun HT_ HW_ => ?_)
                         generalize w65.drew = w66 at BK647 BK650 HB hHeld ⊢
                         refine pu0 (i := 0) (N := some 60) #[true, false, false, false, false, false, false, false, false, false, false, false, false, false, false, false, false, false, false, false, false, false, false, false, false, false, false] rfl rfl (any_of HT_.out (by kernel_rfl)) ?_
                         refine take_ (i := 1) (N := some 61) (v := ?_) (a' := ?_) #[true, true, false, false, false, false, false, false, false, false, false, false, false, false, false, false, false, false, false, false, false, false, false, false, false, false, false] rfl rfl (take_ofW HT_.out HW_.out (by kernel_rfl)) (fun _ _ _ h => h) (Or.inl ⟨by rfl, ?_⟩) hHeld ?_ ?_
                         rotate_left
                         ·rintro w' ⟨s0, s1, s2, s3, s4, s5, s6, s7, s8, s9, s10, s11, s12, s13, s14⟩
                          go_simp
                          with_reducible rfl
                         rotate_left
                         ·simp only [Act.put, List.setIfInBounds_toArray, List.set_cons_zero, List.set_cons_succ, i64_w, i32_w]
                          rfl
                         refine pu0 (i := 2) (N := some 62) #[true, true, true, false, false, false, false, false, false, false, false, false, false, false, false, false, false, false, false, false, false, false, false, false, false, false, false] rfl rfl (any_of HT_.out (by kernel_rfl)) ?_
                         refine pu0 (i := 3) (N := some 63) #[true, true, true, true, false, false, false, false, false, false, false, false, false, false, false, false, false, false, false, false, false, false, false, false, false, false, false] rfl rfl (any_of HT_.out (by kernel_rfl)) ?_
                         refine pu0 (i := 4) (N := some 64) #[true, true, true, true, true, false, false, false, false, false, false, false, false, false, false, false, false, false, false, false, false, false, false, false, false, false, false] rfl rfl (any_of HT_.out (by kernel_rfl)) ?_
                         refine take_ (i := 5) (N := some 65) (v := ?_) (a' := ?_) #[true, true, true, true, true, true, false, false, false, false, false, false, false, false, false, false, false, false, false, false, false, false, false, false, false, false, false] rfl rfl (take_ofW HT_.out HW_.out (by kernel_rfl)) (fun _ _ _ h => h) (Or.inl ⟨by rfl, ?_⟩) hHeld ?_ ?_
                         rotate_left
                         ·rintro w' ⟨s0, s1, s2, s3, s4, s5, s6, s7, s8, s9, s10, s11, s12, s13, s14⟩
                          go_simp
                          with_reducible rfl
                         rotate_left
                         ·simp only [Act.put, List.setIfInBounds_toArray, List.set_cons_zero, List.set_cons_succ, i64_w, i32_w]
                          rfl
                         refine pu0 (i := 6) (N := some 66) #[true, true, true, true, true, true, true, false, false, false, false, false, false, false, false, false, false, false, false, false, false, false, false, false, false, false, false] rfl rfl (any_of HT_.out (by kernel_rfl)) ?_
                         refine pu0 (i := 7) (N := some 67) #[true, true, true, true, true, true, true, true, false, false, false, false, false, false, false, false, false, false, false, false, false, false, false, false, false, false, false] rfl rfl (any_of HT_.out (by kernel_rfl)) ?_
                         refine pu0 (i := 8) (N := some 68) #[true, true, true, true, true, true, true, true, true, false, false, false, false, false, false, false, false, false, false, false, false, false, false, false, false, false, false] rfl rfl (any_of HT_.out (by kernel_rfl)) ?_
                         refine pu0 (i := 9) (N := some 69) #[true, true, true, true, true, true, true, true, true, true, false, false, false, false, false, false, false, false, false, false, false, false, false, false, false, false, false] rfl rfl (any_of HT_.out (by kernel_rfl)) ?_
                         refine pu0 (i := 12) (N := some 72) #[true, true, true, true, true, true, true, true, true, true, false, false, true, false, false, false, false, false, false, false, false, false, false, false, false, false, false] rfl rfl (any_of HT_.out (by kernel_rfl)) ?_
                         refine take_ (i := 10) (N := some 70) (v := ?_) (a' := ?_) #[true, true, true, true, true, true, true, true, true, true, true, false, true, false, false, false, false, false, false, false, false, false, false, false, false, false, false] rfl rfl (take_ofW HT_.out HW_.out (by kernel_rfl)) (fun _ _ _ h => h) (Or.inl ⟨by rfl, ?_⟩) hHeld ?_ ?_
                         rotate_left
                         ·rintro w' ⟨s0, s1, s2, s3, s4, s5, s6, s7, s8, s9, s10, s11, s12, s13, s14⟩
                          go_simp
                          with_reducible rfl
                         rotate_left
                         ·simp only [Act.put, List.setIfInBounds_toArray, List.set_cons_zero, List.set_cons_succ, i64_w, i32_w]
                          rfl
                         refine pu0 (i := 11) (N := some 71) #[true, true, true, true, true, true, true, true, true, true, true, true, true, false, false, false, false, false, false, false, false, false, false, false, false, false, false] rfl rfl (any_of HT_.out (by kernel_rfl)) ?_
                         refine take_ (i := 13) (N := some 73) (v := ?_) (a' := ?_) #[true, true, true, true, true, true, true, true, true, true, true, true, true, true, false, false, false, false, false, false, false, false, false, false, false, false, false] rfl rfl (take_ofW HT_.out HW_.out (by kernel_rfl)) (fun _ _ _ h => h) (Or.inl ⟨by rfl, ?_⟩) hHeld ?_ ?_
                         rotate_left
                         ·rintro w' ⟨s0, s1, s2, s3, s4, s5, s6, s7, s8, s9, s10, s11, s12, s13, s14⟩
                          go_simp
                          with_reducible rfl
                         rotate_left
                         ·simp only [Act.put, List.setIfInBounds_toArray, List.set_cons_zero, List.set_cons_succ, i64_w, i32_w]
                          rfl
                         refine one_ (i := 14) (N := some 74) #[true, true, true, true, true, true, true, true, true, true, true, true, true, true, true, false, false, false, false, false, false, false, false, false, false, false, false] rfl rfl (one_of HT_.out (by kernel_rfl)) (by decide) (fun K hK => ?_)
                         refine goes_ Tryd.func44 (by kernel_rfl) rfl #[.int .i64 (wrap64 (bt a0 1))] (by rfl) rfl rfl (by (try simp only [List.map_toArray, List.map_cons, List.map_nil]); first | done | rfl | (simp only [List.length_drop, List.length_take]; rfl)) ?_
                         with_reducible refine (ddiref36_op.calls (wrap64 (bt a0 1)) t654 _ A61.out).mono ?_
                         rintro e w' ⟨rfl, ⟨nd, rfl⟩⟩
                         refine ⟨_, rfl, ?_⟩
                         have p63 : 0 ≤ (20 : Int) := (by omega)
                         have q63 : 20 < a0.size := (by have : (20 : Int) < (a0.size : Int) := of_decide_eq_true (by first | (with_reducible assumption) | assumption); omega)
                         have hx63 : ∀ h : 20 < a0.size, ((a0[20]'h).toNat : Int) = bt a0 20 := bt_at a0 20
                         clear p63
                         have qi63 : (20 < (a0.size : Int)) = True := eq_true (of_decide_eq_true (by first | (with_reducible assumption) | assumption))
                         replace q63 := eq_true q63
                         refine hK.out _ _ ⟨(blk_cell BK650.out 0).trans rfl, (blk_cell BK650.out 1).trans rfl, (blk_cell BK650.out 2).trans rfl, (blk_cell BK650.out 3).trans rfl, (blk_cell BK650.out 4).trans rfl, (blk_cell BK650.out 5).trans rfl, (blk_cell BK650.out 6).trans rfl, (blk_cell BK650.out 7).trans rfl, (blk_cell BK650.out 8).trans rfl, (blk_cell BK650.out 9).trans rfl, (blk_cell BK650.out 10).trans rfl, (blk_cell BK650.out 11).trans rfl, (blk_cell BK650.out 12).trans rfl, (blk_cell BK650.out 13).trans rfl, (blk_cell BK650.out 14).trans rfl⟩ (fun hHeld => ?_)
                         clear hK K
                         refine norm_ (a' := ?_) ?_ ?_
                         rotate_left
                         ·show Act.put _ (some 74) _ = _
                          simp only [Act.put, List.setIfInBounds_toArray, List.set_cons_zero, List.set_cons_succ, i64_w, i32_w]
                          rfl
                         refine pu0 (i := 15) (N := some 75) #[true, true, true, true, true, true, true, true, true, true, true, true, true, true, true, true, false, false, false, false, false, false, false, false, false, false, false] rfl rfl (any_of HT_.out (by kernel_rfl)) ?_
                         refine pu0 (i := 16) (N := some 76) #[true, true, true, true, true, true, true, true, true, true, true, true, true, true, true, true, true, false, false, false, false, false, false, false, false, false, false] rfl rfl (any_of HT_.out (by kernel_rfl)) ?_
                         refine pu0 (i := 17) (N := some 77) #[true, true, true, true, true, true, true, true, true, true, true, true, true, true, true, true, true, true, false, false, false, false, false, false, false, false, false] rfl rfl (any_of HT_.out (by kernel_rfl)) ?_
                         refine pu0 (i := 18) (N := some 78) #[true, true, true, true, true, true, true, true, true, true, true, true, true, true, true, true, true, true, true, false, false, false, false, false, false, false, false] rfl rfl (any_of HT_.out (by kernel_rfl)) ?_
                         refine take_ (i := 19) (N := some 79) (v := ?_) (a' := ?_) #[true, true, true, true, true, true, true, true, true, true, true, true, true, true, true, true, true, true, true, true, false, false, false, false, false, false, false] rfl rfl (take_ofW HT_.out HW_.out (by kernel_rfl)) (fun _ _ _ h => h) (Or.inl ⟨by rfl, ?_⟩) hHeld ?_ ?_
                         rotate_left
                         ·rintro w' ⟨s0, s1, s2, s3, s4, s5, s6, s7, s8, s9, s10, s11, s12, s13, s14⟩
                          go_simp
                          with_reducible rfl
                         rotate_left
                         ·simp only [Act.put, List.setIfInBounds_toArray, List.set_cons_zero, List.set_cons_succ, i64_w, i32_w]
                          rfl
                         refine pu0 (i := 20) (N := some 80) #[true, true, true, true, true, true, true, true, true, true, true, true, true, true, true, true, true, true, true, true, true, false, false, false, false, false, false] rfl rfl (any_of HT_.out (by kernel_rfl)) ?_
                         refine pu0 (i := 21) (N := some 81) #[true, true, true, true, true, true, true, true, true, true, true, true, true, true, true, true, true, true, true, true, true, true, false, false, false, false, false] rfl rfl (any_of HT_.out (by kernel_rfl)) ?_
                         refine pu0 (i := 22) (N := some 82) #[true, true, true, true, true, true, true, true, true, true, true, true, true, true, true, true, true, true, true, true, true, true, true, false, false, false, false] rfl rfl (any_of HT_.out (by kernel_rfl)) ?_
                         refine pure_ (i := 23) (N := some 83) (v := undef) (a' := ?_) #[true, true, true, true, true, true, true, true, true, true, true, true, true, true, true, true, true, true, true, true, true, true, true, true, false, false, false] rfl rfl (any_of HT_.out (by kernel_rfl)) (fun _ _ _ h => h) (Or.inr ⟨by rfl, rfl⟩) ?_ ?_
                         rotate_left
                         ·simp only [Act.put, List.setIfInBounds_toArray, List.set_cons_zero, List.set_cons_succ, i64_w, i32_w]
                          rfl
                         refine pure_ (i := 24) (N := some 84) (v := undef) (a' := ?_) #[true, true, true, true, true, true, true, true, true, true, true, true, true, true, true, true, true, true, true, true, true, true, true, true, true, false, false] rfl rfl (any_of HT_.out (by kernel_rfl)) (fun _ _ _ h => h) (Or.inr ⟨by rfl, rfl⟩) ?_ ?_
                         rotate_left
                         ·simp only [Act.put, List.setIfInBounds_toArray, List.set_cons_zero, List.set_cons_succ, i64_w, i32_w]
                          rfl
                         refine pure_ (i := 25) (N := some 85) (v := undef) (a' := ?_) #[true, true, true, true, true, true, true, true, true, true, true, true, true, true, true, true, true, true, true, true, true, true, true, true, true, true, false] rfl rfl (any_of HT_.out (by kernel_rfl)) (fun _ _ _ h => h) (Or.inr ⟨by rfl, rfl⟩) ?_ ?_
                         rotate_left
                         ·simp only [Act.put, List.setIfInBounds_toArray, List.set_cons_zero, List.set_cons_succ, i64_w, i32_w]
                          rfl
                         refine pu0 (i := 26) (N := some 86) #[true, true, true, true, true, true, true, true, true, true, true, true, true, true, true, true, true, true, true, true, true, true, true, true, true, true, true] rfl rfl (any_of HT_.out (by kernel_rfl)) ?_
                         refine done_ (done_of HT_.out (by kernel_rfl)) ?_
                         try go_wp2
                         go_meet
                         case rel => exact ⟨_, (true), (by first | rfl | (simp; done) | (simp [*]; done)), H', ⟨by have := HJ1.out; first | omega | exact Nat.le_refl _⟩, ⟨bkx BK647.out⟩, ⟨bkx BK650.out⟩, ⟨hbx HB.out⟩⟩
                        ·rw [if_neg c64] at H
                         have c64b0 : decide (1 < (bt a0 20)) = false := decide_eq_false c64
                         clear c64
                         replace H := Option.bind_eq_some_iff.mp H
                         obtain ⟨t655, A670, H⟩ := H
                         (try dsimp only at H)
                         have A67 := Aside0.mk A670
                         clear A670
                         have H' := Aside0.mk H
                         clear H
                         try go_wp2
                         refine gen_wp (fun W_ => (W_.heap[gb647]? = some (.cells #[.int .i64 0, .int .i64 0, .int .i64 0, .string (⟨#[]⟩ : ByteArray), .bool false, .int .u64 0, .int .u64 0, .bool false, .int .u64 0, .int .u64 0, .bool false, .int .u64 0, .int .u64 0, .bool false, .slice none 0 0] 27 (0, 0))) ∧ (W_.heap[gb650]? = some (.cells #[.int .i64 (wrap64 (bt a0 1)), .int .i64 t648, .int .i64 t649, .string (a0.extract 22 ((wrap64 (22 + (wrap64 (bt a0 21)))) : Int).toNat), .bool false, .int .u64 0, .int .u64 (IntKind.u64.wrap (t651)), .bool false, .int .u64 0, .int .u64 (IntKind.u64.wrap (t652)), .bool false, .int .u64 0, .int .u64 (IntKind.u64.wrap (t653)), .bool ((bt a0 20) == 1), .slice none 0 0] 27 (0, 0))) ∧ (Below w.heap.size w W_)) ⟨bkx BK647.out, bkp BK650.out, hbx HB.out⟩ (fun w68 HF_ => ?_)
                         (try clear BK647)
                         (try clear BK650)
                         (try clear HB)
                         have n0_ := Aside0.mk HF_.1
                         have n1_ := Aside0.mk HF_.2.1
                         have n2_ := Aside0.mk HF_.2.2
                         clear HF_
                         have BK647 := n0_
                         have BK650 := n1_
                         have HB := n2_
                         clear n0_ n1_ n2_
                         have n0_ := Aside0.mk (blk_drew BK647.out)
                         have n1_ := Aside0.mk (blk_drew BK650.out)
                         have n2_ := Aside0.mk (below_drew1 HB.out)
                         clear BK647
                         clear BK650
                         clear HB
                         have BK647 := n0_
                         have BK650 := n1_
                         have HB := n2_
                         clear n0_ n1_ n2_
                         have p60 : 0 ≤ (0 : Int) := (by omega)
                         have q60 : 0 < a0.size := (by have : (0 : Int) < (a0.size : Int) := of_decide_eq_true (by first | (with_reducible assumption) | assumption); omega)
                         have hx60 : ∀ h : 0 < a0.size, ((a0[0]'h).toNat : Int) = bt a0 0 := bt_at a0 0
                         clear p60
                         have qi60 : (0 < (a0.size : Int)) = True := eq_true (of_decide_eq_true (by first | (with_reducible assumption) | assumption))
                         replace q60 := eq_true q60
                         refine start_ (n := 27) (S := fun w' => w'.cell? ⟨gb650, 0, none⟩ = some (.int .i64 (wrap64 (bt a0 1))) ∧ w'.cell? ⟨gb650, 1, none⟩ = some (.int .i64 t648) ∧ w'.cell? ⟨gb650, 2, none⟩ = some (.int .i64 t649) ∧ w'.cell? ⟨gb650, 3, none⟩ = some (.string (a0.extract 22 ((wrap64 (22 + (wrap64 (bt a0 21)))) : Int).toNat)) ∧ w'.cell? ⟨gb650, 4, none⟩ = some (.bool false) ∧ w'.cell? ⟨gb650, 5, none⟩ = some (.int .u64 0) ∧ w'.cell? ⟨gb650, 6, none⟩ = some (.int .u64 (IntKind.u64.wrap (t651))) ∧ w'.cell? ⟨gb650, 7, none⟩ = some (.bool false) ∧ w'.cell? ⟨gb650, 8, none⟩ = some (.int .u64 0) ∧ w'.cell? ⟨gb650, 9, none⟩ = some (.int .u64 (IntKind.u64.wrap (t652))) ∧ w'.cell? ⟨gb650, 10, none⟩ = some (.bool false) ∧ w'.cell? ⟨gb650, 11, none⟩ = some (.int .u64 0) ∧ w'.cell? ⟨gb650, 12, none⟩ = some (.int .u64 (IntKind.u64.wrap (t653))) ∧ w'.cell? ⟨gb650, 13, none⟩ = some (.bool ((bt a0 20) == 1)) ∧ w'.cell? ⟨gb650, 14, none⟩ = some (.slice none 0 0)) (ds := []) #[false, false, false, false, false, false, false, false, false, false, false, false, false, false, false, false, false, false, false, false, false, false, false, false, false, false, false] (by kernel_rfl) rfl rfl ⟨(blk_cell BK650.out 0).trans rfl, (blk_cell BK650.out 1).trans rfl, (blk_cell BK650.out 2).trans rfl, (blk_cell BK650.out 3).trans rfl, (blk_cell BK650.out 4).trans rfl, (blk_cell BK650.out 5).trans rfl, (blk_cell BK650.out 6).trans rfl, (blk_cell BK650.out 7).trans rfl, (blk_cell BK650.out 8).trans rfl, (blk_cell BK650.out 9).trans rfl, (blk_cell BK650.out 10).trans rfl, (blk_cell BK650.out 11).trans rfl, (blk_cell BK650.out 12).trans rfl, (blk_cell BK650.out 13).trans rfl, (blk_cell BK650.out 14).trans rfl⟩ (fun hHeld => ?_); refine with_tabW ddiref36_Decode.tab9 ddiref36_Decode.bits9 (fun HT_ HW_ => ?_)
                         generalize w68.drew = w69 at BK647 BK650 HB hHeld ⊢
                         refine pu0 (i := 0) (N := some 60) #[true, false, false, false, false, false, false, false, false, false, false, false, false, false, false, false, false, false, false, false, false, false, false, false, false, false, false] rfl rfl (any_of HT_.out (by kernel_rfl)) ?_
                         refine take_ (i := 1) (N := some 61) (v := ?_) (a' := ?_) #[true, true, false, false, false, false, false, false, false, false, false, false, false, false, false, false, false, false, false, false, false, false, false, false, false, false, false] rfl rfl (take_ofW HT_.out HW_.out (by kernel_rfl)) (fun _ _ _ h => h) (Or.inl ⟨by rfl, ?_⟩) hHeld ?_ ?_
                         rotate_left
                         ·rintro w' ⟨s0, s1, s2, s3, s4, s5, s6, s7, s8, s9, s10, s11, s12, s13, s14⟩
                          go_simp
                          with_reducible rfl
                         rotate_left
                         ·simp only [Act.put, List.setIfInBounds_toArray, List.set_cons_zero, List.set_cons_succ, i64_w, i32_w]
                          rfl
                         refine pu0 (i := 2) (N := some 62) #[true, true, true, false, false, false, false, false, false, false, false, false, false, false, false, false, false, false, false, false, false, false, false, false, false, false, false] rfl rfl (any_of HT_.out (by kernel_rfl)) ?_
                         refine pu0 (i := 3) (N := some 63) #[true, true, true, true, false, false, false, false, false, false, false, false, false, false, false, false, false, false, false, false, false, false, false, false, false, false, false] rfl rfl (any_of HT_.out (by kernel_rfl)) ?_
                         refine pu0 (i := 4) (N := some 64) #[true, true, true, true, true, false, false, false, false, false, false, false, false, false, false, false, false, false, false, false, false, false, false, false, false, false, false] rfl rfl (any_of HT_.out (by kernel_rfl)) ?_
                         refine take_ (i := 5) (N := some 65) (v := ?_) (a' := ?_) #[true, true, true, true, true, true, false, false, false, false, false, false, false, false, false, false, false, false, false, false, false, false, false, false, false, false, false] rfl rfl (take_ofW HT_.out HW_.out (by kernel_rfl)) (fun _ _ _ h => h) (Or.inl ⟨by rfl, ?_⟩) hHeld ?_ ?_
                         rotate_left
                         ·rintro w' ⟨s0, s1, s2, s3, s4, s5, s6, s7, s8, s9, s10, s11, s12, s13, s14⟩
                          go_simp
                          with_reducible rfl
                         rotate_left
                         ·simp only [Act.put, List.setIfInBounds_toArray, List.set_cons_zero, List.set_cons_succ, i64_w, i32_w]
                          rfl
                         refine pu0 (i := 6) (N := some 66) #[true, true, true, true, true, true, true, false, false, false, false, false, false, false, false, false, false, false, false, false, false, false, false, false, false, false, false] rfl rfl (any_of HT_.out (by kernel_rfl)) ?_
                         refine pu0 (i := 7) (N := some 67) #[true, true, true, true, true, true, true, true, false, false, false, false, false, false, false, false, false, false, false, false, false, false, false, false, false, false, false] rfl rfl (any_of HT_.out (by kernel_rfl)) ?_
                         refine pu0 (i := 8) (N := some 68) #[true, true, true, true, true, true, true, true, true, false, false, false, false, false, false, false, false, false, false, false, false, false, false, false, false, false, false] rfl rfl (any_of HT_.out (by kernel_rfl)) ?_
                         refine pu0 (i := 9) (N := some 69) #[true, true, true, true, true, true, true, true, true, true, false, false, false, false, false, false, false, false, false, false, false, false, false, false, false, false, false] rfl rfl (any_of HT_.out (by kernel_rfl)) ?_
                         refine pu0 (i := 12) (N := some 72) #[true, true, true, true, true, true, true, true, true, true, false, false, true, false, false, false, false, false, false, false, false, false, false, false, false, false, false] rfl rfl (any_of HT_.out (by kernel_rfl)) ?_
                         refine take_ (i := 10) (N := some 70) (v := ?_) (a' := ?_) #[true, true, true, true, true, true, true, true, true, true, true, false, true, false, false, false, false, false, false, false, false, false, false, false, false, false, false] rfl rfl (take_ofW HT_.out HW_.out (by kernel_rfl)) (fun _ _ _ h => h) (Or.inl ⟨by rfl, ?_⟩) hHeld ?_ ?_
                         rotate_left
                         ·rintro w' ⟨s0, s1, s2, s3, s4, s5, s6, s7, s8, s9, s10, s11, s12, s13, s14⟩
                          go_simp
                          with_reducible rfl
                         rotate_left
                         ·simp only [Act.put, List.setIfInBounds_toArray, List.set_cons_zero, List.set_cons_succ, i64_w, i32_w]
                          rfl
                         refine pu0 (i := 11) (N := some 71) #[true, true, true, true, true, true, true, true, true, true, true, true, true, false, false, false, false, false, false, false, false, false, false, false, false, false, false] rfl rfl (any_of HT_.out (by kernel_rfl)) ?_
                         refine take_ (i := 13) (N := some 73) (v := ?_) (a' := ?_) #[true, true, true, true, true, true, true, true, true, true, true, true, true, true, false, false, false, false, false, false, false, false, false, false, false, false, false] rfl rfl (take_ofW HT_.out HW_.out (by kernel_rfl)) (fun _ _ _ h => h) (Or.inl ⟨by rfl, ?_⟩) hHeld ?_ ?_
                         rotate_left
                         ·rintro w' ⟨s0, s1, s2, s3, s4, s5, s6, s7, s8, s9, s10, s11, s12, s13, s14⟩
                          go_simp
                          with_reducible rfl
                         rotate_left
                         ·simp only [Act.put, List.setIfInBounds_toArray, List.set_cons_zero, List.set_cons_succ, i64_w, i32_w]
                          rfl
                         refine one_ (i := 14) (N := some 74) #[true, true, true, true, true, true, true, true, true, true, true, true, true, true, true, false, false, false, false, false, false, false, false, false, false, false, false] rfl rfl (one_of HT_.out (by kernel_rfl)) (by decide) (fun K hK => ?_)
                         refine goes_ Tryd.func44 (by kernel_rfl) rfl #[.int .i64 (wrap64 (bt a0 1))] (by rfl) rfl rfl (by (try simp only [List.map_toArray, List.map_cons, List.map_nil]); first | done | rfl | (simp only [List.length_drop, List.length_take]; rfl)) ?_
                         with_reducible refine (ddiref36_op.calls (wrap64 (bt a0 1)) t654 _ A61.out).mono ?_
                         rintro e w' ⟨rfl, ⟨nd, rfl⟩⟩
                         refine ⟨_, rfl, ?_⟩
                         have p63 : 0 ≤ (20 : Int) := (by omega)
                         have q63 : 20 < a0.size := (by have : (20 : Int) < (a0.size : Int) := of_decide_eq_true (by first | (with_reducible assumption) | assumption); omega)
                         have hx63 : ∀ h : 20 < a0.size, ((a0[20]'h).toNat : Int) = bt a0 20 := bt_at a0 20
                         clear p63
                         have qi63 : (20 < (a0.size : Int)) = True := eq_true (of_decide_eq_true (by first | (with_reducible assumption) | assumption))
                         replace q63 := eq_true q63
                         refine hK.out _ _ ⟨(blk_cell BK650.out 0).trans rfl, (blk_cell BK650.out 1).trans rfl, (blk_cell BK650.out 2).trans rfl, (blk_cell BK650.out 3).trans rfl, (blk_cell BK650.out 4).trans rfl, (blk_cell BK650.out 5).trans rfl, (blk_cell BK650.out 6).trans rfl, (blk_cell BK650.out 7).trans rfl, (blk_cell BK650.out 8).trans rfl, (blk_cell BK650.out 9).trans rfl, (blk_cell BK650.out 10).trans rfl, (blk_cell BK650.out 11).trans rfl, (blk_cell BK650.out 12).trans rfl, (blk_cell BK650.out 13).trans rfl, (blk_cell BK650.out 14).trans rfl⟩ (fun hHeld => ?_)
                         clear hK K
                         refine norm_ (a' := ?_) ?_ ?_
                         rotate_left
                         ·show Act.put _ (some 74) _ = _
                          simp only [Act.put, List.setIfInBounds_toArray, List.set_cons_zero, List.set_cons_succ, i64_w, i32_w]
                          rfl
                         refine pu0 (i := 15) (N := some 75) #[true, true, true, true, true, true, true, true, true, true, true, true, true, true, true, true, false, false, false, false, false, false, false, false, false, false, false] rfl rfl (any_of HT_.out (by kernel_rfl)) ?_
                         refine pu0 (i := 16) (N := some 76) #[true, true, true, true, true, true, true, true, true, true, true, true, true, true, true, true, true, false, false, false, false, false, false, false, false, false, false] rfl rfl (any_of HT_.out (by kernel_rfl)) ?_
                         refine pu0 (i := 17) (N := some 77) #[true, true, true, true, true, true, true, true, true, true, true, true, true, true, true, true, true, true, false, false, false, false, false, false, false, false, false] rfl rfl (any_of HT_.out (by kernel_rfl)) ?_
                         refine pu0 (i := 18) (N := some 78) #[true, true, true, true, true, true, true, true, true, true, true, true, true, true, true, true, true, true, true, false, false, false, false, false, false, false, false] rfl rfl (any_of HT_.out (by kernel_rfl)) ?_
                         refine take_ (i := 19) (N := some 79) (v := ?_) (a' := ?_) #[true, true, true, true, true, true, true, true, true, true, true, true, true, true, true, true, true, true, true, true, false, false, false, false, false, false, false] rfl rfl (take_ofW HT_.out HW_.out (by kernel_rfl)) (fun _ _ _ h => h) (Or.inl ⟨by rfl, ?_⟩) hHeld ?_ ?_
                         rotate_left
                         ·rintro w' ⟨s0, s1, s2, s3, s4, s5, s6, s7, s8, s9, s10, s11, s12, s13, s14⟩
                          go_simp
                          with_reducible rfl
                         rotate_left
                         ·simp only [Act.put, List.setIfInBounds_toArray, List.set_cons_zero, List.set_cons_succ, i64_w, i32_w]
                          rfl
                         refine pu0 (i := 20) (N := some 80) #[true, true, true, true, true, true, true, true, true, true, true, true, true, true, true, true, true, true, true, true, true, false, false, false, false, false, false] rfl rfl (any_of HT_.out (by kernel_rfl)) ?_
                         refine pu0 (i := 21) (N := some 81) #[true, true, true, true, true, true, true, true, true, true, true, true, true, true, true, true, true, true, true, true, true, true, false, false, false, false, false] rfl rfl (any_of HT_.out (by kernel_rfl)) ?_
                         refine pu0 (i := 22) (N := some 82) #[true, true, true, true, true, true, true, true, true, true, true, true, true, true, true, true, true, true, true, true, true, true, true, false, false, false, false] rfl rfl (any_of HT_.out (by kernel_rfl)) ?_
                         refine take_ (i := 23) (N := some 83) (v := ?_) (a' := ?_) #[true, true, true, true, true, true, true, true, true, true, true, true, true, true, true, true, true, true, true, true, true, true, true, true, false, false, false] rfl rfl (take_ofW HT_.out HW_.out (by kernel_rfl)) (fun _ _ _ h => h) (Or.inl ⟨by rfl, ?_⟩) hHeld ?_ ?_
                         rotate_left
                         ·rintro w' ⟨s0, s1, s2, s3, s4, s5, s6, s7, s8, s9, s10, s11, s12, s13, s14⟩
                          go_simp
                          with_reducible rfl
                         rotate_left
                         ·simp only [Act.put, List.setIfInBounds_toArray, List.set_cons_zero, List.set_cons_succ, i64_w, i32_w]
                          rfl
                         refine one_ (i := 24) (N := some 84) #[true, true, true, true, true, true, true, true, true, true, true, true, true, true, true, true, true, true, true, true, true, true, true, true, true, false, false] rfl rfl (one_of HT_.out (by kernel_rfl)) (by decide) (fun K hK => ?_)
                         refine goes_ Tryd.func23 (by kernel_rfl) rfl #[.agg #[.int .i64 (wrap64 (bt a0 1)), .int .i64 t648, .int .i64 t649, .string (a0.extract 22 ((wrap64 (22 + (wrap64 (bt a0 21)))) : Int).toNat), .bool false, .int .u64 0, .int .u64 (IntKind.u64.wrap (t651)), .bool false, .int .u64 0, .int .u64 (IntKind.u64.wrap (t652)), .bool false, .int .u64 0, .int .u64 (IntKind.u64.wrap (t653)), .bool ((bt a0 20) == 1), .slice none 0 0]] (by rfl) rfl rfl (by (try simp only [List.map_toArray, List.map_cons, List.map_nil]); first | done | rfl | (simp only [List.length_drop, List.length_take]; rfl)) ?_
                         refine (ddiref36_Valid.calls kj1 (wrap64 (bt a0 1)) t648 t649 (a0.extract 22 ((wrap64 (22 + (wrap64 (bt a0 21)))) : Int).toNat) false 0 (IntKind.u64.wrap (t651)) false 0 (IntKind.u64.wrap (t652)) false 0 (IntKind.u64.wrap (t653)) ((bt a0 20) == 1) _ _ ([] : List (S61)) t655 _ ?side1 ?side2 A67.out).mono ?_
                         (case side1 => exact Kd.C_nil _ _)
                         (case side2 => exact Nat.le_refl _)
                         rintro e w70 ⟨rfl, hb⟩
                         refine ⟨_, rfl, ?_⟩
                         have n0_ := Aside0.mk (blk_below (bkx BK647.out) hb)
                         have n1_ := Aside0.mk (blk_below (bkx BK650.out) hb)
                         have n2_ := Aside0.mk (below_step (hbx HB.out) hb)
                         clear BK647
                         clear BK650
                         clear HB
                         have BK647 := n0_
                         have BK650 := n1_
                         have HB := n2_
                         clear n0_ n1_ n2_
                         (try clear hb)
                         (try clear hb2)
                         (try clear hk)
                         (try clear hi)
                         refine hK.out _ _ ⟨(blk_cell BK650.out 0).trans rfl, (blk_cell BK650.out 1).trans rfl, (blk_cell BK650.out 2).trans rfl, (blk_cell BK650.out 3).trans rfl, (blk_cell BK650.out 4).trans rfl, (blk_cell BK650.out 5).trans rfl, (blk_cell BK650.out 6).trans rfl, (blk_cell BK650.out 7).trans rfl, (blk_cell BK650.out 8).trans rfl, (blk_cell BK650.out 9).trans rfl, (blk_cell BK650.out 10).trans rfl, (blk_cell BK650.out 11).trans rfl, (blk_cell BK650.out 12).trans rfl, (blk_cell BK650.out 13).trans rfl, (blk_cell BK650.out 14).trans rfl⟩ (fun hHeld => ?_)
                         clear hK K
                         refine norm_ (a' := ?_) ?_ ?_
                         rotate_left
                         ·show Act.put _ (some 84) _ = _
                          simp only [Act.put, List.setIfInBounds_toArray, List.set_cons_zero, List.set_cons_succ, i64_w, i32_w]
                          rfl
                         refine pu0 (i := 25) (N := some 85) #[true, true, true, true, true, true, true, true, true, true, true, true, true, true, true, true, true, true, true, true, true, true, true, true, true, true, false] rfl rfl (any_of HT_.out (by kernel_rfl)) ?_
                         refine pu0 (i := 26) (N := some 86) #[true, true, true, true, true, true, true, true, true, true, true, true, true, true, true, true, true, true, true, true, true, true, true, true, true, true, true] rfl rfl (any_of HT_.out (by kernel_rfl)) ?_
                         refine done_ (done_of HT_.out (by kernel_rfl)) ?_
                         try go_wp2
                         go_meet
                         case rel => exact ⟨_, (!t655), (by first | rfl | (simp; done) | (simp [*]; done)), H', ⟨by have := HJ1.out; first | omega | exact Nat.le_refl _⟩, ⟨bkx BK647.out⟩, ⟨bkx BK650.out⟩, ⟨hbx HB.out⟩⟩
                       ·rw [if_neg c62] at H
                        have c62b0 : ((wrap64 (bt a0 0)) == t654) = false := beq_eq_false_iff_ne.mpr c62
                        have c62b1 : ((wrap64 (bt a0 0)) != t654) = true := bne_iff_ne.mpr c62
                        have H' := Aside0.mk H
                        clear H
                        try go_wp2
                        refine gen_wp (fun W_ => (W_.heap[gb647]? = some (.cells #[.int .i64 0, .int .i64 0, .int .i64 0, .string (⟨#[]⟩ : ByteArray), .bool false, .int .u64 0, .int .u64 0, .bool false, .int .u64 0, .int .u64 0, .bool false, .int .u64 0, .int .u64 0, .bool false, .slice none 0 0] 27 (0, 0))) ∧ (W_.heap[gb650]? = some (.cells #[.int .i64 (wrap64 (bt a0 1)), .int .i64 t648, .int .i64 t649, .string (a0.extract 22 ((wrap64 (22 + (wrap64 (bt a0 21)))) : Int).toNat), .bool false, .int .u64 0, .int .u64 (IntKind.u64.wrap (t651)), .bool false, .int .u64 0, .int .u64 (IntKind.u64.wrap (t652)), .bool false, .int .u64 0, .int .u64 (IntKind.u64.wrap (t653)), .bool ((bt a0 20) == 1), .slice none 0 0] 27 (0, 0))) ∧ (Below w.heap.size w W_)) ⟨bkx BK647.out, bkp BK650.out, hbx HB.out⟩ (fun w71 HF_ => ?_)
                        (try clear BK647)
                        (try clear BK650)
                        (try clear HB)
                        have n0_ := Aside0.mk HF_.1
                        have n1_ := Aside0.mk HF_.2.1
                        have n2_ := Aside0.mk HF_.2.2
                        clear HF_
                        have BK647 := n0_
                        have BK650 := n1_
                        have HB := n2_
                        clear n0_ n1_ n2_
                        have n0_ := Aside0.mk (blk_drew BK647.out)
                        have n1_ := Aside0.mk (blk_drew BK650.out)
                        have n2_ := Aside0.mk (below_drew1 HB.out)
                        clear BK647
                        clear BK650
                        clear HB
                        have BK647 := n0_
                        have BK650 := n1_
                        have HB := n2_
                        clear n0_ n1_ n2_
                        have p60 : 0 ≤ (0 : Int) := (by omega)
                        have q60 : 0 < a0.size := (by have : (0 : Int) < (a0.size : Int) := of_decide_eq_true (by first | (with_reducible assumption) | assumption); omega)
                        have hx60 : ∀ h : 0 < a0.size, ((a0[0]'h).toNat : Int) = bt a0 0 := bt_at a0 0
                        clear p60
                        have qi60 : (0 < (a0.size : Int)) = True := eq_true (of_decide_eq_true (by first | (with_reducible assumption) | assumption))
                        replace q60 := eq_true q60
                        refine start_ (n := 27) (S := fun w' => w'.cell? ⟨gb650, 0, none⟩ = some (.int .i64 (wrap64 (bt a0 1))) ∧ w'.cell? ⟨gb650, 1, none⟩ = some (.int .i64 t648) ∧ w'.cell? ⟨gb650, 2, none⟩ = some (.int .i64 t649) ∧ w'.cell? ⟨gb650, 3, none⟩ = some (.string (a0.extract 22 ((wrap64 (22 + (wrap64 (bt a0 21)))) : Int).toNat)) ∧ w'.cell? ⟨gb650, 4, none⟩ = some (.bool false) ∧ w'.cell? ⟨gb650, 5, none⟩ = some (.int .u64 0) ∧ w'.cell? ⟨gb650, 6, none⟩ = some (.int .u64 (IntKind.u64.wrap (t651))) ∧ w'.cell? ⟨gb650, 7, none⟩ = some (.bool false) ∧ w'.cell? ⟨gb650, 8, none⟩ = some (.int .u64 0) ∧ w'.cell? ⟨gb650, 9, none⟩ = some (.int .u64 (IntKind.u64.wrap (t652))) ∧ w'.cell? ⟨gb650, 10, none⟩ = some (.bool false) ∧ w'.cell? ⟨gb650, 11, none⟩ = some (.int .u64 0) ∧ w'.cell? ⟨gb650, 12, none⟩ = some (.int .u64 (IntKind.u64.wrap (t653))) ∧ w'.cell? ⟨gb650, 13, none⟩ = some (.bool ((bt a0 20) == 1)) ∧ w'.cell? ⟨gb650, 14, none⟩ = some (.slice none 0 0)) (ds := []) #[false, false, false, false, false, false, false, false, false, false, false, false, false, false, false, false, false, false, false, false, false, false, false, false, false, false, false] (by kernel_rfl) rfl rfl ⟨(blk_cell BK650.out 0).trans rfl, (blk_cell BK650.out 1).trans rfl, (blk_cell BK650.out 2).trans rfl, (blk_cell BK650.out 3).trans rfl, (blk_cell BK650.out 4).trans rfl, (blk_cell BK650.out 5).trans rfl, (blk_cell BK650.out 6).trans rfl, (blk_cell BK650.out 7).trans rfl, (blk_cell BK650.out 8).trans rfl, (blk_cell BK650.out 9).trans rfl, (blk_cell BK650.out 10).trans rfl, (blk_cell BK650.out 11).trans rfl, (blk_cell BK650.out 12).trans rfl, (blk_cell BK650.out 13).trans rfl, (blk_cell BK650.out 14).trans rfl⟩ (fun hHeld => ?_); refine with_tabW ddiref36_Decode.tab9 ddiref36_Decode.bits9 (fun HT_ HW_ => ?_)
                        generalize w71.drew = w72 at BK647 BK650 HB hHeld ⊢
                        refine pu0 (i := 0) (N := some 60) #[true, false, false, false, false, false, false, false, false, false, false, false, false, false, false, false, false, false, false, false, false, false, false, false, false, false, false] rfl rfl (any_of HT_.out (by kernel_rfl)) ?_
                        refine take_ (i := 1) (N := some 61) (v := ?_) (a' := ?_) #[true, true, false, false, false, false, false, false, false, false, false, false, false, false, false, false, false, false, false, false, false, false, false, false, false, false, false] rfl rfl (take_ofW HT_.out HW_.out (by kernel_rfl)) (fun _ _ _ h => h) (Or.inl ⟨by rfl, ?_⟩) hHeld ?_ ?_
                        rotate_left
                        ·rintro w' ⟨s0, s1, s2, s3, s4, s5, s6, s7, s8, s9, s10, s11, s12, s13, s14⟩
                         go_simp
                         with_reducible rfl
                        rotate_left
                        ·simp only [Act.put, List.setIfInBounds_toArray, List.set_cons_zero, List.set_cons_succ, i64_w, i32_w]
                         rfl
                        refine pu0 (i := 2) (N := some 62) #[true, true, true, false, false, false, false, false, false, false, false, false, false, false, false, false, false, false, false, false, false, false, false, false, false, false, false] rfl rfl (any_of HT_.out (by kernel_rfl)) ?_
                        refine pu0 (i := 3) (N := some 63) #[true, true, true, true, false, false, false, false, false, false, false, false, false, false, false, false, false, false, false, false, false, false, false, false, false, false, false] rfl rfl (any_of HT_.out (by kernel_rfl)) ?_
                        refine pu0 (i := 4) (N := some 64) #[true, true, true, true, true, false, false, false, false, false, false, false, false, false, false, false, false, false, false, false, false, false, false, false, false, false, false] rfl rfl (any_of HT_.out (by kernel_rfl)) ?_
                        refine take_ (i := 5) (N := some 65) (v := ?_) (a' := ?_) #[true, true, true, true, true, true, false, false, false, false, false, false, false, false, false, false, false, false, false, false, false, false, false, false, false, false, false] rfl rfl (take_ofW HT_.out HW_.out (by kernel_rfl)) (fun _ _ _ h => h) (Or.inl ⟨by rfl, ?_⟩) hHeld ?_ ?_
                        rotate_left
                        ·rintro w' ⟨s0, s1, s2, s3, s4, s5, s6, s7, s8, s9, s10, s11, s12, s13, s14⟩
                         go_simp
                         with_reducible rfl
                        rotate_left
                        ·simp only [Act.put, List.setIfInBounds_toArray, List.set_cons_zero, List.set_cons_succ, i64_w, i32_w]
                         rfl
                        refine pu0 (i := 6) (N := some 66) #[true, true, true, true, true, true, true, false, false, false, false, false, false, false, false, false, false, false, false, false, false, false, false, false, false, false, false] rfl rfl (any_of HT_.out (by kernel_rfl)) ?_
                        refine pu0 (i := 7) (N := some 67) #[true, true, true, true, true, true, true, true, false, false, false, false, false, false, false, false, false, false, false, false, false, false, false, false, false, false, false] rfl rfl (any_of HT_.out (by kernel_rfl)) ?_
                        refine pu0 (i := 8) (N := some 68) #[true, true, true, true, true, true, true, true, true, false, false, false, false, false, false, false, false, false, false, false, false, false, false, false, false, false, false] rfl rfl (any_of HT_.out (by kernel_rfl)) ?_
                        refine pu0 (i := 9) (N := some 69) #[true, true, true, true, true, true, true, true, true, true, false, false, false, false, false, false, false, false, false, false, false, false, false, false, false, false, false] rfl rfl (any_of HT_.out (by kernel_rfl)) ?_
                        refine pu0 (i := 12) (N := some 72) #[true, true, true, true, true, true, true, true, true, true, false, false, true, false, false, false, false, false, false, false, false, false, false, false, false, false, false] rfl rfl (any_of HT_.out (by kernel_rfl)) ?_
                        refine take_ (i := 10) (N := some 70) (v := ?_) (a' := ?_) #[true, true, true, true, true, true, true, true, true, true, true, false, true, false, false, false, false, false, false, false, false, false, false, false, false, false, false] rfl rfl (take_ofW HT_.out HW_.out (by kernel_rfl)) (fun _ _ _ h => h) (Or.inl ⟨by rfl, ?_⟩) hHeld ?_ ?_
                        rotate_left
                        ·rintro w' ⟨s0, s1, s2, s3, s4, s5, s6, s7, s8, s9, s10, s11, s12, s13, s14⟩
                         go_simp
                         with_reducible rfl
                        rotate_left
                        ·simp only [Act.put, List.setIfInBounds_toArray, List.set_cons_zero, List.set_cons_succ, i64_w, i32_w]
                         rfl
                        refine pu0 (i := 11) (N := some 71) #[true, true, true, true, true, true, true, true, true, true, true, true, true, false, false, false, false, false, false, false, false, false, false, false, false, false, false] rfl rfl (any_of HT_.out (by kernel_rfl)) ?_
                        refine take_ (i := 13) (N := some 73) (v := ?_) (a' := ?_) #[true, true, true, true, true, true, true, true, true, true, true, true, true, true, false, false, false, false, false, false, false, false, false, false, false, false, false] rfl rfl (take_ofW HT_.out HW_.out (by kernel_rfl)) (fun _ _ _ h => h) (Or.inl ⟨by rfl, ?_⟩) hHeld ?_ ?_
                        rotate_left
                        ·rintro w' ⟨s0, s1, s2, s3, s4, s5, s6, s7, s8, s9, s10, s11, s12, s13, s14⟩
                         go_simp
                         with_reducible rfl
                        rotate_left
                        ·simp only [Act.put, List.setIfInBounds_toArray, List.set_cons_zero, List.set_cons_succ, i64_w, i32_w]
                         rfl
                        refine one_ (i := 14) (N := some 74) #[true, true, true, true, true, true, true, true, true, true, true, true, true, true, true, false, false, false, false, false, false, false, false, false, false, false, false] rfl rfl (one_of HT_.out (by kernel_rfl)) (by decide) (fun K hK => ?_)
                        refine goes_ Tryd.func44 (by kernel_rfl) rfl #[.int .i64 (wrap64 (bt a0 1))] (by rfl) rfl rfl (by (try simp only [List.map_toArray, List.map_cons, List.map_nil]); first | done | rfl | (simp only [List.length_drop, List.length_take]; rfl)) ?_
                        with_reducible refine (ddiref36_op.calls (wrap64 (bt a0 1)) t654 _ A61.out).mono ?_
                        rintro e w' ⟨rfl, ⟨nd, rfl⟩⟩
                        refine ⟨_, rfl, ?_⟩
                        refine hK.out _ _ ⟨(blk_cell BK650.out 0).trans rfl, (blk_cell BK650.out 1).trans rfl, (blk_cell BK650.out 2).trans rfl, (blk_cell BK650.out 3).trans rfl, (blk_cell BK650.out 4).trans rfl, (blk_cell BK650.out 5).trans rfl, (blk_cell BK650.out 6).trans rfl, (blk_cell BK650.out 7).trans rfl, (blk_cell BK650.out 8).trans rfl, (blk_cell BK650.out 9).trans rfl, (blk_cell BK650.out 10).trans rfl, (blk_cell BK650.out 11).trans rfl, (blk_cell BK650.out 12).trans rfl, (blk_cell BK650.out 13).trans rfl, (blk_cell BK650.out 14).trans rfl⟩ (fun hHeld => ?_)
                        clear hK K
                        refine norm_ (a' := ?_) ?_ ?_
                        rotate_left
                        ·show Act.put _ (some 74) _ = _
                         simp only [Act.put, List.setIfInBounds_toArray, List.set_cons_zero, List.set_cons_succ, i64_w, i32_w]
                         rfl
                        refine pu0 (i := 15) (N := some 75) #[true, true, true, true, true, true, true, true, true, true, true, true, true, true, true, true, false, false, false, false, false, false, false, false, false, false, false] rfl rfl (any_of HT_.out (by kernel_rfl)) ?_
                        refine pu0 (i := 16) (N := some 76) #[true, true, true, true, true, true, true, true, true, true, true, true, true, true, true, true, true, false, false, false, false, false, false, false, false, false, false] rfl rfl (any_of HT_.out (by kernel_rfl)) ?_
                        refine pu0 (i := 17) (N := some 77) #[true, true, true, true, true, true, true, true, true, true, true, true, true, true, true, true, true, true, false, false, false, false, false, false, false, false, false] rfl rfl (any_of HT_.out (by kernel_rfl)) ?_
                        refine pure_ (i := 18) (N := some 78) (v := undef) (a' := ?_) #[true, true, true, true, true, true, true, true, true, true, true, true, true, true, true, true, true, true, true, false, false, false, false, false, false, false, false] rfl rfl (any_of HT_.out (by kernel_rfl)) (fun _ _ _ h => h) (Or.inr ⟨by rfl, rfl⟩) ?_ ?_
                        rotate_left
                        ·simp only [Act.put, List.setIfInBounds_toArray, List.set_cons_zero, List.set_cons_succ, i64_w, i32_w]
                         rfl
                        refine pure_ (i := 19) (N := some 79) (v := undef) (a' := ?_) #[true, true, true, true, true, true, true, true, true, true, true, true, true, true, true, true, true, true, true, true, false, false, false, false, false, false, false] rfl rfl (any_of HT_.out (by kernel_rfl)) (fun _ _ _ h => h) (Or.inr ⟨by rfl, rfl⟩) ?_ ?_
                        rotate_left
                        ·simp only [Act.put, List.setIfInBounds_toArray, List.set_cons_zero, List.set_cons_succ, i64_w, i32_w]
                         rfl
                        refine pure_ (i := 20) (N := some 80) (v := undef) (a' := ?_) #[true, true, true, true, true, true, true, true, true, true, true, true, true, true, true, true, true, true, true, true, true, false, false, false, false, false, false] rfl rfl (any_of HT_.out (by kernel_rfl)) (fun _ _ _ h => h) (Or.inr ⟨by rfl, rfl⟩) ?_ ?_
                        rotate_left
                        ·simp only [Act.put, List.setIfInBounds_toArray, List.set_cons_zero, List.set_cons_succ, i64_w, i32_w]
                         rfl
                        refine pu0 (i := 21) (N := some 81) #[true, true, true, true, true, true, true, true, true, true, true, true, true, true, true, true, true, true, true, true, true, true, false, false, false, false, false] rfl rfl (any_of HT_.out (by kernel_rfl)) ?_
                        refine pu0 (i := 22) (N := some 82) #[true, true, true, true, true, true, true, true, true, true, true, true, true, true, true, true, true, true, true, true, true, true, true, false, false, false, false] rfl rfl (any_of HT_.out (by kernel_rfl)) ?_
                        refine pure_ (i := 23) (N := some 83) (v := undef) (a' := ?_) #[true, true, true, true, true, true, true, true, true, true, true, true, true, true, true, true, true, true, true, true, true, true, true, true, false, false, false] rfl rfl (any_of HT_.out (by kernel_rfl)) (fun _ _ _ h => h) (Or.inr ⟨by rfl, rfl⟩) ?_ ?_
                        rotate_left
                        ·simp only [Act.put, List.setIfInBounds_toArray, List.set_cons_zero, List.set_cons_succ, i64_w, i32_w]
                         rfl
                        refine pure_ (i := 24) (N := some 84) (v := undef) (a' := ?_) #[true, true, true, true, true, true, true, true, true, true, true, true, true, true, true, true, true, true, true, true, true, true, true, true, true, false, false] rfl rfl (any_of HT_.out (by kernel_rfl)) (fun _ _ _ h => h) (Or.inr ⟨by rfl, rfl⟩) ?_ ?_
                        rotate_left
                        ·simp only [Act.put, List.setIfInBounds_toArray, List.set_cons_zero, List.set_cons_succ, i64_w, i32_w]
                         rfl
                        refine pure_ (i := 25) (N := some 85) (v := undef) (a' := ?_) #[true, true, true, true, true, true, true, true, true, true, true, true, true, true, true, true, true, true, true, true, true, true, true, true, true, true, false] rfl rfl (any_of HT_.out (by kernel_rfl)) (fun _ _ _ h => h) (Or.inr ⟨by rfl, rfl⟩) ?_ ?_
                        rotate_left
                        ·simp only [Act.put, List.setIfInBounds_toArray, List.set_cons_zero, List.set_cons_succ, i64_w, i32_w]
                         rfl
                        refine pu0 (i := 26) (N := some 86) #[true, true, true, true, true, true, true, true, true, true, true, true, true, true, true, true, true, true, true, true, true, true, true, true, true, true, true] rfl rfl (any_of HT_.out (by kernel_rfl)) ?_
                        refine done_ (done_of HT_.out (by kernel_rfl)) ?_
                        try go_wp2
                        go_meet
                        case rel => exact ⟨_, (true), (by first | rfl | (simp; done) | (simp [*]; done)), H', ⟨by have := HJ1.out; first | omega | exact Nat.le_refl _⟩, ⟨bkx BK647.out⟩, ⟨bkx BK650.out⟩, ⟨hbx HB.out⟩⟩
                      ·rw [if_neg c59] at H
                       exact absurd H (by simp)
                   case rest =>
                    exact ddiref36_Decode.rest2 k a0 r1 r2 r3 r4 r5 r6 r7 r8 r9 r10 r11 r12 r13 r14 r15 r16 w t648 t649 t651 t652 t653 gb647 gb650 kj1 NB650_647 GE647 GE650 _ _ wc _ _ _ _ _ _ _ _ _ _ _ _ _ _ _ _ _ _ _ _ _ _ _ _ _ _ _ _ _ _ _ _ _ _ _ _ _ _ _ _ _ _ _ _ _ _ _ _ _ _ _ _ _ _ _ _ _ _ _ _ _ _ _ _ _ _ _ _ _ _ _ _ _ _ _ _ _ _ _ _ _ _ _ _ _ _ _ _ _ _ _ _ _ _ _ _ _ _ _ _ _ _ (by assumption) (by assumption) hcut
                  ·rw [if_neg c31] at H
                   exact absurd H (by simp)
                 ·rw [if_neg c30] at H
                  exact absurd H (by simp)
                ·rw [if_neg c28] at H
                 exact absurd H (by simp)
               ·rw [if_neg c26] at H
                exact absurd H (by simp)
              ·rw [if_neg c25] at H
               exact absurd H (by simp)
             ·rw [if_neg c23] at H
              exact absurd H (by simp)
            ·rw [if_neg c22] at H
             exact absurd H (by simp)
           ·rw [if_neg c20] at H
            exact absurd H (by simp)
          ·rw [if_neg c19] at H
           exact absurd H (by simp)
         ·rw [if_neg c17] at H
          exact absurd H (by simp)
        ·rw [if_neg c15] at H
         exact absurd H (by simp)
       ·rw [if_neg c14] at H
        exact absurd H (by simp)
      ·rw [if_neg c12] at H
       exact absurd H (by simp)
     ·rw [if_neg c11] at H
      exact absurd H (by simp)
    ·rw [if_neg c9] at H
     exact absurd H (by simp)

end Go.Proofs.YtcoekgnbncocnaaDoor.Pa


namespace Go.Proofs.YtcoekgnbncocnaaDoor.Pa
open Go.RowKit Go.Proofs.YtcoekgnbncocnaaDoorW.PrintWords Go.Proofs.YtcoekgnbncocnaaDoorW.PrintLast Go.Proofs.YtcoekgnbncocnaaDoorW.PrintMore
attribute [local go_sem] max2_int min2_int max_two min_two max_three min_three max_four min_four   -- for this text's walks alone
set_option linter.unusedVariables false
set_option linter.unusedSimpArgs false

def ddilaw36_DhcpDecodes.f (k : Nat) (a0 : ByteArray) : Option (Bool) := if 0 ≤ (mn (a0.size : Int) 3000) then (if (mn (a0.size : Int) 3000) ≤ (a0.size : Int) then ((dhcp_Decode.f k (a0.extract 0 ((mn (a0.size : Int) 3000) : Int).toNat)).bind fun bt661 => ((ddiref36_Decode.f k (a0.extract 0 ((mn (a0.size : Int) 3000) : Int).toNat)).bind fun bt680 => ((ddiref36_Same.f k bt661.1 bt661.2.1 bt661.2.2.1 bt661.2.2.2.1 bt661.2.2.2.2.1 bt661.2.2.2.2.2.1 bt661.2.2.2.2.2.2.1 bt661.2.2.2.2.2.2.2.1 bt661.2.2.2.2.2.2.2.2.1 bt661.2.2.2.2.2.2.2.2.2.1 bt661.2.2.2.2.2.2.2.2.2.2.1 bt661.2.2.2.2.2.2.2.2.2.2.2.1 bt661.2.2.2.2.2.2.2.2.2.2.2.2.1 bt661.2.2.2.2.2.2.2.2.2.2.2.2.2.1 bt661.2.2.2.2.2.2.2.2.2.2.2.2.2.2.1 bt680.1 bt680.2.1 bt680.2.2.1 bt680.2.2.2.1 bt680.2.2.2.2.1 bt680.2.2.2.2.2.1 bt680.2.2.2.2.2.2.1 bt680.2.2.2.2.2.2.2.1 bt680.2.2.2.2.2.2.2.2.1 bt680.2.2.2.2.2.2.2.2.2.1 bt680.2.2.2.2.2.2.2.2.2.2.1 bt680.2.2.2.2.2.2.2.2.2.2.2.1 bt680.2.2.2.2.2.2.2.2.2.2.2.2.1 bt680.2.2.2.2.2.2.2.2.2.2.2.2.2.1 bt680.2.2.2.2.2.2.2.2.2.2.2.2.2.2.1).bind fun t699 => (if t699 = true then (if bt661.2.2.2.2.2.2.2.2.2.2.2.2.2.2.2 = bt680.2.2.2.2.2.2.2.2.2.2.2.2.2.2.2 then ((ddilaw36_awake.f k).bind fun t700 => (some t700)) else (none)) else (none))))) else (none)) else (none)
set_option maxHeartbeats 8000000 in
set_option maxRecDepth 100000 in
theorem ddilaw36_DhcpDecodes.calls (k : Nat) (a0 : ByteArray) (r : Bool) (w : World) (h : ddilaw36_DhcpDecodes.f k a0 = some r) :
  Calls Tryd.prog 6 #[.string a0] w fun e w' => e = .returned (.bool r) ∧ Below w.heap.size w w' := by
 have hu27 := Tryd.underlying27
 have HB := Aside0.mk (Below.refl w.heap.size w)
 have H : (if 0 ≤ (mn (a0.size : Int) 3000) then (if (mn (a0.size : Int) 3000) ≤ (a0.size : Int) then ((dhcp_Decode.f k (a0.extract 0 ((mn (a0.size : Int) 3000) : Int).toNat)).bind fun bt661 => ((ddiref36_Decode.f k (a0.extract 0 ((mn (a0.size : Int) 3000) : Int).toNat)).bind fun bt680 => ((ddiref36_Same.f k bt661.1 bt661.2.1 bt661.2.2.1 bt661.2.2.2.1 bt661.2.2.2.2.1 bt661.2.2.2.2.2.1 bt661.2.2.2.2.2.2.1 bt661.2.2.2.2.2.2.2.1 bt661.2.2.2.2.2.2.2.2.1 bt661.2.2.2.2.2.2.2.2.2.1 bt661.2.2.2.2.2.2.2.2.2.2.1 bt661.2.2.2.2.2.2.2.2.2.2.2.1 bt661.2.2.2.2.2.2.2.2.2.2.2.2.1 bt661.2.2.2.2.2.2.2.2.2.2.2.2.2.1 bt661.2.2.2.2.2.2.2.2.2.2.2.2.2.2.1 bt680.1 bt680.2.1 bt680.2.2.1 bt680.2.2.2.1 bt680.2.2.2.2.1 bt680.2.2.2.2.2.1 bt680.2.2.2.2.2.2.1 bt680.2.2.2.2.2.2.2.1 bt680.2.2.2.2.2.2.2.2.1 bt680.2.2.2.2.2.2.2.2.2.1 bt680.2.2.2.2.2.2.2.2.2.2.1 bt680.2.2.2.2.2.2.2.2.2.2.2.1 bt680.2.2.2.2.2.2.2.2.2.2.2.2.1 bt680.2.2.2.2.2.2.2.2.2.2.2.2.2.1 bt680.2.2.2.2.2.2.2.2.2.2.2.2.2.2.1).bind fun t699 => (if t699 = true then (if bt661.2.2.2.2.2.2.2.2.2.2.2.2.2.2.2 = bt680.2.2.2.2.2.2.2.2.2.2.2.2.2.2.2 then ((ddilaw36_awake.f k).bind fun t700 => (some t700)) else (none)) else (none))))) else (none)) else (none)) = some r := h
 clear h
 obtain ⟨ji2, hji2⟩ : ∃ j_ : Int, (mn (a0.size : Int) 3000) = j_ := ⟨_, rfl⟩
 replace H : (if 0 ≤ (ji2) then (if (ji2) ≤ (a0.size : Int) then ((dhcp_Decode.f k (a0.extract 0 ((ji2) : Int).toNat)).bind fun bt661 => ((ddiref36_Decode.f k (a0.extract 0 ((ji2) : Int).toNat)).bind fun bt680 => ((ddiref36_Same.f k bt661.1 bt661.2.1 bt661.2.2.1 bt661.2.2.2.1 bt661.2.2.2.2.1 bt661.2.2.2.2.2.1 bt661.2.2.2.2.2.2.1 bt661.2.2.2.2.2.2.2.1 bt661.2.2.2.2.2.2.2.2.1 bt661.2.2.2.2.2.2.2.2.2.1 bt661.2.2.2.2.2.2.2.2.2.2.1 bt661.2.2.2.2.2.2.2.2.2.2.2.1 bt661.2.2.2.2.2.2.2.2.2.2.2.2.1 bt661.2.2.2.2.2.2.2.2.2.2.2.2.2.1 bt661.2.2.2.2.2.2.2.2.2.2.2.2.2.2.1 bt680.1 bt680.2.1 bt680.2.2.1 bt680.2.2.2.1 bt680.2.2.2.2.1 bt680.2.2.2.2.2.1 bt680.2.2.2.2.2.2.1 bt680.2.2.2.2.2.2.2.1 bt680.2.2.2.2.2.2.2.2.1 bt680.2.2.2.2.2.2.2.2.2.1 bt680.2.2.2.2.2.2.2.2.2.2.1 bt680.2.2.2.2.2.2.2.2.2.2.2.1 bt680.2.2.2.2.2.2.2.2.2.2.2.2.1 bt680.2.2.2.2.2.2.2.2.2.2.2.2.2.1 bt680.2.2.2.2.2.2.2.2.2.2.2.2.2.2.1).bind fun t699 => (if t699 = true then (if bt661.2.2.2.2.2.2.2.2.2.2.2.2.2.2.2 = bt680.2.2.2.2.2.2.2.2.2.2.2.2.2.2.2 then ((ddilaw36_awake.f k).bind fun t700 => (some t700)) else (none)) else (none))))) else (none)) else (none)) = some r := by first | (rw [hji2] at H; exact H) | (simp only [hji2] at H ⊢; exact H)
 (try (have hji2h : ji2 ≤ 3000 := by (rw [← hji2]; unfold mn; (repeat' split) <;> omega)))
 (try (have hji2g : ji2 ≤ 64 := by omega))
 (try (have hji2l : 0 ≤ ji2 := by (rw [← hji2]; unfold mn; (repeat' split) <;> omega)))
 (try (have hji2m : 0 ≤ ji2 := by omega))
 have hji2_ : (if 3000 < (a0.size : Int) then 3000 else (a0.size : Int)) = ji2 := hji2
 by_cases c3 : 0 ≤ (ji2)
 ·rw [if_pos c3] at H
  have c3b0 := eq_true c3
  have c3b1 : decide (0 ≤ (ji2)) = true := decide_eq_true c3
  clear c3
  by_cases c4 : (ji2) ≤ (a0.size : Int)
  ·rw [if_pos c4] at H
   have c4b0 := eq_true c4
   have c4b1 : decide ((ji2) ≤ (a0.size : Int)) = true := decide_eq_true c4
   clear c4
   replace H := Option.bind_eq_some_iff.mp H
   obtain ⟨⟨t661, t662, t663, t664, t665, t666, t667, t668, t669, t670, t671, t672, t673, t674, t675, t678⟩, A50, H⟩ := H
   (try dsimp only at H)
   have A5 := Aside0.mk A50
   clear A50
   replace H := Option.bind_eq_some_iff.mp H
   obtain ⟨⟨t680, t681, t682, t683, t684, t685, t686, t687, t688, t689, t690, t691, t692, t693, t694, t697⟩, A60, H⟩ := H
   (try dsimp only at H)
   have A6 := Aside0.mk A60
   clear A60
   replace H := Option.bind_eq_some_iff.mp H
   obtain ⟨t699, A70, H⟩ := H
   (try dsimp only at H)
   have A7 := Aside0.mk A70
   clear A70
   by_cases c8 : t699 = true
   ·subst c8
    rw [if_pos rfl] at H
    by_cases c9 : t678 = t697
    ·rw [if_pos c9] at H
     have c9b0 : (t678 == t697) = true := beq_iff_eq.mpr c9
     have c9b1 : (t678 != t697) = false := bne_eq_false_iff_eq.mpr c9
     clear c9
     replace H := Option.bind_eq_some_iff.mp H
     obtain ⟨t700, A100, H⟩ := H
     replace H : (some t700) = some r := H
     have A10 := Aside0.mk A100
     clear A100
     obtain rfl := Option.some.inj H
     go_enter Tryd.func6, Tryd.ntmps6
     go_wp2_with (first | ((with_reducible refine gate_callee (f := 24) rfl ?_); refine goesL_ (some 14) rfl rfl Tryd.func24 (by kernel_rfl) rfl #[.string (a0.extract 0 ((ji2) : Int).toNat)] rfl (by (try simp only [List.map_toArray, List.map_cons, List.map_nil]); first | done | (simp only [hji2]; rfl) | rfl | (simp only [List.length_drop, List.length_take]; rfl)) ?_; (with_reducible refine (dhcp_Decode.calls k (a0.extract 0 ((ji2) : Int).toNat) t661 t662 t663 t664 t665 t666 t667 t668 t669 t670 t671 t672 t673 t674 t675 t678 _ A5.out).mono ?_); rintro e w11 ⟨v676, rfl, ho0, hb⟩; refine ⟨_, rfl, ?_⟩; have n0_ := Aside0.mk (Kd.R_lower ho0 (below_size (hbx HB.out))); have n1_ := Aside0.mk (below_step (hbx HB.out) hb); clear HB; have HO677 := n0_; have HB := n1_; clear n0_ n1_; (try clear hb); (try clear hb2); (try clear hk); (try clear hi); (try clear ho0)) | ((with_reducible refine gate_dst (N := 3) rfl ?_); refine box_event ?hg (N := 3) ?hd (cs := #[.int .i64 0, .int .i64 0, .int .i64 0, .string (⟨#[]⟩ : ByteArray), .bool false, .int .u64 0, .int .u64 0, .bool false, .int .u64 0, .int .u64 0, .bool false, .int .u64 0, .int .u64 0, .bool false, .slice none 0 0]) (t := 27) ?hr ?_; (case hd => rfl); (case hg => rfl); (case hr => first | (go_simp; done) | (go_simp; rfl)); intro gb679 hg w12 hbox hb; have n0_ := Aside0.mk (Kd.R_below (by (with_reducible repeat (first | apply Kd.R_alloc | apply Kd.R_drewN | apply Kd.R_drew)); exact HO677.out) hb); have n1_ := Aside0.mk (below_step (hbx HB.out) hb); have n2_ := Aside0.mk (hbox); have n3_ := Aside0.mk ((by rw [hg]; exact (below_size (hbx HB.out)) : w.heap.size ≤ gb679)); have n4_ := Aside0.mk ((by rw [hg]; exact (below_size (hbx HB.out)) : w.heap.size ≤ gb679)); clear HO677; clear HB; have HO677 := n0_; have HB := n1_; have BK679 := n2_; have GW679 := n3_; have GE679 := n4_; clear n0_ n1_ n2_ n3_ n4_; clear hb hbox hg; obtain ⟨⟨hcz13_0, hcz13_1, hcz13_2, hcz13_3, hcz13_4, hcz13_5, hcz13_6, hcz13_7, hcz13_8, hcz13_9, hcz13_10, hcz13_11, hcz13_12, hcz13_13, hcz13_14⟩, hfz13_0, hfz13_1, hfz13_2, hfz13_3, hfz13_4, hfz13_5, hfz13_6, hfz13_7, hfz13_8, hfz13_9, hfz13_10, hfz13_11, hfz13_12, hfz13_13, hfz13_14⟩ := cf15 BK679.out; obtain ⟨Ao14, co14, eo14⟩ := Kd.R_slice HO677.out; subst eo14) | ((with_reducible refine gate_callee (f := 25) rfl ?_); refine goesL_ (some 19) rfl rfl Tryd.func25 (by kernel_rfl) rfl #[.string (a0.extract 0 ((ji2) : Int).toNat)] rfl (by (try simp only [List.map_toArray, List.map_cons, List.map_nil]); first | done | (simp only [hji2]; rfl) | rfl | (simp only [List.length_drop, List.length_take]; rfl)) ?_; (with_reducible refine (ddiref36_Decode.calls k (a0.extract 0 ((ji2) : Int).toNat) t680 t681 t682 t683 t684 t685 t686 t687 t688 t689 t690 t691 t692 t693 t694 t697 _ A6.out).mono ?_); rintro e w15 ⟨v695, rfl, ho0, hb⟩; refine ⟨_, rfl, ?_⟩; have n0_ := Aside0.mk (Kd.R_elder' (by (with_reducible repeat (first | apply Kd.R_alloc | apply Kd.R_drewN | apply Kd.R_drew)); exact (Kd.R_mono (rf15 (g := gb679) (Kd.R_types HO677.out BK679.out (by decide)) (fun _ hk => hk.2)) (fun _ h_ => h_.1))) (Kd.R_base ho0) hb); have n1_ := Aside0.mk (Kd.R_lower (Kd.R_new' ho0 (Kd.R_lt (by (with_reducible repeat (first | apply Kd.R_alloc | apply Kd.R_drewN | apply Kd.R_drew)); exact (Kd.R_mono (rf15 (g := gb679) (Kd.R_types HO677.out BK679.out (by decide)) (fun _ hk => hk.2)) (fun _ h_ => h_.1))))) (below_size (hbx HB.out))); have n2_ := Aside0.mk (blk_below (g := gb679) (o := .cells #[.int .i64 t661, .int .i64 t662, .int .i64 t663, .string t664, .bool t665, .int .u64 t666, .int .u64 t667, .bool t668, .int .u64 t669, .int .u64 t670, .bool t671, .int .u64 t672, .int .u64 t673, .bool t674, .slice Ao14 t675.length co14] 27 (0, 0)) (by (with_reducible repeat (first | refine blk_drewN ?_ _ | refine blk_drew ?_ | refine blk_alloc ?_ _)); refine blk_put (cs := #[.int .i64 t661, .int .i64 t662, .int .i64 t663, .string t664, .bool t665, .int .u64 t666, .int .u64 t667, .bool t668, .int .u64 t669, .int .u64 t670, .bool t671, .int .u64 t672, .int .u64 t673, .bool t674, .slice none 0 0]) ?_ 14 _ rfl; (with_reducible repeat (first | refine blk_drewN ?_ _ | refine blk_drew ?_ | refine blk_alloc ?_ _)); refine blk_put (cs := #[.int .i64 t661, .int .i64 t662, .int .i64 t663, .string t664, .bool t665, .int .u64 t666, .int .u64 t667, .bool t668, .int .u64 t669, .int .u64 t670, .bool t671, .int .u64 t672, .int .u64 t673, .bool false, .slice none 0 0]) ?_ 13 _ rfl; (with_reducible repeat (first | refine blk_drewN ?_ _ | refine blk_drew ?_ | refine blk_alloc ?_ _)); refine blk_put (cs := #[.int .i64 t661, .int .i64 t662, .int .i64 t663, .string t664, .bool t665, .int .u64 t666, .int .u64 t667, .bool t668, .int .u64 t669, .int .u64 t670, .bool t671, .int .u64 t672, .int .u64 0, .bool false, .slice none 0 0]) ?_ 12 _ rfl; (with_reducible repeat (first | refine blk_drewN ?_ _ | refine blk_drew ?_ | refine blk_alloc ?_ _)); refine blk_put (cs := #[.int .i64 t661, .int .i64 t662, .int .i64 t663, .string t664, .bool t665, .int .u64 t666, .int .u64 t667, .bool t668, .int .u64 t669, .int .u64 t670, .bool t671, .int .u64 0, .int .u64 0, .bool false, .slice none 0 0]) ?_ 11 _ rfl; (with_reducible repeat (first | refine blk_drewN ?_ _ | refine blk_drew ?_ | refine blk_alloc ?_ _)); refine blk_put (cs := #[.int .i64 t661, .int .i64 t662, .int .i64 t663, .string t664, .bool t665, .int .u64 t666, .int .u64 t667, .bool t668, .int .u64 t669, .int .u64 t670, .bool false, .int .u64 0, .int .u64 0, .bool false, .slice none 0 0]) ?_ 10 _ rfl; (with_reducible repeat (first | refine blk_drewN ?_ _ | refine blk_drew ?_ | refine blk_alloc ?_ _)); refine blk_put (cs := #[.int .i64 t661, .int .i64 t662, .int .i64 t663, .string t664, .bool t665, .int .u64 t666, .int .u64 t667, .bool t668, .int .u64 t669, .int .u64 0, .bool false, .int .u64 0, .int .u64 0, .bool false, .slice none 0 0]) ?_ 9 _ rfl; (with_reducible repeat (first | refine blk_drewN ?_ _ | refine blk_drew ?_ | refine blk_alloc ?_ _)); refine blk_put (cs := #[.int .i64 t661, .int .i64 t662, .int .i64 t663, .string t664, .bool t665, .int .u64 t666, .int .u64 t667, .bool t668, .int .u64 0, .int .u64 0, .bool false, .int .u64 0, .int .u64 0, .bool false, .slice none 0 0]) ?_ 8 _ rfl; (with_reducible repeat (first | refine blk_drewN ?_ _ | refine blk_drew ?_ | refine blk_alloc ?_ _)); refine blk_put (cs := #[.int .i64 t661, .int .i64 t662, .int .i64 t663, .string t664, .bool t665, .int .u64 t666, .int .u64 t667, .bool false, .int .u64 0, .int .u64 0, .bool false, .int .u64 0, .int .u64 0, .bool false, .slice none 0 0]) ?_ 7 _ rfl; (with_reducible repeat (first | refine blk_drewN ?_ _ | refine blk_drew ?_ | refine blk_alloc ?_ _)); refine blk_put (cs := #[.int .i64 t661, .int .i64 t662, .int .i64 t663, .string t664, .bool t665, .int .u64 t666, .int .u64 0, .bool false, .int .u64 0, .int .u64 0, .bool false, .int .u64 0, .int .u64 0, .bool false, .slice none 0 0]) ?_ 6 _ rfl; (with_reducible repeat (first | refine blk_drewN ?_ _ | refine blk_drew ?_ | refine blk_alloc ?_ _)); refine blk_put (cs := #[.int .i64 t661, .int .i64 t662, .int .i64 t663, .string t664, .bool t665, .int .u64 0, .int .u64 0, .bool false, .int .u64 0, .int .u64 0, .bool false, .int .u64 0, .int .u64 0, .bool false, .slice none 0 0]) ?_ 5 _ rfl; (with_reducible repeat (first | refine blk_drewN ?_ _ | refine blk_drew ?_ | refine blk_alloc ?_ _)); refine blk_put (cs := #[.int .i64 t661, .int .i64 t662, .int .i64 t663, .string t664, .bool false, .int .u64 0, .int .u64 0, .bool false, .int .u64 0, .int .u64 0, .bool false, .int .u64 0, .int .u64 0, .bool false, .slice none 0 0]) ?_ 4 _ rfl; (with_reducible repeat (first | refine blk_drewN ?_ _ | refine blk_drew ?_ | refine blk_alloc ?_ _)); refine blk_put (cs := #[.int .i64 t661, .int .i64 t662, .int .i64 t663, .string (⟨#[]⟩ : ByteArray), .bool false, .int .u64 0, .int .u64 0, .bool false, .int .u64 0, .int .u64 0, .bool false, .int .u64 0, .int .u64 0, .bool false, .slice none 0 0]) ?_ 3 _ rfl; (with_reducible repeat (first | refine blk_drewN ?_ _ | refine blk_drew ?_ | refine blk_alloc ?_ _)); refine blk_put (cs := #[.int .i64 t661, .int .i64 t662, .int .i64 0, .string (⟨#[]⟩ : ByteArray), .bool false, .int .u64 0, .int .u64 0, .bool false, .int .u64 0, .int .u64 0, .bool false, .int .u64 0, .int .u64 0, .bool false, .slice none 0 0]) ?_ 2 _ rfl; (with_reducible repeat (first | refine blk_drewN ?_ _ | refine blk_drew ?_ | refine blk_alloc ?_ _)); refine blk_put (cs := #[.int .i64 t661, .int .i64 0, .int .i64 0, .string (⟨#[]⟩ : ByteArray), .bool false, .int .u64 0, .int .u64 0, .bool false, .int .u64 0, .int .u64 0, .bool false, .int .u64 0, .int .u64 0, .bool false, .slice none 0 0]) ?_ 1 _ rfl; (with_reducible repeat (first | refine blk_drewN ?_ _ | refine blk_drew ?_ | refine blk_alloc ?_ _)); refine blk_put (cs := #[.int .i64 0, .int .i64 0, .int .i64 0, .string (⟨#[]⟩ : ByteArray), .bool false, .int .u64 0, .int .u64 0, .bool false, .int .u64 0, .int .u64 0, .bool false, .int .u64 0, .int .u64 0, .bool false, .slice none 0 0]) ?_ 0 _ rfl; (with_reducible repeat (first | refine blk_drewN ?_ _ | refine blk_drew ?_ | refine blk_alloc ?_ _)); exact BK679.out) hb); have n3_ := Aside0.mk (below_step (hbx HB.out) hb); clear HO677; clear BK679; clear HB; have HO677 := n0_; have HO696 := n1_; have BK679 := n2_; have HB := n3_; clear n0_ n1_ n2_ n3_; (try clear hb); (try clear hb2); (try clear hk); (try clear hi); (try clear ho0)) | ((with_reducible refine gate_dst (N := 5) rfl ?_); refine box_event ?hg (N := 5) ?hd (cs := #[.int .i64 0, .int .i64 0, .int .i64 0, .string (⟨#[]⟩ : ByteArray), .bool false, .int .u64 0, .int .u64 0, .bool false, .int .u64 0, .int .u64 0, .bool false, .int .u64 0, .int .u64 0, .bool false, .slice none 0 0]) (t := 27) ?hr ?_; (case hd => rfl); (case hg => rfl); (case hr => first | (go_simp; done) | (go_simp; rfl)); intro gb698 hg w16 hbox hb; have n0_ := Aside0.mk (Kd.R_below (by (with_reducible repeat (first | apply Kd.R_alloc | apply Kd.R_drewN | apply Kd.R_drew)); exact HO677.out) hb); have n1_ := Aside0.mk (Kd.R_below (by (with_reducible repeat (first | apply Kd.R_alloc | apply Kd.R_drewN | apply Kd.R_drew)); exact HO696.out) hb); have n2_ := Aside0.mk (blk_below (bkx BK679.out) hb); have n3_ := Aside0.mk (below_step (hbx HB.out) hb); have n4_ := Aside0.mk (hbox); have n5_ := Aside0.mk ((by rw [hg]; exact (below_size (hbx HB.out)) : w.heap.size ≤ gb698)); have n6_ := Aside0.mk ((by rw [hg]; exact (below_size (hbx HB.out)) : w.heap.size ≤ gb698)); have n7_ := Aside0.mk ((by rw [hg]; exact Nat.ne_of_lt (blk_lt (bkx BK679.out)) : gb679 ≠ gb698)); have n8_ := Aside0.mk ((by rw [hg]; exact Nat.ne_of_gt (blk_lt (bkx BK679.out)) : gb698 ≠ gb679)); clear HO677; clear HO696; clear BK679; clear HB; have HO677 := n0_; have HO696 := n1_; have BK679 := n2_; have HB := n3_; have BK698 := n4_; have GW698 := n5_; have GE698 := n6_; have NB679_698 := n7_; have NB698_679 := n8_; clear n0_ n1_ n2_ n3_ n4_ n5_ n6_ n7_ n8_; clear hb hbox hg; have hnb17 := NB698_679.out; have hnc17 := NB679_698.out; obtain ⟨⟨hcz18_0, hcz18_1, hcz18_2, hcz18_3, hcz18_4, hcz18_5, hcz18_6, hcz18_7, hcz18_8, hcz18_9, hcz18_10, hcz18_11, hcz18_12, hcz18_13, hcz18_14⟩, hfz18_0, hfz18_1, hfz18_2, hfz18_3, hfz18_4, hfz18_5, hfz18_6, hfz18_7, hfz18_8, hfz18_9, hfz18_10, hfz18_11, hfz18_12, hfz18_13, hfz18_14⟩ := cf15 BK698.out; obtain ⟨Ao19, co19, eo19⟩ := Kd.R_slice HO696.out; subst eo19; obtain ⟨⟨hcz20_0, hcz20_1, hcz20_2, hcz20_3, hcz20_4, hcz20_5, hcz20_6, hcz20_7, hcz20_8, hcz20_9, hcz20_10, hcz20_11, hcz20_12, hcz20_13, hcz20_14⟩, hfz20_0, hfz20_1, hfz20_2, hfz20_3, hfz20_4, hfz20_5, hfz20_6, hfz20_7, hfz20_8, hfz20_9, hfz20_10, hfz20_11, hfz20_12, hfz20_13, hfz20_14⟩ := cf15 BK679.out) | ((with_reducible refine gate_callee (f := 15) rfl ?_); refine goesL_ (some 24) rfl rfl Tryd.func15 (by kernel_rfl) rfl #[.agg #[.int .i64 t661, .int .i64 t662, .int .i64 t663, .string t664, .bool t665, .int .u64 t666, .int .u64 t667, .bool t668, .int .u64 t669, .int .u64 t670, .bool t671, .int .u64 t672, .int .u64 t673, .bool t674, .slice Ao14 t675.length co14], .agg #[.int .i64 t680, .int .i64 t681, .int .i64 t682, .string t683, .bool t684, .int .u64 t685, .int .u64 t686, .bool t687, .int .u64 t688, .int .u64 t689, .bool t690, .int .u64 t691, .int .u64 t692, .bool t693, .slice Ao19 t694.length co19]] rfl (by (try simp only [List.map_toArray, List.map_cons, List.map_nil]); first | done | rfl | (simp only [List.length_drop, List.length_take]; rfl)) ?_; (with_reducible refine (ddiref36_Same.calls k t661 t662 t663 t664 t665 t666 t667 t668 t669 t670 t671 t672 t673 t674 _ _ t675 t680 t681 t682 t683 t684 t685 t686 t687 t688 t689 t690 t691 t692 t693 _ _ t694 true _ ?side1 ?side2 ?side3 ?side4 A7.out).mono ?_); (case side1 => refine (Kd.R_reads' (e := 61) (base := w.heap.size) (ok := fun k_ => (True ∧ some k_ ≠ (.slice Ao19 t694.length co19 : Value).ownBlock)) (n := t675.length) (c := co14) ?_).2.2; exact (by (with_reducible repeat (first | apply Kd.R_alloc | apply Kd.R_drewN | apply Kd.R_drew)); exact (Kd.R_mono (rf15 (g := gb698) (Kd.R_types HO677.out BK698.out (by decide)) (fun _ hk => hk.2)) (fun _ h_ => h_.1)))); (case side2 => exact (Kd.R_reads' HO677.out).2.1); (case side3 => refine (Kd.R_reads' (e := 61) (base := w.heap.size) (ok := fun k_ => (True ∧ some k_ ≠ (.slice Ao14 t675.length co14 : Value).ownBlock)) (n := t694.length) (c := co19) ?_).2.2; exact (by (with_reducible repeat (first | apply Kd.R_alloc | apply Kd.R_drewN | apply Kd.R_drew)); exact (Kd.R_mono (rf15 (g := gb698) (Kd.R_types HO696.out BK698.out (by decide)) (fun _ hk => hk.2)) (fun _ h_ => h_.1)))); (case side4 => exact (Kd.R_reads' HO696.out).2.1); rintro e w21 ⟨rfl, hb⟩; refine ⟨_, rfl, ?_⟩; have n0_ := Aside0.mk (Kd.R_below (by (with_reducible repeat (first | apply Kd.R_alloc | apply Kd.R_drewN | apply Kd.R_drew)); exact (Kd.R_mono (rf15 (g := gb698) (Kd.R_types HO677.out BK698.out (by decide)) (fun _ hk => hk.2)) (fun _ h_ => h_.1))) hb); have n1_ := Aside0.mk (Kd.R_below (by (with_reducible repeat (first | apply Kd.R_alloc | apply Kd.R_drewN | apply Kd.R_drew)); exact (Kd.R_mono (rf15 (g := gb698) (Kd.R_types HO696.out BK698.out (by decide)) (fun _ hk => hk.2)) (fun _ h_ => h_.1))) hb); have n2_ := Aside0.mk (blk_below (bkx BK679.out) hb); have n3_ := Aside0.mk (blk_below (g := gb698) (o := .cells #[.int .i64 t680, .int .i64 t681, .int .i64 t682, .string t683, .bool t684, .int .u64 t685, .int .u64 t686, .bool t687, .int .u64 t688, .int .u64 t689, .bool t690, .int .u64 t691, .int .u64 t692, .bool t693, .slice Ao19 t694.length co19] 27 (0, 0)) (by (with_reducible repeat (first | refine blk_drewN ?_ _ | refine blk_drew ?_ | refine blk_alloc ?_ _)); refine blk_put (cs := #[.int .i64 t680, .int .i64 t681, .int .i64 t682, .string t683, .bool t684, .int .u64 t685, .int .u64 t686, .bool t687, .int .u64 t688, .int .u64 t689, .bool t690, .int .u64 t691, .int .u64 t692, .bool t693, .slice none 0 0]) ?_ 14 _ rfl; (with_reducible repeat (first | refine blk_drewN ?_ _ | refine blk_drew ?_ | refine blk_alloc ?_ _)); refine blk_put (cs := #[.int .i64 t680, .int .i64 t681, .int .i64 t682, .string t683, .bool t684, .int .u64 t685, .int .u64 t686, .bool t687, .int .u64 t688, .int .u64 t689, .bool t690, .int .u64 t691, .int .u64 t692, .bool false, .slice none 0 0]) ?_ 13 _ rfl; (with_reducible repeat (first | refine blk_drewN ?_ _ | refine blk_drew ?_ | refine blk_alloc ?_ _)); refine blk_put (cs := #[.int .i64 t680, .int .i64 t681, .int .i64 t682, .string t683, .bool t684, .int .u64 t685, .int .u64 t686, .bool t687, .int .u64 t688, .int .u64 t689, .bool t690, .int .u64 t691, .int .u64 0, .bool false, .slice none 0 0]) ?_ 12 _ rfl; (with_reducible repeat (first | refine blk_drewN ?_ _ | refine blk_drew ?_ | refine blk_alloc ?_ _)); refine blk_put (cs := #[.int .i64 t680, .int .i64 t681, .int .i64 t682, .string t683, .bool t684, .int .u64 t685, .int .u64 t686, .bool t687, .int .u64 t688, .int .u64 t689, .bool t690, .int .u64 0, .int .u64 0, .bool false, .slice none 0 0]) ?_ 11 _ rfl; (with_reducible repeat (first | refine blk_drewN ?_ _ | refine blk_drew ?_ | refine blk_alloc ?_ _)); refine blk_put (cs := #[.int .i64 t680, .int .i64 t681, .int .i64 t682, .string t683, .bool t684, .int .u64 t685, .int .u64 t686, .bool t687, .int .u64 t688, .int .u64 t689, .bool false, .int .u64 0, .int .u64 0, .bool false, .slice none 0 0]) ?_ 10 _ rfl; (with_reducible repeat (first | refine blk_drewN ?_ _ | refine blk_drew ?_ | refine blk_alloc ?_ _)); refine blk_put (cs := #[.int .i64 t680, .int .i64 t681, .int .i64 t682, .string t683, .bool t684, .int .u64 t685, .int .u64 t686, .bool t687, .int .u64 t688, .int .u64 0, .bool false, .int .u64 0, .int .u64 0, .bool false, .slice none 0 0]) ?_ 9 _ rfl; (with_reducible repeat (first | refine blk_drewN ?_ _ | refine blk_drew ?_ | refine blk_alloc ?_ _)); refine blk_put (cs := #[.int .i64 t680, .int .i64 t681, .int .i64 t682, .string t683, .bool t684, .int .u64 t685, .int .u64 t686, .bool t687, .int .u64 0, .int .u64 0, .bool false, .int .u64 0, .int .u64 0, .bool false, .slice none 0 0]) ?_ 8 _ rfl; (with_reducible repeat (first | refine blk_drewN ?_ _ | refine blk_drew ?_ | refine blk_alloc ?_ _)); refine blk_put (cs := #[.int .i64 t680, .int .i64 t681, .int .i64 t682, .string t683, .bool t684, .int .u64 t685, .int .u64 t686, .bool false, .int .u64 0, .int .u64 0, .bool false, .int .u64 0, .int .u64 0, .bool false, .slice none 0 0]) ?_ 7 _ rfl; (with_reducible repeat (first | refine blk_drewN ?_ _ | refine blk_drew ?_ | refine blk_alloc ?_ _)); refine blk_put (cs := #[.int .i64 t680, .int .i64 t681, .int .i64 t682, .string t683, .bool t684, .int .u64 t685, .int .u64 0, .bool false, .int .u64 0, .int .u64 0, .bool false, .int .u64 0, .int .u64 0, .bool false, .slice none 0 0]) ?_ 6 _ rfl; (with_reducible repeat (first | refine blk_drewN ?_ _ | refine blk_drew ?_ | refine blk_alloc ?_ _)); refine blk_put (cs := #[.int .i64 t680, .int .i64 t681, .int .i64 t682, .string t683, .bool t684, .int .u64 0, .int .u64 0, .bool false, .int .u64 0, .int .u64 0, .bool false, .int .u64 0, .int .u64 0, .bool false, .slice none 0 0]) ?_ 5 _ rfl; (with_reducible repeat (first | refine blk_drewN ?_ _ | refine blk_drew ?_ | refine blk_alloc ?_ _)); refine blk_put (cs := #[.int .i64 t680, .int .i64 t681, .int .i64 t682, .string t683, .bool false, .int .u64 0, .int .u64 0, .bool false, .int .u64 0, .int .u64 0, .bool false, .int .u64 0, .int .u64 0, .bool false, .slice none 0 0]) ?_ 4 _ rfl; (with_reducible repeat (first | refine blk_drewN ?_ _ | refine blk_drew ?_ | refine blk_alloc ?_ _)); refine blk_put (cs := #[.int .i64 t680, .int .i64 t681, .int .i64 t682, .string (⟨#[]⟩ : ByteArray), .bool false, .int .u64 0, .int .u64 0, .bool false, .int .u64 0, .int .u64 0, .bool false, .int .u64 0, .int .u64 0, .bool false, .slice none 0 0]) ?_ 3 _ rfl; (with_reducible repeat (first | refine blk_drewN ?_ _ | refine blk_drew ?_ | refine blk_alloc ?_ _)); refine blk_put (cs := #[.int .i64 t680, .int .i64 t681, .int .i64 0, .string (⟨#[]⟩ : ByteArray), .bool false, .int .u64 0, .int .u64 0, .bool false, .int .u64 0, .int .u64 0, .bool false, .int .u64 0, .int .u64 0, .bool false, .slice none 0 0]) ?_ 2 _ rfl; (with_reducible repeat (first | refine blk_drewN ?_ _ | refine blk_drew ?_ | refine blk_alloc ?_ _)); refine blk_put (cs := #[.int .i64 t680, .int .i64 0, .int .i64 0, .string (⟨#[]⟩ : ByteArray), .bool false, .int .u64 0, .int .u64 0, .bool false, .int .u64 0, .int .u64 0, .bool false, .int .u64 0, .int .u64 0, .bool false, .slice none 0 0]) ?_ 1 _ rfl; (with_reducible repeat (first | refine blk_drewN ?_ _ | refine blk_drew ?_ | refine blk_alloc ?_ _)); refine blk_put (cs := #[.int .i64 0, .int .i64 0, .int .i64 0, .string (⟨#[]⟩ : ByteArray), .bool false, .int .u64 0, .int .u64 0, .bool false, .int .u64 0, .int .u64 0, .bool false, .int .u64 0, .int .u64 0, .bool false, .slice none 0 0]) ?_ 0 _ rfl; (with_reducible repeat (first | refine blk_drewN ?_ _ | refine blk_drew ?_ | refine blk_alloc ?_ _)); exact BK698.out) hb); have n4_ := Aside0.mk (below_step (hbx HB.out) hb); clear HO677; clear HO696; clear BK679; clear BK698; clear HB; have HO677 := n0_; have HO696 := n1_; have BK679 := n2_; have BK698 := n3_; have HB := n4_; clear n0_ n1_ n2_ n3_ n4_; (try clear hb); (try clear hb2); (try clear hk); (try clear hi)) | (go_at_call 18; (with_reducible refine (ddilaw36_awake.calls k  t700 _ A10.out).mono ?_); rintro e w22 ⟨rfl, hb⟩; have n0_ := Aside0.mk (Kd.R_below (by (with_reducible repeat (first | apply Kd.R_alloc | apply Kd.R_drewN | apply Kd.R_drew)); exact HO677.out) hb); have n1_ := Aside0.mk (Kd.R_below (by (with_reducible repeat (first | apply Kd.R_alloc | apply Kd.R_drewN | apply Kd.R_drew)); exact HO696.out) hb); have n2_ := Aside0.mk (blk_below (bkx BK679.out) hb); have n3_ := Aside0.mk (blk_below (bkx BK698.out) hb); have n4_ := Aside0.mk (below_step (hbx HB.out) hb); clear HO677; clear HO696; clear BK679; clear BK698; clear HB; have HO677 := n0_; have HO696 := n1_; have BK679 := n2_; have BK698 := n3_; have HB := n4_; clear n0_ n1_ n2_ n3_ n4_; (try clear hb); (try clear hb2); (try clear hk); (try clear hi)))
     go_ret
     exact ⟨by first | rfl | (simp [errW_none, errW_some] <;> rfl) | (simp only [← hji2]; first | rfl | (simp [errW_none, errW_some] <;> rfl)) | (simp [*, errW_none, errW_some] <;> rfl), hbx HB.out⟩
    ·rw [if_neg c9] at H
     exact absurd H (by simp)
   ·replace c8 := Bool.eq_false_iff.mpr c8
    subst c8
    rw [if_neg (show ¬ (false = true) by decide)] at H
    exact absurd H (by simp)
  ·rw [if_neg c4] at H
   exact absurd H (by simp)
 ·rw [if_neg c3] at H
  exact absurd H (by simp)

end Go.Proofs.YtcoekgnbncocnaaDoor.Pa

