/- Parts of the proof of this claim's statement (joined by a program of this session): Pax47, Pax40, Pax48, Pax49, Pax50, Pax51, Pax38, Pax9, Pax10, Pax37, Pax39, Pax14, Pax11, Pax15. -/
import Derived.Test.YtcoekgnbncocnaaDoorGr1
namespace Go.Proofs.YtcoekgnbncocnaaDoor.Pa
open Go.RowKit Go.Proofs.YtcoekgnbncocnaaDoorW.PrintWords Go.Proofs.YtcoekgnbncocnaaDoorW.PrintLast Go.Proofs.YtcoekgnbncocnaaDoorW.PrintMore
attribute [local go_sem] max2_int min2_int max_two min_two max_three min_three max_four min_four   -- for this text's walks alone
set_option linter.unusedVariables false
set_option linter.unusedSimpArgs false

mutual
def ddiref35_Put.l0 : Nat → List (S61) → Int → ByteArray → List (S61) → Int → Option ((List (S61)))
 | 0, _, _, _, _, _ => none
 | k + 1, x0, x1, x2, x7, x8 => if x8 < (x0.length : Int) then (if 0 ≤ x8 then (if x7.length < 5864062014805 then (ddiref35_Put.l0 k x0 x1 x2 (x7 ++ [(⟨(rd_T61 x0 x8).f0, (rd_T61 x0 x8).f1⟩ : S61)]) (wrap64 (x8 + 1))) else (none)) else (none)) else (if x1 < 1 then (ddiref35_Put.j1 k x1 x2 x7 true) else (ddiref35_Put.j1 k x1 x2 x7 (decide (x1 > 254))))
def ddiref35_Put.j1 : Nat → Int → ByteArray → List (S61) → Bool → Option ((List (S61)))
 | 0, _, _, _, _ => none
 | k + 1, x1, x2, x7, x28 => if x28 = true then (some x7) else ((ddiref35_index.f k x7 x1).bind fun t684 => (if t684 ≥ 0 then (if 0 ≤ t684 then (if t684 < (x7.length : Int) then (some (x7.set (t684 : Int).toNat (⟨(rd_T61 x7 t684).f0, x2⟩ : S61))) else (none)) else (none)) else (if x7.length < 5864062014805 then (some (x7 ++ [(⟨x1, x2⟩ : S61)])) else (none))))
end
def ddiref35_Put.f (k : Nat) (l0 : List (S61)) (a1 : Int) (a2 : ByteArray) : Option ((List (S61))) := ddiref35_Put.l0 k l0 a1 a2 ([] : List (S61)) 0
set_option maxHeartbeats 8000000 in
set_option maxRecDepth 100000 in
theorem ddiref35_Put.calls (k : Nat) (A0 : Option Addr) (c0 : Nat) (l0 : List (S61)) (a1 : Int) (a2 : ByteArray) (r : List (S61)) (w : World) (hr0 : Kd.C k61 w A0 l0.length l0) (hc0 : l0.length ≤ c0) (h : ddiref35_Put.f k l0 a1 a2 = some r) :
  Calls Tryd.prog 56 #[.slice A0 l0.length c0, .int .i64 a1, .string a2] w fun e w' => ∃ v0_ : Value, e = .returned (v0_) ∧ Kd.R k61 61 w' w.heap.size (fun _ => True) v0_ r ∧ Below w.heap.size w w' := by
 have hu61 := Tryd.underlying61
 have HR0 := Aside0.mk hr0
 have HC0 := Aside0.mk hc0
 clear hr0 hc0
 have HB := Aside0.mk (Below.refl w.heap.size w)
 have H : (ddiref35_Put.l0 k l0 a1 a2 ([] : List (S61)) 0) = some r := h
 clear h
 have H' := Aside0.mk H
 clear H
 go_enter Tryd.func56, Tryd.ntmps56
 go_wp2
 go_loopg [7, 8] k (fun kq v7 v8 w' => ∃ (x7_1 : List (S61)) (x8_1 : Int), v8 = .int .i64 x8_1 ∧ Aside0 (ddiref35_Put.l0 kq l0 a1 a2 x7_1 x8_1 = some r) ∧ Aside0 (kq ≤ k) ∧ Aside0 (Kd.R k61 61 w' w.heap.size (fun _ => True) v7 x7_1) ∧ Aside0 (Below w.heap.size w w'))
 case atStart => exact ⟨(([] : List (S61))), (0), (by first | rfl | (simp; done) | (simp [*]; done)), H', ⟨Nat.le_refl _⟩, ⟨by first | exact Kd.R_nil _ _ _ _ _ | exact Kd.N_nil _ _ _ _ _ | exact Kd.V_nil _ _ _ _ _ | exact Kd.Q_nil _ _ _ _ _ | exact Kd.S_nil _ _ _ _ _⟩, ⟨hbx HB.out⟩⟩
 case round =>
  clear H'
  try clear p2
  obtain ⟨x7_1, x8_1, rfl, HA, HK1, HO_7, HB⟩ := hrel
  cases gk with
  | zero => exact absurd HA.out (by simp [ddiref35_Put.l0])
  | succ k1 =>
   have H := HA.out
   clear HA
   simp only [ddiref35_Put.l0] at H
   by_cases c4 : x8_1 < (l0.length : Int)
   ·rw [if_pos c4] at H
    have c4b0 : decide (x8_1 < (l0.length : Int)) = true := decide_eq_true c4
    clear c4
    by_cases c5 : 0 ≤ x8_1
    ·rw [if_pos c5] at H
     have c5b0 : decide (0 ≤ x8_1) = true := decide_eq_true c5
     clear c5
     by_cases c6 : x7_1.length < 5864062014805
     ·rw [if_pos c6] at H
      have LMc6 := Aside0.mk c6
      clear c6
      obtain ⟨y681, hy681⟩ : ∃ y_ : List (S61), y_ = (x7_1 ++ [(⟨(rd_T61 l0 x8_1).f0, (rd_T61 l0 x8_1).f1⟩ : S61)]) := ⟨_, rfl⟩
      replace H : (ddiref35_Put.l0 k1 l0 a1 a2 y681 (wrap64 (x8_1 + 1))) = some r := by first | (rw [hy681]; with_reducible exact H) | (have H2_ := (Option.bind_some _ _).symm.trans H; rw [hy681]; with_reducible exact H2_) | (have H2_ := (Option.bind_some _ _).symm.trans H; with_reducible exact H2_) | with_reducible exact H | (rw [hy681]; exact H) | exact H
      have Ny681 := Aside0.mk hy681
      clear hy681
      have H' := Aside0.mk H
      clear H
      have p680 : 0 ≤ (x8_1 : Int) := of_decide_eq_true (by first | (with_reducible assumption) | assumption)
      have q680 : x8_1 < (l0.length : Int) := of_decide_eq_true (by first | (with_reducible assumption) | assumption)
      obtain ⟨ad680, e680, hx680_0, hx680_1⟩ := at_T61 HR0.out x8_1 p680 q680
      cases e680
      replace hx680_0 := (HB.out.cell (World.block_lt_of_cell? w _ hx680_0)).trans hx680_0
      replace hx680_1 := (HB.out.cell (World.block_lt_of_cell? w _ hx680_1)).trans hx680_1
      replace p680 := eq_true p680
      replace q680 := eq_true q680
      go_wp2_with (first | ((with_reducible refine gate_builtin (b := .append) (xs := #[.tmp 16, .tmp 21]) rfl ?_); at_builtin; refine Kd.R_append k61 (w0 := w) w.heap.size rfl (.tmp 16) (.tmp 21) 25 61 (.agg #[(.int .i64 0), (.string ⟨#[]⟩)]) 24 rfl Tryd.underlying25 info61 rfl (by decide) (by omega) u7 x7_1 (⟨(rd_T61 l0 x8_1).f0, (rd_T61 l0 x8_1).f1⟩ : S61) [.int .i64 ((rd_T61 l0 x8_1).f0), .string ((rd_T61 l0 x8_1).f1)] (fun _ => True) (fun _ => False) rfl rfl ?aP (fun _ hk => hk.elim) ?aF ?aO ?aB ?aS ?aL ?_; (case aP => exact k61_mkM _ _ _ (⟨(rd_T61 l0 x8_1).f0, (rd_T61 l0 x8_1).f1⟩ : S61)); (case aB => exact (hbx HB.out)); (case aF => exact (fun _ _ => trivial)); (case aO => exact (by (with_reducible repeat (first | apply Kd.R_alloc | apply Kd.R_drewN | apply Kd.R_drew)); exact HO_7.out)); (case aS => exact (below_size (hbx HB.out))); (case aL => have := LMc6.out; omega); intro v682 w7 ho hb hg hat; rw [← Ny681.out] at ho; have n0_ := Aside0.mk (hb); have n1_ := Aside0.mk (ho); clear HB; clear HO_7; have HB := n0_; have HO683 := n1_; clear n0_ n1_; clear ho hb hg hat))
      go_roundg k1
      case measure => have := HK1.out; omega
      case rel => exact ⟨(y681), (wrap64 (x8_1 + 1)), (by first | rfl | (simp; done) | (simp [*]; done)), H', ⟨by have := HK1.out; omega⟩, ⟨by (with_reducible repeat (first | apply Kd.R_alloc | apply Kd.R_drewN | apply Kd.R_drew)); exact HO683.out⟩, ⟨hbx HB.out⟩⟩
     ·rw [if_neg c6] at H
      exact absurd H (by simp)
    ·rw [if_neg c5] at H
     exact absurd H (by simp)
   ·rw [if_neg c4] at H
    have c4b0 : decide (x8_1 < (l0.length : Int)) = false := decide_eq_false c4
    clear c4
    have HC8 := Aside0.mk H
    clear H
    go_upto_region 6 with (fail)
    go_cut [28] (fun v28 wc => ∃ (kq : Nat) (x28_7 : Bool), v28 = .bool x28_7 ∧ Aside0 (ddiref35_Put.j1 kq a1 a2 x7_1 x28_7 = some r) ∧ Aside0 (kq ≤ k1) ∧ Aside0 (Kd.R k61 61 wc w.heap.size (fun _ => True) u7 x7_1) ∧ Aside0 (Below w.heap.size w wc))
    case first =>
     have H := HC8.out
     clear HC8
     by_cases c9 : a1 < 1
     ·rw [if_pos c9] at H
      have c9b0 : decide (a1 < 1) = true := decide_eq_true c9
      clear c9
      (first | rw [c9b0] | (simp only [i64_w, i32_w]; rw [c9b0]) | skip)
      have H' := Aside0.mk H
      clear H
      go_wp2
      go_meet
      case rel => exact ⟨_, (true), (by first | rfl | (simp; done) | (simp [*]; done)), H', ⟨by have := HK1.out; first | omega | exact Nat.le_refl _⟩, ⟨by (with_reducible repeat (first | apply Kd.R_alloc | apply Kd.R_drewN | apply Kd.R_drew)); exact HO_7.out⟩, ⟨hbx HB.out⟩⟩
     ·rw [if_neg c9] at H
      have c9b0 : decide (a1 < 1) = false := decide_eq_false c9
      clear c9
      (first | rw [c9b0] | (simp only [i64_w, i32_w]; rw [c9b0]) | skip)
      have H' := Aside0.mk H
      clear H
      go_wp2
      go_meet
      case rel => exact ⟨_, (decide (a1 > 254)), (by first | rfl | (simp; done) | (simp [*]; done)), H', ⟨by have := HK1.out; first | omega | exact Nat.le_refl _⟩, ⟨by (with_reducible repeat (first | apply Kd.R_alloc | apply Kd.R_drewN | apply Kd.R_drew)); exact HO_7.out⟩, ⟨hbx HB.out⟩⟩
    case rest =>
     clear HC8
     try clear p2
     try clear c4
     try clear c4b0
     try clear c5
     try clear c5b0
     try clear c6
     try clear p6
     try clear q6
     try clear hx6
     try clear c9
     try clear c9b0
     try clear hx680_0
     try clear hx680_1
     try clear p2
     try clear p680
     try clear q680
     obtain ⟨kq, x28_7, rfl, HA, HJ7, HO_7, HB⟩ := hcut
     cases kq with
     | zero => exact absurd HA.out (by simp [ddiref35_Put.j1])
     | succ kj7 =>
      have H := HA.out
      clear HA
      simp only [ddiref35_Put.j1] at H
      by_cases c10 : x28_7 = true
      ·subst c10
       rw [if_pos rfl] at H
       obtain rfl := Option.some.inj H
       go_wp2
       go_ret
       exact ⟨_, by first | rfl | (simp [errW_none, errW_some] <;> rfl) | (simp [*, errW_none, errW_some] <;> rfl), by (with_reducible repeat (first | apply Kd.R_alloc | apply Kd.R_drewN | apply Kd.R_drew)); exact HO_7.out, hbx HB.out⟩
      ·replace c10 := Bool.eq_false_iff.mpr c10
       subst c10
       rw [if_neg (show ¬ (false = true) by decide)] at H
       replace H := Option.bind_eq_some_iff.mp H
       obtain ⟨t684, A110, H⟩ := H
       (try dsimp only at H)
       have A11 := Aside0.mk A110
       clear A110
       by_cases c12 : t684 ≥ 0
       ·rw [if_pos c12] at H
        have c12b0 : decide (0 ≤ t684) = true := decide_eq_true c12
        clear c12
        by_cases c13 : 0 ≤ t684
        ·rw [if_pos c13] at H
         have c13b0 : decide (0 ≤ t684) = true := decide_eq_true c13
         clear c13
         by_cases c14 : t684 < (x7_1.length : Int)
         ·rw [if_pos c14] at H
          have c14b0 : decide (t684 < (x7_1.length : Int)) = true := decide_eq_true c14
          clear c14
          obtain ⟨y685, hy685⟩ : ∃ y_ : List (S61), y_ = (x7_1.set (t684 : Int).toNat (⟨(rd_T61 x7_1 t684).f0, a2⟩ : S61)) := ⟨_, rfl⟩
          replace H : (some y685) = some r := by first | (rw [hy685]; with_reducible exact H) | (have H2_ := (Option.bind_some _ _).symm.trans H; rw [hy685]; with_reducible exact H2_) | (have H2_ := (Option.bind_some _ _).symm.trans H; with_reducible exact H2_) | with_reducible exact H | (rw [hy685]; exact H) | exact H
          have Ny685 := Aside0.mk hy685
          clear hy685
          obtain rfl := Option.some.inj H
          obtain ⟨Ao16, co16, eo16⟩ := Kd.R_slice HO_7.out
          subst eo16
          go_wp2_with (first | ((with_reducible refine gate_callee (f := 63) rfl ?_); refine goesL_ (some 32) rfl rfl Tryd.func63 (by kernel_rfl) rfl #[.slice Ao16 x7_1.length co16, .int .i64 a1] rfl (by (try simp only [List.map_toArray, List.map_cons, List.map_nil]); first | done | rfl | (simp only [List.length_drop, List.length_take]; rfl)) ?_; (with_reducible refine (ddiref35_index.calls kj7 _ _ x7_1 a1 t684 _ ?side1 ?side2 A11.out).mono ?_); (case side1 => repeat (first | exact (Kd.R_reads' HO_7.out).2.2 | (with_reducible refine Kd.C_alloc ?_ _) | (with_reducible refine Kd.C_drewN ?_ _) | (with_reducible refine Kd.C_drew ?_))); (case side2 => exact (Kd.R_reads' HO_7.out).2.1); rintro e w' ⟨rfl, ⟨nd, rfl⟩⟩; refine ⟨_, rfl, ?_⟩; (try (rw [drewN_self wc]; generalize hq_ : World.drewN wc _ = wc; have n0_ : Aside0 (Kd.R k61 61 wc w.heap.size (fun _ => True) (.slice Ao16 x7_1.length co16) x7_1) := ⟨by rw [← hq_]; exact (by (with_reducible repeat (first | apply Kd.R_alloc | apply Kd.R_drewN | apply Kd.R_drew)); exact HO_7.out)⟩; have n1_ : Aside0 (Below w.heap.size w wc) := ⟨by rw [← hq_]; exact (hbx HB.out)⟩; clear HO_7 HB hq_; have HO_7 := n0_; have HB := n1_; clear n0_ n1_)); have p15 : 0 ≤ (t684 : Int) := of_decide_eq_true (by first | (with_reducible assumption) | assumption); have q15 : (t684 : Int) < ((x7_1.length : Int) : Int) := of_decide_eq_true (by first | (with_reducible assumption) | assumption); obtain ⟨go15, co15, eo15, gb15, gl15, cl15, HG15⟩ := Kd.R_form HO_7.out (by omega); (first | cases eo15 | (injection eo15 with ea_ en_ ec_; (first | subst ea_ | (injection ea_ with ea_; subst ea_)); subst ec_; clear en_)); have GB15 := Aside0.mk gb15; have GG15 := Aside0.mk HG15; clear gb15 gl15 HG15; obtain ⟨ce15, hcl15, hM15, hcc15, hfr15⟩ := Kd.R_elem HO_7.out z61 (t684 : Int) p15 q15; obtain rfl := k61_openM hM15; have hx15_0 : wc.cell? ⟨go15, (t684 : Int).toNat * 2, none⟩ = some (.int .i64 ((rd_T61 x7_1 t684).f0)) := hcc15 0 _ rfl; have hx15_1 : wc.cell? ⟨go15, (t684 : Int).toNat * 2 + 1, none⟩ = some (.string ((rd_T61 x7_1 t684).f1)) := hcc15 1 _ rfl; have hf15_0 : wc.frozen? ⟨go15, (t684 : Int).toNat * 2, none⟩ = false := hfr15 0; have hf15_1 : wc.frozen? ⟨go15, (t684 : Int).toNat * 2 + 1, none⟩ = false := hfr15 1; clear hcl15 hcc15 hfr15 hM15; replace p15 := eq_true p15; replace q15 := eq_true q15; have HX17 := Aside0.mk (show Kd.R k61 61 wc w.heap.size (fun _ => True) (.slice (some ⟨go15, 0, none⟩) x7_1.length co16) x7_1 from (by (with_reducible repeat (first | apply Kd.R_alloc | apply Kd.R_drewN | apply Kd.R_drew)); exact HO_7.out)); obtain ⟨ce17, hcl17, hM17, hcc17, hfr17⟩ := Kd.R_elem HX17.out z61 (t684 : Int) (of_decide_eq_true (by first | (with_reducible assumption) | assumption)) (by have h_ : (t684 : Int) < ((x7_1.length : Int) : Int) := of_decide_eq_true (by first | (with_reducible assumption) | assumption); first | exact h_ | (have e_ := (Kd.R_reads' HO_7.out).1; omega) | simpa using h_); obtain rfl := k61_openM hM17; have HP17 := Kd.R_seg HX17.out (t684 : Int) (of_decide_eq_true (by first | (with_reducible assumption) | assumption)) (by have h_ : (t684 : Int) < ((x7_1.length : Int) : Int) := of_decide_eq_true (by first | (with_reducible assumption) | assumption); first | exact h_ | (have e_ := (Kd.R_reads' HO_7.out).1; omega) | simpa using h_) (seg := [.string a2]) (j := 1) hcl17 hcc17 (show 2 ≤ 2 from by decide) (x' := (⟨(rd_T61 x7_1 t684).f0, a2⟩ : S61)) (k61_mkM _ _ _ (⟨(rd_T61 x7_1 t684).f0, a2⟩ : S61) ) (fun _ hk => hk); have hx17_1 := hcc17 1 _ rfl; (try simp only [show (k61).sz = 2 from rfl, Nat.mul_one, Nat.add_zero] at hx17_1); have hf17_1 := hfr17 1; (try simp only [show (k61).sz = 2 from rfl, Nat.mul_one, Nat.add_zero] at hf17_1); clear hcl17 hcc17 hfr17 hM17) | ((with_reducible refine gate_store (t := 9) (p := 39) rfl ?_); refine store_event (t := 9) (p := 39) (v := ?vo_w18) (w1 := (wc.setCell ⟨go15, (t684 : Int).toNat * 2 + 1, none⟩ (.string a2))) ?hg ?ho ?hn ?hr ?_; (case ho => rfl); (case hg => rfl); (case hn => rfl); (case hr => first | (go_simp; done) | (go_simp; rfl)); intro w18 hw; have hg : wc.grownBy w18 (some go15) := (by rw [hw]; exact HP17.2); have hp_ : Kd.R k61 61 w18 w.heap.size (fun _ => True) (.slice (some ⟨go15, 0, none⟩) x7_1.length co16) y685 := (by rw [hw, Ny685.out]; exact HP17.1); clear HP17; have n0_ := Aside0.mk (hp_); have n1_ := Aside0.mk ((by rw [hw]; exact below_set (HB.out) GB15.out : Below w.heap.size w w18)); clear HO_7; clear HB; have HO_7 := n0_; have HB := n1_; clear n0_ n1_; clear hg hw hp_))
          go_ret
          exact ⟨_, by first | rfl | (simp [errW_none, errW_some] <;> rfl) | (simp [*, errW_none, errW_some] <;> rfl), by (with_reducible repeat (first | apply Kd.R_alloc | apply Kd.R_drewN | apply Kd.R_drew)); exact HO_7.out, hbx HB.out⟩
         ·rw [if_neg c14] at H
          exact absurd H (by simp)
        ·rw [if_neg c13] at H
         exact absurd H (by simp)
       ·rw [if_neg c12] at H
        have c12b0 : decide (0 ≤ t684) = false := decide_eq_false c12
        clear c12
        by_cases c19 : x7_1.length < 5864062014805
        ·rw [if_pos c19] at H
         have LMc19 := Aside0.mk c19
         clear c19
         obtain ⟨y686, hy686⟩ : ∃ y_ : List (S61), y_ = (x7_1 ++ [(⟨a1, a2⟩ : S61)]) := ⟨_, rfl⟩
         replace H : (some y686) = some r := by first | (rw [hy686]; with_reducible exact H) | (have H2_ := (Option.bind_some _ _).symm.trans H; rw [hy686]; with_reducible exact H2_) | (have H2_ := (Option.bind_some _ _).symm.trans H; with_reducible exact H2_) | with_reducible exact H | (rw [hy686]; exact H) | exact H
         have Ny686 := Aside0.mk hy686
         clear hy686
         obtain rfl := Option.some.inj H
         obtain ⟨Ao20, co20, eo20⟩ := Kd.R_slice HO_7.out
         subst eo20
         go_wp2_with (first | ((with_reducible refine gate_callee (f := 63) rfl ?_); refine goesL_ (some 32) rfl rfl Tryd.func63 (by kernel_rfl) rfl #[.slice Ao20 x7_1.length co20, .int .i64 a1] rfl (by (try simp only [List.map_toArray, List.map_cons, List.map_nil]); first | done | rfl | (simp only [List.length_drop, List.length_take]; rfl)) ?_; (with_reducible refine (ddiref35_index.calls kj7 _ _ x7_1 a1 t684 _ ?side1 ?side2 A11.out).mono ?_); (case side1 => repeat (first | exact (Kd.R_reads' HO_7.out).2.2 | (with_reducible refine Kd.C_alloc ?_ _) | (with_reducible refine Kd.C_drewN ?_ _) | (with_reducible refine Kd.C_drew ?_))); (case side2 => exact (Kd.R_reads' HO_7.out).2.1); rintro e w' ⟨rfl, ⟨nd, rfl⟩⟩; refine ⟨_, rfl, ?_⟩) | ((with_reducible refine gate_builtin (b := .append) (xs := #[.tmp 41, .tmp 45]) rfl ?_); at_builtin; refine Kd.R_append k61 (w0 := w) w.heap.size rfl (.tmp 41) (.tmp 45) 25 61 (.agg #[(.int .i64 0), (.string ⟨#[]⟩)]) 24 rfl Tryd.underlying25 info61 rfl (by decide) (by omega) (.slice Ao20 x7_1.length co20) x7_1 (⟨a1, a2⟩ : S61) [.int .i64 a1, .string a2] (fun _ => True) (fun _ => False) rfl rfl ?aP (fun _ hk => hk.elim) ?aF ?aO ?aB ?aS ?aL ?_; (case aP => exact k61_mkM _ _ _ (⟨a1, a2⟩ : S61)); (case aB => exact (hbx HB.out)); (case aF => exact (fun _ _ => trivial)); (case aO => exact (by (with_reducible repeat (first | apply Kd.R_alloc | apply Kd.R_drewN | apply Kd.R_drew)); exact HO_7.out)); (case aS => exact (below_size (hbx HB.out))); (case aL => have := LMc19.out; omega); intro v687 w21 ho hb hg hat; rw [← Ny686.out] at ho; have n0_ := Aside0.mk (hb); have n1_ := Aside0.mk (ho); clear HB; clear HO_7; have HB := n0_; have HO688 := n1_; clear n0_ n1_; clear ho hb hg hat))
         go_ret
         exact ⟨_, by first | rfl | (simp [errW_none, errW_some] <;> rfl) | (simp [*, errW_none, errW_some] <;> rfl), by (with_reducible repeat (first | apply Kd.R_alloc | apply Kd.R_drewN | apply Kd.R_drew)); exact HO688.out, hbx HB.out⟩
        ·rw [if_neg c19] at H
         exact absurd H (by simp)

end Go.Proofs.YtcoekgnbncocnaaDoor.Pa


namespace Go.Proofs.YtcoekgnbncocnaaDoor.Pa
open Go.RowKit Go.Proofs.YtcoekgnbncocnaaDoorW.PrintWords Go.Proofs.YtcoekgnbncocnaaDoorW.PrintLast Go.Proofs.YtcoekgnbncocnaaDoorW.PrintMore
attribute [local go_sem] max2_int min2_int max_two min_two max_three min_three max_four min_four   -- for this text's walks alone
set_option linter.unusedVariables false
set_option linter.unusedSimpArgs false

def ddiref36_bytes.l0 : Nat → Int → Int → ByteArray → Int → Option (ByteArray)
 | 0, _, _, _, _ => none
 | k + 1, x0, x1, x5, x6 => if x6 < x1 then ((some (([(Int.tmod x0 256) % 256] : List Int) : List Int)).bind fun y578 => (if (strOfNums y578).size + x5.size ≤ 9223372036854775807 then (ddiref36_bytes.l0 k (wrap64 (Int.tdiv x0 256)) x1 ((strOfNums y578) ++ x5) (wrap64 (x6 + 1))) else (none))) else (some x5)
def ddiref36_bytes.f (k : Nat) (a0 : Int) (a1 : Int) : Option (ByteArray) := ddiref36_bytes.l0 k a0 a1 (⟨#[]⟩ : ByteArray) 0
theorem ddiref36_bytes.mono_l : ∀ k, (∀ y0 y1 y2 y3, LeO (ddiref36_bytes.l0 k y0 y1 y2 y3) (ddiref36_bytes.l0 (k + 1) y0 y1 y2 y3))
 | 0 => fun _ _ _ _ r h => by simp [ddiref36_bytes.l0] at h
 | k + 1 => by
  have ih0 := ddiref36_bytes.mono_l k
  ·intro y0 y1 y2 y3
   unfold ddiref36_bytes.l0
   repeat' first
   | (with_reducible exact ih0 _ _ _ _)
   | (with_reducible exact LeO.refl _)
   | (with_reducible exact LeO.none _)
   | (with_reducible refine LeO.ite ?_ ?_)
   | (with_reducible refine LeO.bind ?_ (fun _ => ?_))
   | exact ih0 _ _ _ _
   | exact LeO.none _
   | refine LeO.ite ?_ ?_
   | refine LeO.bind ?_ (fun _ => ?_)
theorem ddiref36_bytes.mono : ∀ a0 a1 k, LeO (ddiref36_bytes.f k a0 a1) (ddiref36_bytes.f (k + 1) a0 a1) := by
 intro a0 a1 k
 have ih0 := ddiref36_bytes.mono_l k
 unfold ddiref36_bytes.f
 repeat' first
   | (with_reducible exact ih0 _ _ _ _)
   | (with_reducible exact LeO.refl _)
   | (with_reducible exact LeO.none _)
   | (with_reducible refine LeO.ite ?_ ?_)
   | (with_reducible refine LeO.bind ?_ (fun _ => ?_))
   | exact ih0 _ _ _ _
   | exact LeO.none _
   | refine LeO.ite ?_ ?_
   | refine LeO.bind ?_ (fun _ => ?_)
set_option maxHeartbeats 8000000 in
set_option maxRecDepth 100000 in
theorem ddiref36_bytes.calls (k : Nat) (a0 : Int) (a1 : Int) (r : ByteArray) (w : World) (h : ddiref36_bytes.f k a0 a1 = some r) :
  Calls Tryd.prog 43 #[.int .i64 a0, .int .i64 a1] w fun e w' => e = .returned (.string r) ∧ Below w.heap.size w w' := by
 have HB := Aside0.mk (Below.refl w.heap.size w)
 have H : (ddiref36_bytes.l0 k a0 a1 (⟨#[]⟩ : ByteArray) 0) = some r := h
 clear h
 have H' := Aside0.mk H
 clear H
 go_enter Tryd.func43, Tryd.ntmps43
 go_wp2
 go_loopg [0, 5, 6] k (fun kq v0 v5 v6 w' => ∃ (x0_1 : Int) (x5_1 : ByteArray) (x6_1 : Int), v0 = .int .i64 x0_1 ∧ v5 = .string x5_1 ∧ v6 = .int .i64 x6_1 ∧ Aside0 (ddiref36_bytes.l0 kq x0_1 a1 x5_1 x6_1 = some r) ∧ Aside0 (kq ≤ k) ∧ Aside0 (Below w.heap.size w w'))
 case atStart => exact ⟨(a0), ((⟨#[]⟩ : ByteArray)), (0), (by first | rfl | (simp; done) | (simp [*]; done)), (by first | rfl | (simp; done) | (simp [*]; done)), (by first | rfl | (simp; done) | (simp [*]; done)), H', ⟨Nat.le_refl _⟩, ⟨hbx HB.out⟩⟩
 case round =>
  clear H'
  try clear p2
  obtain ⟨x0_1, x5_1, x6_1, rfl, rfl, rfl, HA, HK1, HB⟩ := hrel
  cases gk with
  | zero => exact absurd HA.out (by simp [ddiref36_bytes.l0])
  | succ k1 =>
   have H := HA.out
   clear HA
   simp only [ddiref36_bytes.l0] at H
   by_cases c3 : x6_1 < a1
   ·rw [if_pos c3] at H
    have c3b0 : decide (x6_1 < a1) = true := decide_eq_true c3
    clear c3
    obtain ⟨y578, hy578⟩ : ∃ y_ : List Int, y_ = (([(Int.tmod x0_1 256) % 256] : List Int)) := ⟨_, rfl⟩
    replace H : (if (strOfNums y578).size + x5_1.size ≤ 9223372036854775807 then (ddiref36_bytes.l0 k1 (wrap64 (Int.tdiv x0_1 256)) a1 ((strOfNums y578) ++ x5_1) (wrap64 (x6_1 + 1))) else (none)) = some r := by first | (rw [hy578]; with_reducible exact H) | (have H2_ := (Option.bind_some _ _).symm.trans H; rw [hy578]; with_reducible exact H2_) | (have H2_ := (Option.bind_some _ _).symm.trans H; with_reducible exact H2_) | with_reducible exact H | (rw [hy578]; exact H) | exact H
    have Ny578 := Aside0.mk hy578
    clear hy578
    by_cases c4 : (strOfNums y578).size + x5_1.size ≤ 9223372036854775807
    ·rw [if_pos c4] at H
     have c4b0 := eq_true c4
     have c4b1 : decide ((strOfNums y578).size + x5_1.size ≤ 9223372036854775807) = true := decide_eq_true c4
     try have c4b2 : (9223372036854775807 < (strOfNums y578).size + x5_1.size) = False := eq_false (Nat.not_lt.2 c4)
     have H' := Aside0.mk H
     clear H
     go_wp2_with (first | ((with_reducible refine gate_dst (N := 15) rfl ?_); refine Kd.R_lit (Kd.int .u8) _ 5 ?hg (N := 15) ?hd (xs := ([(Int.tmod x0_1 256) % 256] : List Int)) (inner := [.int .u8 ((Int.tmod x0_1 256) % 256)]) (ok := fun _ => True) (okp := fun _ => True) ?hr ?hp (fun _ hk => hk) trivial (Below.refl _ _) (Nat.le_refl _) (by simp) ?_; (case hd => rfl); (case hg => rfl); (case hr => first | (go_simp; done) | (go_simp; rfl)); (case hp => exact (Reps.one (show Kd.M (Kd.int .u8) _ _ _ ((Int.tmod x0_1 256) % 256) [.int .u8 ((Int.tmod x0_1 256) % 256)] from rfl) (Reps.none _ _))); intro v579 w5 ho6 hb hg_ hnew_; clear hg_ hnew_; (first | rw [← Ny578.out] at ho6 | (simp only [Int.reduceToNat] at ho6; rw [← Ny578.out] at ho6)); have n0_ := Aside0.mk (Kd.R_lower ho6 (below_size (hbx HB.out))); have n1_ := Aside0.mk (below_step (hbx HB.out) hb); clear HB; have HO580 := n0_; have HB := n1_; clear n0_ n1_; clear hb ho6; have hcv7 := own_string (P := Tryd.prog) Tryd.underlying73 Tryd.underlying5 Tryd.underlying9 (Kd.own_of_R HO580.out)))
     go_roundg k1
     case measure => have := HK1.out; omega
     case rel => exact ⟨(wrap64 (Int.tdiv x0_1 256)), ((strOfNums y578) ++ x5_1), (wrap64 (x6_1 + 1)), (by first | rfl | (simp; done) | (simp [*]; done)), (by first | rfl | (simp; done) | (simp [*]; done)), (by first | rfl | (simp; done) | (simp [*]; done)), H', ⟨by have := HK1.out; omega⟩, ⟨hbx HB.out⟩⟩
    ·rw [if_neg c4] at H
     exact absurd H (by simp)
   ·rw [if_neg c3] at H
    have c3b0 : decide (x6_1 < a1) = false := decide_eq_false c3
    clear c3
    obtain rfl := Option.some.inj H
    go_wp2
    go_ret
    exact ⟨by first | rfl | (simp [errW_none, errW_some] <;> rfl) | (simp [*, errW_none, errW_some] <;> rfl), hbx HB.out⟩

end Go.Proofs.YtcoekgnbncocnaaDoor.Pa


namespace Go.Proofs.YtcoekgnbncocnaaDoor.Pa
open Go.RowKit Go.Proofs.YtcoekgnbncocnaaDoorW.PrintWords Go.Proofs.YtcoekgnbncocnaaDoorW.PrintLast Go.Proofs.YtcoekgnbncocnaaDoorW.PrintMore
attribute [local go_sem] max2_int min2_int max_two min_two max_three min_three max_four min_four   -- for this text's walks alone
set_option linter.unusedVariables false
set_option linter.unusedSimpArgs false

def ddiref36_mask.l0 : Nat → Int → Int → Int → Option (ByteArray)
 | 0, _, _, _ => none
 | k + 1, x0, x3, x4 => if x4 < 32 then (if x4 < x0 then (ddiref36_mask.l0 k x0 (wrap64 ((wrap64 (2 * x3)) + 1)) (wrap64 (x4 + 1))) else (ddiref36_mask.l0 k x0 (wrap64 (2 * x3)) (wrap64 (x4 + 1)))) else ((ddiref36_bytes.f k x3 4).bind fun t689 => (some t689))
def ddiref36_mask.f (k : Nat) (a0 : Int) : Option (ByteArray) := ddiref36_mask.l0 k a0 0 0
theorem ddiref36_mask.mono_l : ∀ k, (∀ y0 y1 y2, LeO (ddiref36_mask.l0 k y0 y1 y2) (ddiref36_mask.l0 (k + 1) y0 y1 y2))
 | 0 => fun _ _ _ r h => by simp [ddiref36_mask.l0] at h
 | k + 1 => by
  have ih0 := ddiref36_mask.mono_l k
  ·intro y0 y1 y2
   unfold ddiref36_mask.l0
   repeat' first
   | (with_reducible exact ih0 _ _ _)
   | (with_reducible exact ddiref36_bytes.mono _ _ _)
   | (with_reducible exact LeO.refl _)
   | (with_reducible exact LeO.none _)
   | (with_reducible refine LeO.ite ?_ ?_)
   | (with_reducible refine LeO.bind ?_ (fun _ => ?_))
   | exact ih0 _ _ _
   | exact ddiref36_bytes.mono _ _ _
   | exact LeO.none _
   | refine LeO.ite ?_ ?_
   | refine LeO.bind ?_ (fun _ => ?_)
theorem ddiref36_mask.mono : ∀ a0 k, LeO (ddiref36_mask.f k a0) (ddiref36_mask.f (k + 1) a0) := by
 intro a0 k
 have ih0 := ddiref36_mask.mono_l k
 unfold ddiref36_mask.f
 repeat' first
   | (with_reducible exact ih0 _ _ _)
   | (with_reducible exact ddiref36_bytes.mono _ _ _)
   | (with_reducible exact LeO.refl _)
   | (with_reducible exact LeO.none _)
   | (with_reducible refine LeO.ite ?_ ?_)
   | (with_reducible refine LeO.bind ?_ (fun _ => ?_))
   | exact ih0 _ _ _
   | exact ddiref36_bytes.mono _ _ _
   | exact LeO.none _
   | refine LeO.ite ?_ ?_
   | refine LeO.bind ?_ (fun _ => ?_)
set_option maxHeartbeats 8000000 in
set_option maxRecDepth 100000 in
theorem ddiref36_mask.calls (k : Nat) (a0 : Int) (r : ByteArray) (w : World) (h : ddiref36_mask.f k a0 = some r) :
  Calls Tryd.prog 57 #[.int .i64 a0] w fun e w' => e = .returned (.string r) ∧ Below w.heap.size w w' := by
 have HB := Aside0.mk (Below.refl w.heap.size w)
 have H : (ddiref36_mask.l0 k a0 0 0) = some r := h
 clear h
 have H' := Aside0.mk H
 clear H
 go_enter Tryd.func57, Tryd.ntmps57
 go_wp2
 go_loopg [3, 4] k (fun kq v3 v4 w' => ∃ (x3_1 : Int) (x4_1 : Int), v3 = .int .i64 x3_1 ∧ v4 = .int .i64 x4_1 ∧ Aside0 (ddiref36_mask.l0 kq a0 x3_1 x4_1 = some r) ∧ Aside0 (kq ≤ k) ∧ Aside0 (Below w.heap.size w w'))
 case atStart => exact ⟨(0), (0), (by first | rfl | (simp; done) | (simp [*]; done)), (by first | rfl | (simp; done) | (simp [*]; done)), H', ⟨Nat.le_refl _⟩, ⟨hbx HB.out⟩⟩
 case round =>
  clear H'
  obtain ⟨x3_1, x4_1, rfl, rfl, HA, HK1, HB⟩ := hrel
  cases gk with
  | zero => exact absurd HA.out (by simp [ddiref36_mask.l0])
  | succ k1 =>
   have H := HA.out
   clear HA
   simp only [ddiref36_mask.l0] at H
   by_cases c2 : x4_1 < 32
   ·rw [if_pos c2] at H
    have c2b0 : decide (x4_1 < 32) = true := decide_eq_true c2
    clear c2
    by_cases c3 : x4_1 < a0
    ·rw [if_pos c3] at H
     have c3b0 : decide (x4_1 < a0) = true := decide_eq_true c3
     clear c3
     have H' := Aside0.mk H
     clear H
     go_wp2
     go_roundg k1
     case measure => have := HK1.out; omega
     case rel => exact ⟨(wrap64 ((wrap64 (2 * x3_1)) + 1)), (wrap64 (x4_1 + 1)), (by first | rfl | (simp; done) | (simp [*]; done)), (by first | rfl | (simp; done) | (simp [*]; done)), H', ⟨by have := HK1.out; omega⟩, ⟨hbx HB.out⟩⟩
    ·rw [if_neg c3] at H
     have c3b0 : decide (x4_1 < a0) = false := decide_eq_false c3
     clear c3
     have H' := Aside0.mk H
     clear H
     go_wp2
     go_roundg k1
     case measure => have := HK1.out; omega
     case rel => exact ⟨(wrap64 (2 * x3_1)), (wrap64 (x4_1 + 1)), (by first | rfl | (simp; done) | (simp [*]; done)), (by first | rfl | (simp; done) | (simp [*]; done)), H', ⟨by have := HK1.out; omega⟩, ⟨hbx HB.out⟩⟩
   ·rw [if_neg c2] at H
    have c2b0 : decide (x4_1 < 32) = false := decide_eq_false c2
    clear c2
    replace H := Option.bind_eq_some_iff.mp H
    obtain ⟨t689, A40, H⟩ := H
    replace H : (some t689) = some r := H
    have A4 := Aside0.mk A40
    clear A40
    obtain rfl := Option.some.inj H
    go_wp2_with (first | ((with_reducible refine gate_callee (f := 43) rfl ?_); refine goesL_ (some 17) rfl rfl Tryd.func43 (by kernel_rfl) rfl #[.int .i64 x3_1, .int .i64 4] rfl (by (try simp only [List.map_toArray, List.map_cons, List.map_nil]); first | done | rfl | (simp only [List.length_drop, List.length_take]; rfl)) ?_; (with_reducible refine (ddiref36_bytes.calls k1 x3_1 4 t689 _ A4.out).mono ?_); rintro e w5 ⟨rfl, hb⟩; refine ⟨_, rfl, ?_⟩; have n0_ := Aside0.mk (below_step (hbx HB.out) hb); clear HB; have HB := n0_; clear n0_; (try clear hb); (try clear hb2); (try clear hk); (try clear hi)))
    go_ret
    exact ⟨by first | rfl | (simp [errW_none, errW_some] <;> rfl) | (simp [*, errW_none, errW_some] <;> rfl), hbx HB.out⟩

end Go.Proofs.YtcoekgnbncocnaaDoor.Pa


namespace Go.Proofs.YtcoekgnbncocnaaDoor.Pa
open Go.RowKit Go.Proofs.YtcoekgnbncocnaaDoorW.PrintWords Go.Proofs.YtcoekgnbncocnaaDoorW.PrintLast Go.Proofs.YtcoekgnbncocnaaDoorW.PrintMore
attribute [local go_sem] max2_int min2_int max_two min_two max_three min_three max_four min_four   -- for this text's walks alone
set_option linter.unusedVariables false
set_option linter.unusedSimpArgs false

mutual
def ddiref35_Bytes.j0 : Nat → Int → Int → Bool → Option (ByteArray × Bool)
 | 0, _, _, _ => none
 | k + 1, x0, x1, x21 => if x21 = true then (some ((⟨#[]⟩ : ByteArray), false)) else (ddiref35_Bytes.l0 k x0 x1 (⟨#[]⟩ : ByteArray) 0)
def ddiref35_Bytes.l0 : Nat → Int → Int → ByteArray → Int → Option (ByteArray × Bool)
 | 0, _, _, _, _ => none
 | k + 1, x0, x1, x6, x7 => if x7 < x1 then ((some (([(Int.tmod x0 256) % 256] : List Int) : List Int)).bind fun y690 => (if (strOfNums y690).size + x6.size ≤ 9223372036854775807 then (ddiref35_Bytes.l0 k (wrap64 (Int.tdiv x0 256)) x1 ((strOfNums y690) ++ x6) (wrap64 (x7 + 1))) else (none))) else (if x0 > 0 then (some ((⟨#[]⟩ : ByteArray), false)) else (some (x6, true)))
end
def ddiref35_Bytes.f (k : Nat) (a0 : Int) (a1 : Int) : Option (ByteArray × Bool) := if a1 = 1 then (ddiref35_Bytes.j0 k a0 a1 (decide (a0 < 0))) else (if a1 = 2 then (ddiref35_Bytes.j0 k a0 a1 (decide (a0 < 0))) else (if a1 = 4 then (ddiref35_Bytes.j0 k a0 a1 (decide (a0 < 0))) else (ddiref35_Bytes.j0 k a0 a1 true)))
theorem ddiref35_Bytes.mono_l : ∀ k, (∀ y0 y1 y2, LeO (ddiref35_Bytes.j0 k y0 y1 y2) (ddiref35_Bytes.j0 (k + 1) y0 y1 y2)) ∧ (∀ y0 y1 y2 y3, LeO (ddiref35_Bytes.l0 k y0 y1 y2 y3) (ddiref35_Bytes.l0 (k + 1) y0 y1 y2 y3))
 | 0 => ⟨fun _ _ _ r h => by simp [ddiref35_Bytes.j0] at h, fun _ _ _ _ r h => by simp [ddiref35_Bytes.l0] at h⟩
 | k + 1 => by
  obtain ⟨ih0, ih1⟩ := ddiref35_Bytes.mono_l k
  refine ⟨?_, ?_⟩
  ·intro y0 y1 y2
   unfold ddiref35_Bytes.j0
   repeat' first
   | (with_reducible exact ih0 _ _ _)
   | (with_reducible exact ih1 _ _ _ _)
   | (with_reducible exact LeO.refl _)
   | (with_reducible exact LeO.none _)
   | (with_reducible refine LeO.ite ?_ ?_)
   | (with_reducible refine LeO.bind ?_ (fun _ => ?_))
   | exact ih0 _ _ _
   | exact ih1 _ _ _ _
   | exact LeO.none _
   | refine LeO.ite ?_ ?_
   | refine LeO.bind ?_ (fun _ => ?_)
  ·intro y0 y1 y2 y3
   unfold ddiref35_Bytes.l0
   repeat' first
   | (with_reducible exact ih0 _ _ _)
   | (with_reducible exact ih1 _ _ _ _)
   | (with_reducible exact LeO.refl _)
   | (with_reducible exact LeO.none _)
   | (with_reducible refine LeO.ite ?_ ?_)
   | (with_reducible refine LeO.bind ?_ (fun _ => ?_))
   | exact ih0 _ _ _
   | exact ih1 _ _ _ _
   | exact LeO.none _
   | refine LeO.ite ?_ ?_
   | refine LeO.bind ?_ (fun _ => ?_)
theorem ddiref35_Bytes.mono : ∀ a0 a1 k, LeO (ddiref35_Bytes.f k a0 a1) (ddiref35_Bytes.f (k + 1) a0 a1) := by
 intro a0 a1 k
 obtain ⟨ih0, ih1⟩ := ddiref35_Bytes.mono_l k
 unfold ddiref35_Bytes.f
 repeat' first
   | (with_reducible exact ih0 _ _ _)
   | (with_reducible exact ih1 _ _ _ _)
   | (with_reducible exact LeO.refl _)
   | (with_reducible exact LeO.none _)
   | (with_reducible refine LeO.ite ?_ ?_)
   | (with_reducible refine LeO.bind ?_ (fun _ => ?_))
   | exact ih0 _ _ _
   | exact ih1 _ _ _ _
   | exact LeO.none _
   | refine LeO.ite ?_ ?_
   | refine LeO.bind ?_ (fun _ => ?_)
set_option maxHeartbeats 8000000 in
set_option maxRecDepth 100000 in
theorem ddiref35_Bytes.calls (k : Nat) (a0 : Int) (a1 : Int) (r1 : ByteArray) (r2 : Bool) (w : World) (h : ddiref35_Bytes.f k a0 a1 = some (r1, r2)) :
  Calls Tryd.prog 79 #[.int .i64 a0, .int .i64 a1] w fun e w' => e = .returned (.tuple #[.string r1, .bool r2]) ∧ Below w.heap.size w w' := by
 have HB := Aside0.mk (Below.refl w.heap.size w)
 have H : (if a1 = 1 then (ddiref35_Bytes.j0 k a0 a1 (decide (a0 < 0))) else (if a1 = 2 then (ddiref35_Bytes.j0 k a0 a1 (decide (a0 < 0))) else (if a1 = 4 then (ddiref35_Bytes.j0 k a0 a1 (decide (a0 < 0))) else (ddiref35_Bytes.j0 k a0 a1 true)))) = some (r1, r2) := h
 clear h
 have HC3 := Aside0.mk H
 clear H
 go_enter Tryd.func79, Tryd.ntmps79
 go_upto_region 1 with (fail)
 go_cut [21] (fun v21 wc => ∃ (kq : Nat) (x21_2 : Bool), v21 = .bool x21_2 ∧ Aside0 (ddiref35_Bytes.j0 kq a0 a1 x21_2 = some (r1, r2)) ∧ Aside0 (kq ≤ k) ∧ Aside0 (Below w.heap.size w wc))
 case first =>
  have H := HC3.out
  clear HC3
  by_cases c4 : a1 = 1
  ·rw [if_pos c4] at H
   have c4b0 : (a1 == 1) = true := beq_iff_eq.mpr c4
   have c4b1 : (a1 != 1) = false := bne_eq_false_iff_eq.mpr c4
   clear c4
   (first | rw [c4b0] | (simp only [i64_w, i32_w]; rw [c4b0]) | skip)
   have H' := Aside0.mk H
   clear H
   go_wp2
   go_meet
   case rel => exact ⟨_, (decide (a0 < 0)), (by first | rfl | (simp; done) | (simp [*]; done)), H', ⟨by first | omega | exact Nat.le_refl _⟩, ⟨hbx HB.out⟩⟩
  ·rw [if_neg c4] at H
   have c4b0 : (a1 == 1) = false := beq_eq_false_iff_ne.mpr c4
   have c4b1 : (a1 != 1) = true := bne_iff_ne.mpr c4
   (first | rw [c4b0] | (simp only [i64_w, i32_w]; rw [c4b0]) | skip)
   by_cases c5 : a1 = 2
   ·rw [if_pos c5] at H
    have c5b0 : (a1 == 2) = true := beq_iff_eq.mpr c5
    have c5b1 : (a1 != 2) = false := bne_eq_false_iff_eq.mpr c5
    clear c5
    have H' := Aside0.mk H
    clear H
    go_wp2
    go_meet
    case rel => exact ⟨_, (decide (a0 < 0)), (by first | rfl | (simp; done) | (simp [*]; done)), H', ⟨by first | omega | exact Nat.le_refl _⟩, ⟨hbx HB.out⟩⟩
   ·rw [if_neg c5] at H
    have c5b0 : (a1 == 2) = false := beq_eq_false_iff_ne.mpr c5
    have c5b1 : (a1 != 2) = true := bne_iff_ne.mpr c5
    by_cases c6 : a1 = 4
    ·rw [if_pos c6] at H
     have c6b0 : (a1 == 4) = true := beq_iff_eq.mpr c6
     have c6b1 : (a1 != 4) = false := bne_eq_false_iff_eq.mpr c6
     clear c6
     have H' := Aside0.mk H
     clear H
     go_wp2
     go_meet
     case rel => exact ⟨_, (decide (a0 < 0)), (by first | rfl | (simp; done) | (simp [*]; done)), H', ⟨by first | omega | exact Nat.le_refl _⟩, ⟨hbx HB.out⟩⟩
    ·rw [if_neg c6] at H
     have c6b0 : (a1 == 4) = false := beq_eq_false_iff_ne.mpr c6
     have c6b1 : (a1 != 4) = true := bne_iff_ne.mpr c6
     have H' := Aside0.mk H
     clear H
     go_wp2
     go_meet
     case rel => exact ⟨_, (true), (by first | rfl | (simp; done) | (simp [*]; done)), H', ⟨by first | omega | exact Nat.le_refl _⟩, ⟨hbx HB.out⟩⟩
 case rest =>
  clear HC3
  try clear p2
  try clear c4
  try clear c4b0
  try clear c4b1
  try clear c5
  try clear c5b0
  try clear c5b1
  try clear c6
  try clear c6b0
  try clear c6b1
  obtain ⟨kq, x21_2, rfl, HA, HJ2, HB⟩ := hcut
  cases kq with
  | zero => exact absurd HA.out (by simp [ddiref35_Bytes.j0])
  | succ kj2 =>
   have H := HA.out
   clear HA
   simp only [ddiref35_Bytes.j0] at H
   by_cases c7 : x21_2 = true
   ·subst c7
    rw [if_pos rfl] at H
    simp only [Option.some.injEq, Prod.mk.injEq] at H
    obtain ⟨rfl, rfl⟩ := H
    go_wp2
    go_ret2
    exact ⟨by first | rfl | (simp [errW_none, errW_some] <;> rfl) | (simp [*, errW_none, errW_some] <;> rfl), hbx HB.out⟩
   ·replace c7 := Bool.eq_false_iff.mpr c7
    subst c7
    rw [if_neg (show ¬ (false = true) by decide)] at H
    have H' := Aside0.mk H
    clear H
    go_wp2
    go_loopg [0, 6, 7] kj2 (fun kq v0 v6 v7 w' => ∃ (x0_2 : Int) (x6_2 : ByteArray) (x7_2 : Int), v0 = .int .i64 x0_2 ∧ v6 = .string x6_2 ∧ v7 = .int .i64 x7_2 ∧ Aside0 (ddiref35_Bytes.l0 kq x0_2 a1 x6_2 x7_2 = some (r1, r2)) ∧ Aside0 (kq ≤ kj2) ∧ Aside0 (Below w.heap.size w w'))
    case atStart => exact ⟨(a0), ((⟨#[]⟩ : ByteArray)), (0), (by first | rfl | (simp; done) | (simp [*]; done)), (by first | rfl | (simp; done) | (simp [*]; done)), (by first | rfl | (simp; done) | (simp [*]; done)), H', ⟨Nat.le_refl _⟩, ⟨hbx HB.out⟩⟩
    case round =>
     clear H'
     try clear p2
     try clear c4
     try clear c4b0
     try clear c4b1
     try clear c5
     try clear c5b0
     try clear c5b1
     try clear c6
     try clear c6b0
     try clear c6b1
     try clear c7
     try clear p2
     obtain ⟨x0_2, x6_2, x7_2, rfl, rfl, rfl, HA, HK2, HB⟩ := hrel
     cases gk with
     | zero => exact absurd HA.out (by simp [ddiref35_Bytes.l0])
     | succ k2 =>
      have H := HA.out
      clear HA
      simp only [ddiref35_Bytes.l0] at H
      by_cases c8 : x7_2 < a1
      ·rw [if_pos c8] at H
       have c8b0 : decide (x7_2 < a1) = true := decide_eq_true c8
       clear c8
       obtain ⟨y690, hy690⟩ : ∃ y_ : List Int, y_ = (([(Int.tmod x0_2 256) % 256] : List Int)) := ⟨_, rfl⟩
       replace H : (if (strOfNums y690).size + x6_2.size ≤ 9223372036854775807 then (ddiref35_Bytes.l0 k2 (wrap64 (Int.tdiv x0_2 256)) a1 ((strOfNums y690) ++ x6_2) (wrap64 (x7_2 + 1))) else (none)) = some (r1, r2) := by first | (rw [hy690]; with_reducible exact H) | (have H2_ := (Option.bind_some _ _).symm.trans H; rw [hy690]; with_reducible exact H2_) | (have H2_ := (Option.bind_some _ _).symm.trans H; with_reducible exact H2_) | with_reducible exact H | (rw [hy690]; exact H) | exact H
       have Ny690 := Aside0.mk hy690
       clear hy690
       by_cases c9 : (strOfNums y690).size + x6_2.size ≤ 9223372036854775807
       ·rw [if_pos c9] at H
        have c9b0 := eq_true c9
        have c9b1 : decide ((strOfNums y690).size + x6_2.size ≤ 9223372036854775807) = true := decide_eq_true c9
        try have c9b2 : (9223372036854775807 < (strOfNums y690).size + x6_2.size) = False := eq_false (Nat.not_lt.2 c9)
        have H' := Aside0.mk H
        clear H
        go_wp2_with (first | ((with_reducible refine gate_dst (N := 30) rfl ?_); refine Kd.R_lit (Kd.int .u8) _ 5 ?hg (N := 30) ?hd (xs := ([(Int.tmod x0_2 256) % 256] : List Int)) (inner := [.int .u8 ((Int.tmod x0_2 256) % 256)]) (ok := fun _ => True) (okp := fun _ => True) ?hr ?hp (fun _ hk => hk) trivial (Below.refl _ _) (Nat.le_refl _) (by simp) ?_; (case hd => rfl); (case hg => rfl); (case hr => first | (go_simp; done) | (go_simp; rfl)); (case hp => exact (Reps.one (show Kd.M (Kd.int .u8) _ _ _ ((Int.tmod x0_2 256) % 256) [.int .u8 ((Int.tmod x0_2 256) % 256)] from rfl) (Reps.none _ _))); intro v691 w10 ho11 hb hg_ hnew_; clear hg_ hnew_; (first | rw [← Ny690.out] at ho11 | (simp only [Int.reduceToNat] at ho11; rw [← Ny690.out] at ho11)); have n0_ := Aside0.mk (Kd.R_lower ho11 (below_size (hbx HB.out))); have n1_ := Aside0.mk (below_step (hbx HB.out) hb); clear HB; have HO692 := n0_; have HB := n1_; clear n0_ n1_; clear hb ho11; have hcv12 := own_string (P := Tryd.prog) Tryd.underlying73 Tryd.underlying5 Tryd.underlying9 (Kd.own_of_R HO692.out)))
        go_roundg k2
        case measure => have := HJ2.out; have := HK2.out; omega
        case rel => exact ⟨(wrap64 (Int.tdiv x0_2 256)), ((strOfNums y690) ++ x6_2), (wrap64 (x7_2 + 1)), (by first | rfl | (simp; done) | (simp [*]; done)), (by first | rfl | (simp; done) | (simp [*]; done)), (by first | rfl | (simp; done) | (simp [*]; done)), H', ⟨by have := HJ2.out; have := HK2.out; omega⟩, ⟨hbx HB.out⟩⟩
       ·rw [if_neg c9] at H
        exact absurd H (by simp)
      ·rw [if_neg c8] at H
       have c8b0 : decide (x7_2 < a1) = false := decide_eq_false c8
       clear c8
       by_cases c13 : x0_2 > 0
       ·rw [if_pos c13] at H
        have c13b0 : decide (0 < x0_2) = true := decide_eq_true c13
        clear c13
        simp only [Option.some.injEq, Prod.mk.injEq] at H
        obtain ⟨rfl, rfl⟩ := H
        go_wp2
        go_ret2
        exact ⟨by first | rfl | (simp [errW_none, errW_some] <;> rfl) | (simp [*, errW_none, errW_some] <;> rfl), hbx HB.out⟩
       ·rw [if_neg c13] at H
        have c13b0 : decide (0 < x0_2) = false := decide_eq_false c13
        clear c13
        simp only [Option.some.injEq, Prod.mk.injEq] at H
        obtain ⟨rfl, rfl⟩ := H
        go_wp2
        go_ret2
        exact ⟨by first | rfl | (simp [errW_none, errW_some] <;> rfl) | (simp [*, errW_none, errW_some] <;> rfl), hbx HB.out⟩

def ddiref36_put.f (k : Nat) (l0 : List (S61)) (a1 : Int) (a2 : Int) : Option ((List (S61))) := (ddiref35_Bytes.f k a2 4).bind fun bt693 => (if bt693.2 = true then ((ddiref35_Put.f k l0 a1 bt693.1).bind fun t695 => (some t695)) else (some l0))
set_option maxHeartbeats 8000000 in
set_option maxRecDepth 100000 in
theorem ddiref36_put.calls (k : Nat) (P0_ : Nat → Prop) (A0 : Option Addr) (c0 : Nat) (l0 : List (S61)) (a1 : Int) (a2 : Int) (r : List (S61)) (w : World) (hs0 : Kd.V k61 61 w w.heap.size (fun k_ => P0_ k_) (.slice A0 l0.length c0) l0) (h : ddiref36_put.f k l0 a1 a2 = some r) :
  Calls Tryd.prog 58 #[.slice A0 l0.length c0, .int .i64 a1, .int .i64 a2] w fun e w' => ∃ v0_ : Value, e = .returned (v0_) ∧ Kd.V k61 61 w' w.heap.size (fun k_ => (P0_ k_ ∨ w.heap.size ≤ k_)) v0_ r ∧ Below w.heap.size w w' := by
 have HO0 := Aside0.mk (show Kd.V k61 61 w w.heap.size (fun k_ => (P0_ k_ ∨ w.heap.size ≤ k_)) (.slice A0 l0.length c0) l0 from Kd.V_mono hs0 (fun k_ hk => .inl hk))
 have HB := Aside0.mk (Below.refl w.heap.size w)
 have H : ((ddiref35_Bytes.f k a2 4).bind fun bt693 => (if bt693.2 = true then ((ddiref35_Put.f k l0 a1 bt693.1).bind fun t695 => (some t695)) else (some l0))) = some r := h
 clear h
 replace H := Option.bind_eq_some_iff.mp H
 obtain ⟨⟨t693, t694⟩, A40, H⟩ := H
 (try dsimp only at H)
 have A4 := Aside0.mk A40
 clear A40
 by_cases c5 : t694 = true
 ·subst c5
  rw [if_pos rfl] at H
  replace H := Option.bind_eq_some_iff.mp H
  obtain ⟨t695, A60, H⟩ := H
  replace H : (some t695) = some r := H
  have A6 := Aside0.mk A60
  clear A60
  obtain rfl := Option.some.inj H
  go_enter Tryd.func58, Tryd.ntmps58
  go_wp2_with (first | ((with_reducible refine gate_callee (f := 79) rfl ?_); refine goesL_ (some 11) rfl rfl Tryd.func79 (by kernel_rfl) rfl #[.int .i64 a2, .int .i64 4] rfl (by (try simp only [List.map_toArray, List.map_cons, List.map_nil]); first | done | rfl | (simp only [List.length_drop, List.length_take]; rfl)) ?_; (with_reducible refine (ddiref35_Bytes.calls k a2 4 t693 true _ A4.out).mono ?_); rintro e w7 ⟨rfl, hb⟩; refine ⟨_, rfl, ?_⟩; have n0_ := Aside0.mk (Kd.V_below (by (with_reducible repeat (first | apply Kd.V_alloc | apply Kd.V_drewN | apply Kd.V_drew)); exact HO0.out) hb); have n1_ := Aside0.mk (below_step (hbx HB.out) hb); clear HO0; clear HB; have HO0 := n0_; have HB := n1_; clear n0_ n1_; (try clear hb); (try clear hb2); (try clear hk); (try clear hi)) | ((with_reducible refine gate_callee (f := 56) rfl ?_); refine goesL_ (some 20) rfl rfl Tryd.func56 (by kernel_rfl) rfl #[.slice A0 l0.length c0, .int .i64 a1, .string t693] rfl (by (try simp only [List.map_toArray, List.map_cons, List.map_nil]); first | done | rfl | (simp only [List.length_drop, List.length_take]; rfl)) ?_; (with_reducible refine (ddiref35_Put.calls k _ _ l0 a1 t693 t695 _ ?side1 ?side2 A6.out).mono ?_); (case side1 => repeat (first | exact (Kd.V_reads' HO0.out).2.2 | (with_reducible refine Kd.C_alloc ?_ _) | (with_reducible refine Kd.C_drewN ?_ _) | (with_reducible refine Kd.C_drew ?_))); (case side2 => exact (Kd.V_reads' HO0.out).2.1); rintro e w8 ⟨v696, rfl, ho0, hb⟩; refine ⟨_, rfl, ?_⟩; have n0_ := Aside0.mk (Kd.V_elder' (by (with_reducible repeat (first | apply Kd.V_alloc | apply Kd.V_drewN | apply Kd.V_drew)); exact HO0.out) (Kd.R_base ho0) hb); have n1_ := Aside0.mk (Kd.R_lower (Kd.R_newM (M := fun k_ => (w.heap.size ≤ k_)) ho0 (below_size (hbx HB.out)) (fun k_ h_ => h_)) (below_size (hbx HB.out))); have n2_ := Aside0.mk (below_step (hbx HB.out) hb); clear HO0; clear HB; have HO0 := n0_; have HO697 := n1_; have HB := n2_; clear n0_ n1_ n2_; (try clear hb); (try clear hb2); (try clear hk); (try clear hi); (try clear ho0)))
  go_ret
  exact ⟨_, by first | rfl | (simp [errW_none, errW_some] <;> rfl) | (simp [*, errW_none, errW_some] <;> rfl), Kd.V_mono (Kd.R_V (by (with_reducible repeat (first | apply Kd.R_alloc | apply Kd.R_drewN | apply Kd.R_drew)); exact Kd.R_mono HO697.out (fun _ hk => hk.1))) (fun k_ hk => by first | exact ⟨(.inr (hk.1)), hk.2⟩ | exact (.inr (hk))), hbx HB.out⟩
 ·replace c5 := Bool.eq_false_iff.mpr c5
  subst c5
  rw [if_neg (show ¬ (false = true) by decide)] at H
  obtain rfl := Option.some.inj H
  go_enter Tryd.func58, Tryd.ntmps58
  go_wp2_with (first | ((with_reducible refine gate_callee (f := 79) rfl ?_); refine goesL_ (some 11) rfl rfl Tryd.func79 (by kernel_rfl) rfl #[.int .i64 a2, .int .i64 4] rfl (by (try simp only [List.map_toArray, List.map_cons, List.map_nil]); first | done | rfl | (simp only [List.length_drop, List.length_take]; rfl)) ?_; (with_reducible refine (ddiref35_Bytes.calls k a2 4 t693 false _ A4.out).mono ?_); rintro e w9 ⟨rfl, hb⟩; refine ⟨_, rfl, ?_⟩; have n0_ := Aside0.mk (Kd.V_below (by (with_reducible repeat (first | apply Kd.V_alloc | apply Kd.V_drewN | apply Kd.V_drew)); exact HO0.out) hb); have n1_ := Aside0.mk (below_step (hbx HB.out) hb); clear HO0; clear HB; have HO0 := n0_; have HB := n1_; clear n0_ n1_; (try clear hb); (try clear hb2); (try clear hk); (try clear hi)))
  go_ret
  exact ⟨_, by first | rfl | (simp [errW_none, errW_some] <;> rfl) | (simp [*, errW_none, errW_some] <;> rfl), by (with_reducible repeat (first | apply Kd.V_alloc | apply Kd.V_drewN | apply Kd.V_drew)); exact HO0.out, hbx HB.out⟩

end Go.Proofs.YtcoekgnbncocnaaDoor.Pa


namespace Go.Proofs.YtcoekgnbncocnaaDoor.Pa
open Go.RowKit Go.Proofs.YtcoekgnbncocnaaDoorW.PrintWords Go.Proofs.YtcoekgnbncocnaaDoorW.PrintLast Go.Proofs.YtcoekgnbncocnaaDoorW.PrintMore
attribute [local go_sem] max2_int min2_int max_two min_two max_three min_three max_four min_four   -- for this text's walks alone
set_option linter.unusedVariables false
set_option linter.unusedSimpArgs false

def ddiref36_half.f (a0 : Int) : Option (Int) := if a0 < 0 then (some (-1)) else (some (wrap64 (Int.tdiv a0 2)))
set_option maxHeartbeats 8000000 in
set_option maxRecDepth 100000 in
theorem ddiref36_half.calls (a0 : Int) (r : Int) (w : World) (h : ddiref36_half.f a0 = some r) :
  Calls Tryd.prog 59 #[.int .i64 a0] w fun e w' => e = .returned (.int .i64 r) ∧ Drawn0 w w' := by
 have H : (if a0 < 0 then (some (-1)) else (some (wrap64 (Int.tdiv a0 2)))) = some r := h
 clear h
 by_cases c2 : a0 < 0
 ·rw [if_pos c2] at H
  have c2b0 : decide (a0 < 0) = true := decide_eq_true c2
  clear c2
  obtain rfl := Option.some.inj H
  go_enter Tryd.func59, Tryd.ntmps59
  go_wp2
  go_ret
  exact ⟨by first | rfl | (simp; done) | (simp [*]; done), by repeat (first | exact Drawn0.refl _ | apply Drawn0.step)⟩
 ·rw [if_neg c2] at H
  have c2b0 : decide (a0 < 0) = false := decide_eq_false c2
  clear c2
  obtain rfl := Option.some.inj H
  go_enter Tryd.func59, Tryd.ntmps59
  go_wp2
  go_ret
  exact ⟨by first | rfl | (simp; done) | (simp [*]; done), by repeat (first | exact Drawn0.refl _ | apply Drawn0.step)⟩

def ddiref36_eighths.f (a0 : Int) : Option (Int) := if a0 < 0 then (some (-1)) else (if a0 > 1099511627776 then (some (-1)) else (some (wrap64 (Int.tdiv (wrap64 (a0 * 7)) 8))))
set_option maxHeartbeats 8000000 in
set_option maxRecDepth 100000 in
theorem ddiref36_eighths.calls (a0 : Int) (r : Int) (w : World) (h : ddiref36_eighths.f a0 = some r) :
  Calls Tryd.prog 60 #[.int .i64 a0] w fun e w' => e = .returned (.int .i64 r) ∧ Drawn0 w w' := by
 have H : (if a0 < 0 then (some (-1)) else (if a0 > 1099511627776 then (some (-1)) else (some (wrap64 (Int.tdiv (wrap64 (a0 * 7)) 8))))) = some r := h
 clear h
 by_cases c2 : a0 < 0
 ·rw [if_pos c2] at H
  have c2b0 : decide (a0 < 0) = true := decide_eq_true c2
  clear c2
  obtain rfl := Option.some.inj H
  go_enter Tryd.func60, Tryd.ntmps60
  go_wp2
  go_ret
  exact ⟨by first | rfl | (simp; done) | (simp [*]; done), by repeat (first | exact Drawn0.refl _ | apply Drawn0.step)⟩
 ·rw [if_neg c2] at H
  have c2b0 : decide (a0 < 0) = false := decide_eq_false c2
  clear c2
  by_cases c3 : a0 > 1099511627776
  ·rw [if_pos c3] at H
   have c3b0 : decide (1099511627776 < a0) = true := decide_eq_true c3
   clear c3
   obtain rfl := Option.some.inj H
   go_enter Tryd.func60, Tryd.ntmps60
   go_wp2
   go_ret
   exact ⟨by first | rfl | (simp; done) | (simp [*]; done), by repeat (first | exact Drawn0.refl _ | apply Drawn0.step)⟩
  ·rw [if_neg c3] at H
   have c3b0 : decide (1099511627776 < a0) = false := decide_eq_false c3
   clear c3
   obtain rfl := Option.some.inj H
   go_enter Tryd.func60, Tryd.ntmps60
   go_wp2
   go_ret
   exact ⟨by first | rfl | (simp; done) | (simp [*]; done), by repeat (first | exact Drawn0.refl _ | apply Drawn0.step)⟩

end Go.Proofs.YtcoekgnbncocnaaDoor.Pa


namespace Go.Proofs.YtcoekgnbncocnaaDoor.Pa
open Go.RowKit Go.Proofs.YtcoekgnbncocnaaDoorW.PrintWords Go.Proofs.YtcoekgnbncocnaaDoorW.PrintLast Go.Proofs.YtcoekgnbncocnaaDoorW.PrintMore
attribute [local go_sem] max2_int min2_int max_two min_two max_three min_three max_four min_four   -- for this text's walks alone
set_option linter.unusedVariables false
set_option linter.unusedSimpArgs false

mutual
def ddiref36_Grant.l0 : Nat → List (S61) → Int → Int → Int → Int → ByteArray → Bool → Int → Int → Bool → Int → Int → Bool → Int → Int → Bool → List (S61) → Bool → Int → Int → Int → ByteArray → List (S139) → List (S141) → List (S61) → Int → Option (Int × Int × Int × ByteArray × Bool × Int × Int × Bool × Int × Int × Bool × Int × Int × Bool × (List (S61)))
 | 0, _, _, _, _, _, _, _, _, _, _, _, _, _, _, _, _, _, _, _, _, _, _, _, _, _, _ => none
 | k + 1, x7, x8, x699000, x699001, x699002, x699003, x699004, x699005, x699006, x699007, x699008, x699009, x699010, x699011, x699012, x699013, x699014, x701000, x701001, x701002, x701003, x701004, x701005, x701006, x701007, x701008 => if x8 < (x701007.length : Int) then (if 0 ≤ x8 then ((ddiref35_Find.f k x7 ((rd_T61 x701007 x8).f0)).bind fun bt703 => (if bt703.2 = true then (ddiref36_Grant.l0 k x7 (wrap64 (x8 + 1)) x699000 x699001 x699002 x699003 x699004 x699005 x699006 x699007 x699008 x699009 x699010 x699011 x699012 x699013 x699014 x701000 x701001 x701002 x701003 x701004 x701005 x701006 x701007 x701008) else ((ddiref35_Put.f k x7 ((rd_T61 x701007 x8).f0) ((rd_T61 x701007 x8).f1)).bind fun t707 => (ddiref36_Grant.l0 k t707 (wrap64 (x8 + 1)) x699000 x699001 x699002 x699003 x699004 x699005 x699006 x699007 x699008 x699009 x699010 x699011 x699012 x699013 x699014 x701000 x701001 x701002 x701003 x701004 x701005 x701006 x701007 x701008)))) else (none)) else ((ddiref35_Find.f k x7 1).bind fun bt710 => (if bt710.2 = true then (ddiref36_Grant.j1 k x7 false x699000 x699001 x699002 x699003 x699004 x699005 x699006 x699007 x699008 x699009 x699010 x699011 x699012 x699013 x699014 x701000 x701001 x701002 x701003 x701004 x701005 x701006 x701007 x701008) else (if x701003 ≥ 0 then (ddiref36_Grant.j1 k x7 (decide (x701003 ≤ 32)) x699000 x699001 x699002 x699003 x699004 x699005 x699006 x699007 x699008 x699009 x699010 x699011 x699012 x699013 x699014 x701000 x701001 x701002 x701003 x701004 x701005 x701006 x701007 x701008) else (ddiref36_Grant.j1 k x7 false x699000 x699001 x699002 x699003 x699004 x699005 x699006 x699007 x699008 x699009 x699010 x699011 x699012 x699013 x699014 x701000 x701001 x701002 x701003 x701004 x701005 x701006 x701007 x701008))))
def ddiref36_Grant.j1 : Nat → List (S61) → Bool → Int → Int → Int → ByteArray → Bool → Int → Int → Bool → Int → Int → Bool → Int → Int → Bool → List (S61) → Bool → Int → Int → Int → ByteArray → List (S139) → List (S141) → List (S61) → Int → Option (Int × Int × Int × ByteArray × Bool × Int × Int × Bool × Int × Int × Bool × Int × Int × Bool × (List (S61)))
 | 0, _, _, _, _, _, _, _, _, _, _, _, _, _, _, _, _, _, _, _, _, _, _, _, _, _, _ => none
 | k + 1, x7, x69, x699000, x699001, x699002, x699003, x699004, x699005, x699006, x699007, x699008, x699009, x699010, x699011, x699012, x699013, x699014, x701000, x701001, x701002, x701003, x701004, x701005, x701006, x701007, x701008 => if x69 = true then ((ddiref36_mask.f k x701003).bind fun t712 => ((ddiref35_Put.f k x7 1 t712).bind fun t713 => (ddiref36_Grant.j2 k t713 x699000 x699001 x699002 x699003 x699004 x699005 x699006 x699007 x699008 x699009 x699010 x699011 x699012 x699013 x699014 x701000 x701001 x701002 x701003 x701004 x701005 x701006 x701007 x701008))) else (ddiref36_Grant.j2 k x7 x699000 x699001 x699002 x699003 x699004 x699005 x699006 x699007 x699008 x699009 x699010 x699011 x699012 x699013 x699014 x701000 x701001 x701002 x701003 x701004 x701005 x701006 x701007 x701008)
def ddiref36_Grant.j2 : Nat → List (S61) → Int → Int → Int → ByteArray → Bool → Int → Int → Bool → Int → Int → Bool → Int → Int → Bool → List (S61) → Bool → Int → Int → Int → ByteArray → List (S139) → List (S141) → List (S61) → Int → Option (Int × Int × Int × ByteArray × Bool × Int × Int × Bool × Int × Int × Bool × Int × Int × Bool × (List (S61)))
 | 0, _, _, _, _, _, _, _, _, _, _, _, _, _, _, _, _, _, _, _, _, _, _, _, _, _ => none
 | k + 1, x7, x699000, x699001, x699002, x699003, x699004, x699005, x699006, x699007, x699008, x699009, x699010, x699011, x699012, x699013, x699014, x701000, x701001, x701002, x701003, x701004, x701005, x701006, x701007, x701008 => (ddiref36_put.f k x7 51 x701008).bind fun t716 => ((ddiref36_half.f x701008).bind fun t719 => ((ddiref36_put.f k t716 58 t719).bind fun t720 => ((ddiref36_eighths.f x701008).bind fun t723 => ((ddiref36_put.f k t720 59 t723).bind fun t724 => (some (x699000, x699001, x699002, x699003, x699004, x699005, x699006, x699007, x699008, x699009, x699010, x699011, x699012, x699013, t724))))))
end
def ddiref36_Grant.f (k : Nat) (a0_0 : Int) (a0_1 : Int) (a0_2 : Int) (a0_3 : ByteArray) (a0_4 : Bool) (a0_5 : Int) (a0_6 : Int) (a0_7 : Bool) (a0_8 : Int) (a0_9 : Int) (a0_10 : Bool) (a0_11 : Int) (a0_12 : Int) (a0_13 : Bool) (l0_14 : List (S61)) (a1_0 : Bool) (a1_1 : Int) (a1_2 : Int) (a2_0 : Bool) (a2_1 : Int) (a2_2 : Int) (a2_3 : Int) (a2_4 : ByteArray) (l2_5 : List (S139)) (l2_6 : List (S141)) (l2_7 : List (S61)) (a2_8 : Int) : Option (Int × Int × Int × ByteArray × Bool × Int × Int × Bool × Int × Int × Bool × Int × Int × Bool × (List (S61))) := ddiref36_Grant.l0 k l0_14 0 a0_0 a0_1 a0_2 a0_3 a0_4 a0_5 a0_6 a1_0 a1_1 a1_2 a0_10 a0_11 a0_12 a0_13 l0_14 a2_0 a2_1 a2_2 a2_3 a2_4 l2_5 l2_6 l2_7 a2_8
def ddiref36_Grant.T8 : Bool × List (List Nat × List Nat) := (true, [([], []), ([], []), ([1], [1]), ([], []), ([2, 3], [2, 3]), ([4], [4]), ([5], [5]), ([], []), ([7], [7]), ([], []), ([8, 9], [8, 9]), ([10], [10]), ([11], [11]), ([0, 6, 12], [0, 6, 12]), ([13, 13, 0, 1, 2, 3, 4, 5, 6, 7, 8, 9, 10, 11, 12, 13], [0, 13])])
def ddiref36_Grant.B8 : List Nat := [0, 0, 2, 0, 14, 30, 62, 0, 128, 0, 896, 1920, 3968, 8191, 16383]
theorem ddiref36_Grant.tab8 : rtab .any (opsOf Tryd.f27 8) = ddiref36_Grant.T8 := by kernel_rfl
theorem ddiref36_Grant.bits8 : waitsOk ddiref36_Grant.T8.2 ddiref36_Grant.B8 = true := by kernel_rfl
set_option maxHeartbeats 8000000 in
set_option maxRecDepth 100000 in
theorem ddiref36_Grant.calls (k : Nat) (a0_0 : Int) (a0_1 : Int) (a0_2 : Int) (a0_3 : ByteArray) (a0_4 : Bool) (a0_5 : Int) (a0_6 : Int) (a0_7 : Bool) (a0_8 : Int) (a0_9 : Int) (a0_10 : Bool) (a0_11 : Int) (a0_12 : Int) (a0_13 : Bool) (P0_14_ : Nat → Prop) (A0_14 : Option Addr) (c0_14 : Nat) (l0_14 : List (S61)) (a1_0 : Bool) (a1_1 : Int) (a1_2 : Int) (a2_0 : Bool) (a2_1 : Int) (a2_2 : Int) (a2_3 : Int) (a2_4 : ByteArray) (A2_5 : Option Addr) (c2_5 : Nat) (l2_5 : List (S139)) (A2_6 : Option Addr) (c2_6 : Nat) (l2_6 : List (S141)) (A2_7 : Option Addr) (c2_7 : Nat) (l2_7 : List (S61)) (a2_8 : Int) (r1 : Int) (r2 : Int) (r3 : Int) (r4 : ByteArray) (r5 : Bool) (r6 : Int) (r7 : Int) (r8 : Bool) (r9 : Int) (r10 : Int) (r11 : Bool) (r12 : Int) (r13 : Int) (r14 : Bool) (r15 : List (S61)) (w : World) (hs0_14 : Kd.V k61 61 w w.heap.size (fun k_ => P0_14_ k_) (.slice A0_14 l0_14.length c0_14) l0_14) (hr2_5 : Kd.C k139 w A2_5 l2_5.length l2_5) (hc2_5 : l2_5.length ≤ c2_5) (hr2_6 : Kd.C k141 w A2_6 l2_6.length l2_6) (hc2_6 : l2_6.length ≤ c2_6) (hr2_7 : Kd.C k61 w A2_7 l2_7.length l2_7) (hc2_7 : l2_7.length ≤ c2_7) (h : ddiref36_Grant.f k a0_0 a0_1 a0_2 a0_3 a0_4 a0_5 a0_6 a0_7 a0_8 a0_9 a0_10 a0_11 a0_12 a0_13 l0_14 a1_0 a1_1 a1_2 a2_0 a2_1 a2_2 a2_3 a2_4 l2_5 l2_6 l2_7 a2_8 = some (r1, r2, r3, r4, r5, r6, r7, r8, r9, r10, r11, r12, r13, r14, r15)) :
  Calls Tryd.prog 27 #[.agg #[.int .i64 a0_0, .int .i64 a0_1, .int .i64 a0_2, .string a0_3, .bool a0_4, .int .u64 a0_5, .int .u64 a0_6, .bool a0_7, .int .u64 a0_8, .int .u64 a0_9, .bool a0_10, .int .u64 a0_11, .int .u64 a0_12, .bool a0_13, .slice A0_14 l0_14.length c0_14], .agg #[.bool a1_0, .int .u64 a1_1, .int .u64 a1_2], .agg #[.bool a2_0, .int .u64 a2_1, .int .u64 a2_2, .int .i64 a2_3, .string a2_4, .slice A2_5 l2_5.length c2_5, .slice A2_6 l2_6.length c2_6, .slice A2_7 l2_7.length c2_7, .int .i64 a2_8]] w fun e w' => ∃ v14_ : Value, e = .returned (.agg #[.int .i64 r1, .int .i64 r2, .int .i64 r3, .string r4, .bool r5, .int .u64 r6, .int .u64 r7, .bool r8, .int .u64 r9, .int .u64 r10, .bool r11, .int .u64 r12, .int .u64 r13, .bool r14, v14_]) ∧ Kd.V k61 61 w' w.heap.size (fun k_ => (P0_14_ k_ ∨ w.heap.size ≤ k_)) v14_ r15 ∧ Below w.heap.size w w' := by
 have hu27 := Tryd.underlying27
 have hu24 := Tryd.underlying24
 have hu53 := Tryd.underlying53
 have HO0_14 := Aside0.mk (show Kd.V k61 61 w w.heap.size (fun k_ => (P0_14_ k_ ∨ w.heap.size ≤ k_)) (.slice A0_14 l0_14.length c0_14) l0_14 from Kd.V_mono hs0_14 (fun k_ hk => .inl hk))
 have HR2_5 := Aside0.mk hr2_5
 have HC2_5 := Aside0.mk hc2_5
 clear hr2_5 hc2_5
 have HR2_6 := Aside0.mk hr2_6
 have HC2_6 := Aside0.mk hc2_6
 clear hr2_6 hc2_6
 have HR2_7 := Aside0.mk hr2_7
 have HC2_7 := Aside0.mk hc2_7
 clear hr2_7 hc2_7
 have HB := Aside0.mk (Below.refl w.heap.size w)
 have H : (ddiref36_Grant.l0 k l0_14 0 a0_0 a0_1 a0_2 a0_3 a0_4 a0_5 a0_6 a1_0 a1_1 a1_2 a0_10 a0_11 a0_12 a0_13 l0_14 a2_0 a2_1 a2_2 a2_3 a2_4 l2_5 l2_6 l2_7 a2_8) = some (r1, r2, r3, r4, r5, r6, r7, r8, r9, r10, r11, r12, r13, r14, r15) := h
 clear h
 have H' := Aside0.mk H
 clear H
 go_enter Tryd.func27, Tryd.ntmps27
 go_wp2_with (first | ((with_reducible refine gate_dst (N := 3) rfl ?_); refine box_event ?hg (N := 3) ?hd (cs := #[.int .i64 a0_0, .int .i64 a0_1, .int .i64 a0_2, .string a0_3, .bool a0_4, .int .u64 a0_5, .int .u64 a0_6, .bool a0_7, .int .u64 a0_8, .int .u64 a0_9, .bool a0_10, .int .u64 a0_11, .int .u64 a0_12, .bool a0_13, .slice A0_14 l0_14.length c0_14]) (t := 27) ?hr ?_; (case hd => rfl); (case hg => rfl); (case hr => first | (go_simp; done) | (go_simp; rfl)); intro gb698 hg w4 hbox hb; have n0_ := Aside0.mk (Kd.V_below (Kd.V_elderB (by (with_reducible repeat (first | apply Kd.V_alloc | apply Kd.V_drewN | apply Kd.V_drew)); exact HO0_14.out) gb698 (Nat.le_of_eq hg.symm)) hb); have n1_ := Aside0.mk (below_step (hbx HB.out) hb); have n2_ := Aside0.mk (hbox); have n3_ := Aside0.mk ((by rw [hg]; exact (below_size (hbx HB.out)) : w.heap.size ≤ gb698)); have n4_ := Aside0.mk ((by rw [hg]; exact (below_size (hbx HB.out)) : w.heap.size ≤ gb698)); clear HO0_14; clear HB; have HO0_14 := n0_; have HB := n1_; have BK698 := n2_; have GW698 := n3_; have GE698 := n4_; clear n0_ n1_ n2_ n3_ n4_; clear hb hbox hg) | ((with_reducible refine gate_dst (N := 4) rfl ?_); refine box_event ?hg (N := 4) ?hd (cs := #[.bool a1_0, .int .u64 a1_1, .int .u64 a1_2]) (t := 24) ?hr ?_; (case hd => rfl); (case hg => rfl); (case hr => first | (go_simp; done) | (go_simp; rfl)); intro gb699 hg w5 hbox hb; have n0_ := Aside0.mk (Kd.V_below (Kd.V_elderB (by (with_reducible repeat (first | apply Kd.V_alloc | apply Kd.V_drewN | apply Kd.V_drew)); exact HO0_14.out) gb699 (Nat.le_of_eq hg.symm)) hb); have n1_ := Aside0.mk (blk_below (bkx BK698.out) hb); have n2_ := Aside0.mk (below_step (hbx HB.out) hb); have n3_ := Aside0.mk (hbox); have n4_ := Aside0.mk ((by rw [hg]; exact (below_size (hbx HB.out)) : w.heap.size ≤ gb699)); have n5_ := Aside0.mk ((by rw [hg]; exact (below_size (hbx HB.out)) : w.heap.size ≤ gb699)); have n6_ := Aside0.mk ((by rw [hg]; exact Nat.ne_of_lt (blk_lt (bkx BK698.out)) : gb698 ≠ gb699)); have n7_ := Aside0.mk ((by rw [hg]; exact Nat.ne_of_gt (blk_lt (bkx BK698.out)) : gb699 ≠ gb698)); clear HO0_14; clear BK698; clear HB; have HO0_14 := n0_; have BK698 := n1_; have HB := n2_; have BK699 := n3_; have GW699 := n4_; have GE699 := n5_; have NB698_699 := n6_; have NB699_698 := n7_; clear n0_ n1_ n2_ n3_ n4_ n5_ n6_ n7_; clear hb hbox hg) | ((with_reducible refine gate_dst (N := 5) rfl ?_); refine box_event ?hg (N := 5) ?hd (cs := #[.bool a2_0, .int .u64 a2_1, .int .u64 a2_2, .int .i64 a2_3, .string a2_4, .slice A2_5 l2_5.length c2_5, .slice A2_6 l2_6.length c2_6, .slice A2_7 l2_7.length c2_7, .int .i64 a2_8]) (t := 53) ?hr ?_; (case hd => rfl); (case hg => rfl); (case hr => first | (go_simp; done) | (go_simp; rfl)); intro gb700 hg w6 hbox hb; have n0_ := Aside0.mk (Kd.V_below (Kd.V_elderB (by (with_reducible repeat (first | apply Kd.V_alloc | apply Kd.V_drewN | apply Kd.V_drew)); exact HO0_14.out) gb700 (Nat.le_of_eq hg.symm)) hb); have n1_ := Aside0.mk (blk_below (bkx BK698.out) hb); have n2_ := Aside0.mk (blk_below (bkx BK699.out) hb); have n3_ := Aside0.mk (below_step (hbx HB.out) hb); have n4_ := Aside0.mk (hbox); have n5_ := Aside0.mk ((by rw [hg]; exact (below_size (hbx HB.out)) : w.heap.size ≤ gb700)); have n6_ := Aside0.mk ((by rw [hg]; exact (below_size (hbx HB.out)) : w.heap.size ≤ gb700)); have n7_ := Aside0.mk ((by rw [hg]; exact Nat.ne_of_lt (blk_lt (bkx BK698.out)) : gb698 ≠ gb700)); have n8_ := Aside0.mk ((by rw [hg]; exact Nat.ne_of_gt (blk_lt (bkx BK698.out)) : gb700 ≠ gb698)); have n9_ := Aside0.mk ((by rw [hg]; exact Nat.ne_of_lt (blk_lt (bkx BK699.out)) : gb699 ≠ gb700)); have n10_ := Aside0.mk ((by rw [hg]; exact Nat.ne_of_gt (blk_lt (bkx BK699.out)) : gb700 ≠ gb699)); clear HO0_14; clear BK698; clear BK699; clear HB; have HO0_14 := n0_; have BK698 := n1_; have BK699 := n2_; have HB := n3_; have BK700 := n4_; have GW700 := n5_; have GE700 := n6_; have NB698_700 := n7_; have NB700_698 := n8_; have NB699_700 := n9_; have NB700_699 := n10_; clear n0_ n1_ n2_ n3_ n4_ n5_ n6_ n7_ n8_ n9_ n10_; clear hb hbox hg) | ((with_reducible refine gate_dst (N := 6) rfl ?_); refine box_event ?hg (N := 6) ?hd (cs := #[.int .i64 0, .int .i64 0, .int .i64 0, .string (⟨#[]⟩ : ByteArray), .bool false, .int .u64 0, .int .u64 0, .bool false, .int .u64 0, .int .u64 0, .bool false, .int .u64 0, .int .u64 0, .bool false, .slice none 0 0]) (t := 27) ?hr ?_; (case hd => rfl); (case hg => rfl); (case hr => first | (go_simp; done) | (go_simp; rfl)); intro gb701 hg w7 hbox hb; have n0_ := Aside0.mk (Kd.V_below (Kd.V_elderB (by (with_reducible repeat (first | apply Kd.V_alloc | apply Kd.V_drewN | apply Kd.V_drew)); exact HO0_14.out) gb701 (Nat.le_of_eq hg.symm)) hb); have n1_ := Aside0.mk (blk_below (bkx BK698.out) hb); have n2_ := Aside0.mk (blk_below (bkx BK699.out) hb); have n3_ := Aside0.mk (blk_below (bkx BK700.out) hb); have n4_ := Aside0.mk (below_step (hbx HB.out) hb); have n5_ := Aside0.mk (hbox); have n6_ := Aside0.mk ((by rw [hg]; exact (below_size (hbx HB.out)) : w.heap.size ≤ gb701)); have n7_ := Aside0.mk ((by rw [hg]; exact (below_size (hbx HB.out)) : w.heap.size ≤ gb701)); have n8_ := Aside0.mk ((by rw [hg]; exact Nat.ne_of_lt (blk_lt (bkx BK698.out)) : gb698 ≠ gb701)); have n9_ := Aside0.mk ((by rw [hg]; exact Nat.ne_of_gt (blk_lt (bkx BK698.out)) : gb701 ≠ gb698)); have n10_ := Aside0.mk ((by rw [hg]; exact Nat.ne_of_lt (blk_lt (bkx BK699.out)) : gb699 ≠ gb701)); have n11_ := Aside0.mk ((by rw [hg]; exact Nat.ne_of_gt (blk_lt (bkx BK699.out)) : gb701 ≠ gb699)); have n12_ := Aside0.mk ((by rw [hg]; exact Nat.ne_of_lt (blk_lt (bkx BK700.out)) : gb700 ≠ gb701)); have n13_ := Aside0.mk ((by rw [hg]; exact Nat.ne_of_gt (blk_lt (bkx BK700.out)) : gb701 ≠ gb700)); clear HO0_14; clear BK698; clear BK699; clear BK700; clear HB; have HO0_14 := n0_; have BK698 := n1_; have BK699 := n2_; have BK700 := n3_; have HB := n4_; have BK701 := n5_; have GW701 := n6_; have GE701 := n7_; have NB698_701 := n8_; have NB701_698 := n9_; have NB699_701 := n10_; have NB701_699 := n11_; have NB700_701 := n12_; have NB701_700 := n13_; clear n0_ n1_ n2_ n3_ n4_ n5_ n6_ n7_ n8_ n9_ n10_ n11_ n12_ n13_; clear hb hbox hg; have hnb8 := NB699_698.out; have hnc8 := NB698_699.out; have hnb9 := NB699_700.out; have hnc9 := NB700_699.out; have hnb10 := NB699_701.out; have hnc10 := NB701_699.out; obtain ⟨⟨hcz11_0, hcz11_1, hcz11_2⟩, hfz11_0, hfz11_1, hfz11_2⟩ := cf3 BK699.out; have hnb12 := NB698_700.out; have hnc12 := NB700_698.out; have hnb13 := NB698_701.out; have hnc13 := NB701_698.out; obtain ⟨⟨hcz14_0, hcz14_1, hcz14_2, hcz14_3, hcz14_4, hcz14_5, hcz14_6, hcz14_7, hcz14_8, hcz14_9, hcz14_10, hcz14_11, hcz14_12, hcz14_13, hcz14_14⟩, hfz14_0, hfz14_1, hfz14_2, hfz14_3, hfz14_4, hfz14_5, hfz14_6, hfz14_7, hfz14_8, hfz14_9, hfz14_10, hfz14_11, hfz14_12, hfz14_13, hfz14_14⟩ := cf15 BK698.out))
 go_loopg [7, 8] k (fun kq v7 v8 w' => ∃ (x7_1 : List (S61)) (x8_1 : Int), v8 = .int .i64 x8_1 ∧ Aside0 (ddiref36_Grant.l0 kq x7_1 x8_1 a0_0 a0_1 a0_2 a0_3 a0_4 a0_5 a0_6 a1_0 a1_1 a1_2 a0_10 a0_11 a0_12 a0_13 l0_14 a2_0 a2_1 a2_2 a2_3 a2_4 l2_5 l2_6 l2_7 a2_8 = some (r1, r2, r3, r4, r5, r6, r7, r8, r9, r10, r11, r12, r13, r14, r15)) ∧ Aside0 (kq ≤ k) ∧ Aside0 (Kd.V k61 61 w' w.heap.size (fun k_ => (P0_14_ k_ ∨ w.heap.size ≤ k_) ∧ k_ ≠ gb698 ∧ k_ ≠ gb699 ∧ k_ ≠ gb700 ∧ k_ ≠ gb701) v7 x7_1) ∧ Aside0 (Kd.V k61 61 w' w.heap.size (fun k_ => (P0_14_ k_ ∨ w.heap.size ≤ k_) ∧ k_ ≠ gb698 ∧ k_ ≠ gb699 ∧ k_ ≠ gb700 ∧ k_ ≠ gb701) (.slice A0_14 l0_14.length c0_14) l0_14) ∧ Aside0 (w'.heap[gb698]? = some (.cells #[.int .i64 a0_0, .int .i64 a0_1, .int .i64 a0_2, .string a0_3, .bool a0_4, .int .u64 a0_5, .int .u64 a0_6, .bool a1_0, .int .u64 a1_1, .int .u64 a1_2, .bool a0_10, .int .u64 a0_11, .int .u64 a0_12, .bool a0_13, (.slice A0_14 l0_14.length c0_14)] 27 (0, 0))) ∧ Aside0 (w'.heap[gb699]? = some (.cells #[.bool a1_0, .int .u64 a1_1, .int .u64 a1_2] 24 (0, 0))) ∧ Aside0 (w'.heap[gb700]? = some (.cells #[.bool a2_0, .int .u64 a2_1, .int .u64 a2_2, .int .i64 a2_3, .string a2_4, (.slice A2_5 l2_5.length c2_5), (.slice A2_6 l2_6.length c2_6), (.slice A2_7 l2_7.length c2_7), .int .i64 a2_8] 53 (0, 0))) ∧ Aside0 (w'.heap[gb701]? = some (.cells #[.int .i64 0, .int .i64 0, .int .i64 0, .string (⟨#[]⟩ : ByteArray), .bool false, .int .u64 0, .int .u64 0, .bool false, .int .u64 0, .int .u64 0, .bool false, .int .u64 0, .int .u64 0, .bool false, (.slice none 0 0)] 27 (0, 0))) ∧ Aside0 (Below w.heap.size w w'))
 case atStart => exact ⟨(l0_14), (0), (by first | rfl | (simp; done) | (simp [*]; done)), H', ⟨Nat.le_refl _⟩, ⟨by (with_reducible repeat (first | apply Kd.V_alloc | apply Kd.V_drewN | apply Kd.V_drew)); exact Kd.V_mono (Kd.V_far (p := ⟨gb698, 9, none⟩) (Kd.V_far (p := ⟨gb698, 8, none⟩) (Kd.V_far (p := ⟨gb698, 7, none⟩) (Kd.V_mono HO0_14.out (fun k_ hk => (⟨hk, hk.1.1.1.2⟩ : _ ∧ k_ ≠ gb698))) (fun _ hk => hk.2) (.bool a1_0)) (fun _ hk => hk.2) (.int .u64 a1_1)) (fun _ hk => hk.2) (.int .u64 a1_2)) (fun _ hk => ⟨hk.1.1.1.1.1, ⟨hk.1.1.1.1.2, ⟨hk.1.1.1.2, ⟨hk.1.1.2, hk.1.2⟩⟩⟩⟩)⟩, ⟨by (with_reducible repeat (first | apply Kd.V_alloc | apply Kd.V_drewN | apply Kd.V_drew)); exact Kd.V_mono (Kd.V_far (p := ⟨gb698, 9, none⟩) (Kd.V_far (p := ⟨gb698, 8, none⟩) (Kd.V_far (p := ⟨gb698, 7, none⟩) (Kd.V_mono HO0_14.out (fun k_ hk => (⟨hk, hk.1.1.1.2⟩ : _ ∧ k_ ≠ gb698))) (fun _ hk => hk.2) (.bool a1_0)) (fun _ hk => hk.2) (.int .u64 a1_1)) (fun _ hk => hk.2) (.int .u64 a1_2)) (fun _ hk => ⟨hk.1.1.1.1.1, ⟨hk.1.1.1.1.2, ⟨hk.1.1.1.2, ⟨hk.1.1.2, hk.1.2⟩⟩⟩⟩)⟩, ⟨by (with_reducible repeat (first | refine blk_drewN ?_ _ | refine blk_drew ?_ | refine blk_alloc ?_ _)); refine blk_put (cs := #[.int .i64 a0_0, .int .i64 a0_1, .int .i64 a0_2, .string a0_3, .bool a0_4, .int .u64 a0_5, .int .u64 a0_6, .bool a1_0, .int .u64 a1_1, .int .u64 a0_9, .bool a0_10, .int .u64 a0_11, .int .u64 a0_12, .bool a0_13, .slice A0_14 l0_14.length c0_14]) ?_ 9 _ rfl; (with_reducible repeat (first | refine blk_drewN ?_ _ | refine blk_drew ?_ | refine blk_alloc ?_ _)); refine blk_put (cs := #[.int .i64 a0_0, .int .i64 a0_1, .int .i64 a0_2, .string a0_3, .bool a0_4, .int .u64 a0_5, .int .u64 a0_6, .bool a1_0, .int .u64 a0_8, .int .u64 a0_9, .bool a0_10, .int .u64 a0_11, .int .u64 a0_12, .bool a0_13, .slice A0_14 l0_14.length c0_14]) ?_ 8 _ rfl; (with_reducible repeat (first | refine blk_drewN ?_ _ | refine blk_drew ?_ | refine blk_alloc ?_ _)); refine blk_put (cs := #[.int .i64 a0_0, .int .i64 a0_1, .int .i64 a0_2, .string a0_3, .bool a0_4, .int .u64 a0_5, .int .u64 a0_6, .bool a0_7, .int .u64 a0_8, .int .u64 a0_9, .bool a0_10, .int .u64 a0_11, .int .u64 a0_12, .bool a0_13, .slice A0_14 l0_14.length c0_14]) ?_ 7 _ rfl; (with_reducible repeat (first | refine blk_drewN ?_ _ | refine blk_drew ?_ | refine blk_alloc ?_ _)); exact BK698.out⟩, ⟨bkx BK699.out⟩, ⟨bkx BK700.out⟩, ⟨bkx BK701.out⟩, ⟨hbx HB.out⟩⟩
 case round =>
  clear H'
  try clear c1
  try clear c2
  try clear p2
  try clear c8
  try clear c9
  try clear c10
  try clear c12
  try clear c13
  try clear hcz11_0 hcz11_1 hcz11_2
  try clear hcz14_0 hcz14_1 hcz14_10 hcz14_11 hcz14_12 hcz14_13 hcz14_14 hcz14_2 hcz14_3 hcz14_4 hcz14_5 hcz14_6 hcz14_7 hcz14_8 hcz14_9
  try clear hfz11_0 hfz11_1 hfz11_2
  try clear hfz14_0 hfz14_1 hfz14_10 hfz14_11 hfz14_12 hfz14_13 hfz14_14 hfz14_2 hfz14_3 hfz14_4 hfz14_5 hfz14_6 hfz14_7 hfz14_8 hfz14_9
  obtain ⟨x7_1, x8_1, rfl, HA, HK1, HO_7, HO_699014, BK698, BK699, BK700, BK701, HB⟩ := hrel
  cases gk with
  | zero => exact absurd HA.out (by simp [ddiref36_Grant.l0])
  | succ k1 =>
   have H := HA.out
   clear HA
   simp only [ddiref36_Grant.l0] at H
   by_cases c15 : x8_1 < (l2_7.length : Int)
   ·rw [if_pos c15] at H
    have c15b0 : decide (x8_1 < (l2_7.length : Int)) = true := decide_eq_true c15
    clear c15
    by_cases c16 : 0 ≤ x8_1
    ·rw [if_pos c16] at H
     have c16b0 : decide (0 ≤ x8_1) = true := decide_eq_true c16
     clear c16
     replace H := Option.bind_eq_some_iff.mp H
     obtain ⟨⟨t703, t704⟩, A170, H⟩ := H
     (try dsimp only at H)
     have A17 := Aside0.mk A170
     clear A170
     by_cases c18 : t704 = true
     ·subst c18
      rw [if_pos rfl] at H
      have H' := Aside0.mk H
      clear H
      have hnb19 := NB700_698.out
      have hnc19 := NB698_700.out
      have hnb20 := NB700_699.out
      have hnc20 := NB699_700.out
      have hnb21 := NB700_701.out
      have hnc21 := NB701_700.out
      obtain ⟨⟨hcz22_0, hcz22_1, hcz22_2, hcz22_3, hcz22_4, hcz22_5, hcz22_6, hcz22_7, hcz22_8⟩, hfz22_0, hfz22_1, hfz22_2, hfz22_3, hfz22_4, hfz22_5, hfz22_6, hfz22_7, hfz22_8⟩ := cf9 BK700.out
      have p702 : 0 ≤ (x8_1 : Int) := of_decide_eq_true (by first | (with_reducible assumption) | assumption)
      have q702 : x8_1 < (l2_7.length : Int) := of_decide_eq_true (by first | (with_reducible assumption) | assumption)
      obtain ⟨ad702, e702, hx702_0, hx702_1⟩ := at_T61 HR2_7.out x8_1 p702 q702
      cases e702
      replace hx702_0 := (HB.out.cell (World.block_lt_of_cell? w _ hx702_0)).trans hx702_0
      replace hx702_1 := (HB.out.cell (World.block_lt_of_cell? w _ hx702_1)).trans hx702_1
      replace p702 := eq_true p702
      replace q702 := eq_true q702
      obtain ⟨Ao23, co23, eo23⟩ := Kd.V_slice HO_7.out
      subst eo23
      go_wp2_with (first | ((with_reducible refine gate_callee (f := 31) rfl ?_); refine goesL_ (some 32) rfl rfl Tryd.func31 (by kernel_rfl) rfl #[.slice Ao23 x7_1.length co23, .int .i64 ((rd_T61 l2_7 x8_1).f0)] rfl (by (try simp only [List.map_toArray, List.map_cons, List.map_nil]); first | done | rfl | (simp only [List.length_drop, List.length_take]; rfl)) ?_; (with_reducible refine (ddiref35_Find.calls k1 _ _ x7_1 ((rd_T61 l2_7 x8_1).f0) t703 true _ ?side1 ?side2 A17.out).mono ?_); (case side1 => repeat (first | exact (Kd.V_reads' HO_7.out).2.2 | (with_reducible refine Kd.C_alloc ?_ _) | (with_reducible refine Kd.C_drewN ?_ _) | (with_reducible refine Kd.C_drew ?_))); (case side2 => exact (Kd.V_reads' HO_7.out).2.1); rintro e w' ⟨rfl, ⟨nd, rfl⟩⟩; refine ⟨_, rfl, ?_⟩))
      go_roundg k1
      case measure => have := HK1.out; omega
      case rel => exact ⟨(x7_1), (wrap64 (x8_1 + 1)), (by first | rfl | (simp; done) | (simp [*]; done)), H', ⟨by have := HK1.out; omega⟩, ⟨by (with_reducible repeat (first | apply Kd.V_alloc | apply Kd.V_drewN | apply Kd.V_drew)); exact HO_7.out⟩, ⟨by (with_reducible repeat (first | apply Kd.V_alloc | apply Kd.V_drewN | apply Kd.V_drew)); exact HO_699014.out⟩, ⟨bkx BK698.out⟩, ⟨bkx BK699.out⟩, ⟨bkx BK700.out⟩, ⟨bkx BK701.out⟩, ⟨hbx HB.out⟩⟩
     ·replace c18 := Bool.eq_false_iff.mpr c18
      subst c18
      rw [if_neg (show ¬ (false = true) by decide)] at H
      replace H := Option.bind_eq_some_iff.mp H
      obtain ⟨t707, A240, H⟩ := H
      (try dsimp only at H)
      have A24 := Aside0.mk A240
      clear A240
      have H' := Aside0.mk H
      clear H
      have hnb25 := NB700_698.out
      have hnc25 := NB698_700.out
      have hnb26 := NB700_699.out
      have hnc26 := NB699_700.out
      have hnb27 := NB700_701.out
      have hnc27 := NB701_700.out
      obtain ⟨⟨hcz28_0, hcz28_1, hcz28_2, hcz28_3, hcz28_4, hcz28_5, hcz28_6, hcz28_7, hcz28_8⟩, hfz28_0, hfz28_1, hfz28_2, hfz28_3, hfz28_4, hfz28_5, hfz28_6, hfz28_7, hfz28_8⟩ := cf9 BK700.out
      have p702 : 0 ≤ (x8_1 : Int) := of_decide_eq_true (by first | (with_reducible assumption) | assumption)
      have q702 : x8_1 < (l2_7.length : Int) := of_decide_eq_true (by first | (with_reducible assumption) | assumption)
      obtain ⟨ad702, e702, hx702_0, hx702_1⟩ := at_T61 HR2_7.out x8_1 p702 q702
      cases e702
      replace hx702_0 := (HB.out.cell (World.block_lt_of_cell? w _ hx702_0)).trans hx702_0
      replace hx702_1 := (HB.out.cell (World.block_lt_of_cell? w _ hx702_1)).trans hx702_1
      replace p702 := eq_true p702
      replace q702 := eq_true q702
      obtain ⟨Ao29, co29, eo29⟩ := Kd.V_slice HO_7.out
      subst eo29
      try go_wp2_with (first | ((with_reducible refine gate_callee (f := 31) rfl ?_); refine goesL_ (some 32) rfl rfl Tryd.func31 (by kernel_rfl) rfl #[.slice Ao29 x7_1.length co29, .int .i64 ((rd_T61 l2_7 x8_1).f0)] rfl (by (try simp only [List.map_toArray, List.map_cons, List.map_nil]); first | done | rfl | (simp only [List.length_drop, List.length_take]; rfl)) ?_; (with_reducible refine (ddiref35_Find.calls k1 _ _ x7_1 ((rd_T61 l2_7 x8_1).f0) t703 false _ ?side1 ?side2 A17.out).mono ?_); (case side1 => repeat (first | exact (Kd.V_reads' HO_7.out).2.2 | (with_reducible refine Kd.C_alloc ?_ _) | (with_reducible refine Kd.C_drewN ?_ _) | (with_reducible refine Kd.C_drew ?_))); (case side2 => exact (Kd.V_reads' HO_7.out).2.1); rintro e w' ⟨rfl, ⟨nd, rfl⟩⟩; refine ⟨_, rfl, ?_⟩))
      (try (rw [drewN_self wr]; generalize hq_ : World.drewN wr _ = wr; have n0_ : Aside0 (Kd.V k61 61 wr w.heap.size (fun k_ => (P0_14_ k_ ∨ w.heap.size ≤ k_) ∧ k_ ≠ gb698 ∧ k_ ≠ gb699 ∧ k_ ≠ gb700 ∧ k_ ≠ gb701) (.slice A0_14 l0_14.length c0_14) l0_14) := ⟨by rw [← hq_]; exact (by (with_reducible repeat (first | apply Kd.V_alloc | apply Kd.V_drewN | apply Kd.V_drew)); exact HO_699014.out)⟩; have n1_ : Aside0 (Kd.V k61 61 wr w.heap.size (fun k_ => (P0_14_ k_ ∨ w.heap.size ≤ k_) ∧ k_ ≠ gb698 ∧ k_ ≠ gb699 ∧ k_ ≠ gb700 ∧ k_ ≠ gb701) (.slice Ao29 x7_1.length co29) x7_1) := ⟨by rw [← hq_]; exact (by (with_reducible repeat (first | apply Kd.V_alloc | apply Kd.V_drewN | apply Kd.V_drew)); exact HO_7.out)⟩; have n2_ : Aside0 (wr.heap[gb698]? = some (.cells #[.int .i64 a0_0, .int .i64 a0_1, .int .i64 a0_2, .string a0_3, .bool a0_4, .int .u64 a0_5, .int .u64 a0_6, .bool a1_0, .int .u64 a1_1, .int .u64 a1_2, .bool a0_10, .int .u64 a0_11, .int .u64 a0_12, .bool a0_13, .slice A0_14 l0_14.length c0_14] 27 (0, 0))) := ⟨by rw [← hq_]; exact (bkx BK698.out)⟩; have n3_ : Aside0 (wr.heap[gb699]? = some (.cells #[.bool a1_0, .int .u64 a1_1, .int .u64 a1_2] 24 (0, 0))) := ⟨by rw [← hq_]; exact (bkx BK699.out)⟩; have n4_ : Aside0 (wr.heap[gb700]? = some (.cells #[.bool a2_0, .int .u64 a2_1, .int .u64 a2_2, .int .i64 a2_3, .string a2_4, .slice A2_5 l2_5.length c2_5, .slice A2_6 l2_6.length c2_6, .slice (some ad702) l2_7.length c2_7, .int .i64 a2_8] 53 (0, 0))) := ⟨by rw [← hq_]; exact (bkx BK700.out)⟩; have n5_ : Aside0 (wr.heap[gb701]? = some (.cells #[.int .i64 0, .int .i64 0, .int .i64 0, .string (⟨#[]⟩ : ByteArray), .bool false, .int .u64 0, .int .u64 0, .bool false, .int .u64 0, .int .u64 0, .bool false, .int .u64 0, .int .u64 0, .bool false, .slice none 0 0] 27 (0, 0))) := ⟨by rw [← hq_]; exact (bkx BK701.out)⟩; have n6_ : Aside0 (Below w.heap.size w wr) := ⟨by rw [← hq_]; exact (hbx HB.out)⟩; clear HO_699014 HO_7 BK698 BK699 BK700 BK701 HB hq_; have HO_699014 := n0_; have HO_7 := n1_; have BK698 := n2_; have BK699 := n3_; have BK700 := n4_; have BK701 := n5_; have HB := n6_; clear n0_ n1_ n2_ n3_ n4_ n5_ n6_))
      have n0_ := Aside0.mk (Kd.V_drew HO_7.out)
      have n1_ := Aside0.mk (Kd.V_drew HO_699014.out)
      have n2_ := Aside0.mk (blk_drew BK698.out)
      have n3_ := Aside0.mk (blk_drew BK699.out)
      have n4_ := Aside0.mk (blk_drew BK700.out)
      have n5_ := Aside0.mk (blk_drew BK701.out)
      have n6_ := Aside0.mk (below_drew1 HB.out)
      clear HO_7
      clear HO_699014
      clear BK698
      clear BK699
      clear BK700
      clear BK701
      clear HB
      have HO_7 := n0_
      have HO_699014 := n1_
      have BK698 := n2_
      have BK699 := n3_
      have BK700 := n4_
      have BK701 := n5_
      have HB := n6_
      clear n0_ n1_ n2_ n3_ n4_ n5_ n6_
      have p705 : 0 ≤ (x8_1 : Int) := of_decide_eq_true (by first | (with_reducible assumption) | assumption)
      have q705 : x8_1 < (l2_7.length : Int) := of_decide_eq_true (by first | (with_reducible assumption) | assumption)
      obtain ⟨ad705, e705, hx705_0, hx705_1⟩ := at_T61 HR2_7.out x8_1 p705 q705
      have hw705_1 := hx705_1
      have hw705_0 := hx705_0
      obtain rfl : ad702 = ad705 := (by injection e705)
      replace hx705_0 := (HB.out.cell (World.block_lt_of_cell? w _ hx705_0)).trans hx705_0
      replace hx705_1 := (HB.out.cell (World.block_lt_of_cell? w _ hx705_1)).trans hx705_1
      replace p705 := eq_true p705
      replace q705 := eq_true q705
      have p706 : 0 ≤ (x8_1 : Int) := of_decide_eq_true (by first | (with_reducible assumption) | assumption)
      have q706 : x8_1 < (l2_7.length : Int) := of_decide_eq_true (by first | (with_reducible assumption) | assumption)
      obtain ⟨ad706, e706, hx706_0, hx706_1⟩ := at_T61 HR2_7.out x8_1 p706 q706
      have hw706_1 := hx706_1
      have hw706_0 := hx706_0
      obtain rfl : ad702 = ad706 := (by injection e706)
      replace hx706_0 := (HB.out.cell (World.block_lt_of_cell? w _ hx706_0)).trans hx706_0
      replace hx706_1 := (HB.out.cell (World.block_lt_of_cell? w _ hx706_1)).trans hx706_1
      replace p706 := eq_true p706
      replace q706 := eq_true q706
      refine start_ (n := 15) (S := fun w' => w'.cell? ⟨gb700, 0, none⟩ = some (.bool a2_0) ∧ w'.cell? ⟨gb700, 1, none⟩ = some (.int .u64 a2_1) ∧ w'.cell? ⟨gb700, 2, none⟩ = some (.int .u64 a2_2) ∧ w'.cell? ⟨gb700, 3, none⟩ = some (.int .i64 a2_3) ∧ w'.cell? ⟨gb700, 4, none⟩ = some (.string a2_4) ∧ w'.cell? ⟨gb700, 5, none⟩ = some (.slice A2_5 l2_5.length c2_5) ∧ w'.cell? ⟨gb700, 6, none⟩ = some (.slice A2_6 l2_6.length c2_6) ∧ w'.cell? ⟨gb700, 7, none⟩ = some (.slice (some ad702) l2_7.length c2_7) ∧ w'.cell? ⟨gb700, 8, none⟩ = some (.int .i64 a2_8) ∧ w'.cell? (ad702.add ((x8_1).toNat * 2)) = some (.int .i64 ((rd_T61 l2_7 x8_1).f0)) ∧ w'.cell? ⟨(ad702.add ((x8_1).toNat * 2)).block, (ad702.add ((x8_1).toNat * 2)).off + 1, none⟩ = some (.string ((rd_T61 l2_7 x8_1).f1)) ∧ w'.cell? (ad702.add ((x8_1).toNat * 2)) = some (.int .i64 ((rd_T61 l2_7 x8_1).f0)) ∧ w'.cell? ⟨(ad702.add ((x8_1).toNat * 2)).block, (ad702.add ((x8_1).toNat * 2)).off + 1, none⟩ = some (.string ((rd_T61 l2_7 x8_1).f1))) (ds := []) #[false, false, false, false, false, false, false, false, false, false, false, false, false, false, false] (by kernel_rfl) rfl rfl ⟨(blk_cell BK700.out 0).trans rfl, (blk_cell BK700.out 1).trans rfl, (blk_cell BK700.out 2).trans rfl, (blk_cell BK700.out 3).trans rfl, (blk_cell BK700.out 4).trans rfl, (blk_cell BK700.out 5).trans rfl, (blk_cell BK700.out 6).trans rfl, (blk_cell BK700.out 7).trans rfl, (blk_cell BK700.out 8).trans rfl, ((HB.out.cell (World.block_lt_of_cell? w _ hw705_0)).trans hw705_0), ((HB.out.cell (World.block_lt_of_cell? w _ hw705_1)).trans hw705_1), ((HB.out.cell (World.block_lt_of_cell? w _ hw706_0)).trans hw706_0), ((HB.out.cell (World.block_lt_of_cell? w _ hw706_1)).trans hw706_1)⟩ (fun hHeld => ?_); refine with_tabW ddiref36_Grant.tab8 ddiref36_Grant.bits8 (fun HT_ HW_ => ?_)
      generalize wr.drew = w30 at HO_7 HO_699014 BK698 BK699 BK700 BK701 HB hx705_0 hx705_1 hx706_0 hx706_1 hHeld ⊢
      refine pu0 (i := 0) (N := some 37) #[true, false, false, false, false, false, false, false, false, false, false, false, false, false, false] rfl rfl (any_of HT_.out (by kernel_rfl)) ?_
      refine pu0 (i := 1) (N := some 38) #[true, true, false, false, false, false, false, false, false, false, false, false, false, false, false] rfl rfl (any_of HT_.out (by kernel_rfl)) ?_
      refine pu0 (i := 3) (N := some 40) #[true, true, false, true, false, false, false, false, false, false, false, false, false, false, false] rfl rfl (any_of HT_.out (by kernel_rfl)) ?_
      refine pu0 (i := 7) (N := some 44) #[true, true, false, true, false, false, false, true, false, false, false, false, false, false, false] rfl rfl (any_of HT_.out (by kernel_rfl)) ?_
      refine pu0 (i := 9) (N := some 46) #[true, true, false, true, false, false, false, true, false, true, false, false, false, false, false] rfl rfl (any_of HT_.out (by kernel_rfl)) ?_
      refine take_ (i := 2) (N := some 39) (v := ?_) (a' := ?_) #[true, true, true, true, false, false, false, true, false, true, false, false, false, false, false] rfl rfl (take_ofW HT_.out HW_.out (by kernel_rfl)) (fun _ _ _ h => h) (Or.inl ⟨by rfl, ?_⟩) hHeld ?_ ?_
      rotate_left
      ·rintro w' ⟨s0, s1, s2, s3, s4, s5, s6, s7, s8, s9, s10, s11, s12⟩
       go_simp
       with_reducible rfl
      rotate_left
      ·simp only [Act.put, List.setIfInBounds_toArray, List.set_cons_zero, List.set_cons_succ, i64_w, i32_w]
       rfl
      refine pu0 (i := 4) (N := some 41) #[true, true, true, true, true, false, false, true, false, true, false, false, false, false, false] rfl rfl (any_of HT_.out (by kernel_rfl)) ?_
      refine pu0 (i := 5) (N := some 42) #[true, true, true, true, true, true, false, true, false, true, false, false, false, false, false] rfl rfl (any_of HT_.out (by kernel_rfl)) ?_
      refine take_ (i := 6) (N := some 43) (v := ?_) (a' := ?_) #[true, true, true, true, true, true, true, true, false, true, false, false, false, false, false] rfl rfl (take_ofW HT_.out HW_.out (by kernel_rfl)) (fun _ _ _ h => h) (Or.inl ⟨by rfl, ?_⟩) hHeld ?_ ?_
      rotate_left
      ·rintro w' ⟨s0, s1, s2, s3, s4, s5, s6, s7, s8, s9, s10, s11, s12⟩
       go_simp
       with_reducible rfl
      rotate_left
      ·simp only [Act.put, List.setIfInBounds_toArray, List.set_cons_zero, List.set_cons_succ, i64_w, i32_w]
       rfl
      refine take_ (i := 8) (N := some 45) (v := ?_) (a' := ?_) #[true, true, true, true, true, true, true, true, true, true, false, false, false, false, false] rfl rfl (take_ofW HT_.out HW_.out (by kernel_rfl)) (fun _ _ _ h => h) (Or.inl ⟨by rfl, ?_⟩) hHeld ?_ ?_
      rotate_left
      ·rintro w' ⟨s0, s1, s2, s3, s4, s5, s6, s7, s8, s9, s10, s11, s12⟩
       go_simp
       with_reducible rfl
      rotate_left
      ·simp only [Act.put, List.setIfInBounds_toArray, List.set_cons_zero, List.set_cons_succ, i64_w, i32_w]
       rfl
      refine pu0 (i := 10) (N := some 47) #[true, true, true, true, true, true, true, true, true, true, true, false, false, false, false] rfl rfl (any_of HT_.out (by kernel_rfl)) ?_
      refine pu0 (i := 11) (N := some 48) #[true, true, true, true, true, true, true, true, true, true, true, true, false, false, false] rfl rfl (any_of HT_.out (by kernel_rfl)) ?_
      refine take_ (i := 12) (N := some 49) (v := ?_) (a' := ?_) #[true, true, true, true, true, true, true, true, true, true, true, true, true, false, false] rfl rfl (take_ofW HT_.out HW_.out (by kernel_rfl)) (fun _ _ _ h => h) (Or.inl ⟨by rfl, ?_⟩) hHeld ?_ ?_
      rotate_left
      ·rintro w' ⟨s0, s1, s2, s3, s4, s5, s6, s7, s8, s9, s10, s11, s12⟩
       go_simp
       with_reducible rfl
      rotate_left
      ·simp only [Act.put, List.setIfInBounds_toArray, List.set_cons_zero, List.set_cons_succ, i64_w, i32_w]
       rfl
      refine one_ (i := 13) (N := some 50) #[true, true, true, true, true, true, true, true, true, true, true, true, true, true, false] rfl rfl (one_of HT_.out (by kernel_rfl)) (by decide) (fun K hK => ?_)
      refine goes_ Tryd.func56 (by kernel_rfl) rfl #[.slice Ao29 x7_1.length co29, .int .i64 ((rd_T61 l2_7 x8_1).f0), .string ((rd_T61 l2_7 x8_1).f1)] (by rfl) rfl rfl (by (try simp only [List.map_toArray, List.map_cons, List.map_nil]); first | done | rfl | (simp only [List.length_drop, List.length_take]; rfl)) ?_
      with_reducible refine (ddiref35_Put.calls k1 _ _ x7_1 ((rd_T61 l2_7 x8_1).f0) ((rd_T61 l2_7 x8_1).f1) t707 _ ?side1 ?side2 A24.out).mono ?_
      (case side1 => repeat (first | exact (Kd.V_reads' HO_7.out).2.2 | (with_reducible refine Kd.C_alloc ?_ _) | (with_reducible refine Kd.C_drewN ?_ _) | (with_reducible refine Kd.C_drew ?_)))
      (case side2 => exact (Kd.V_reads' HO_7.out).2.1)
      rintro e w31 ⟨v708, rfl, ho0, hb⟩
      refine ⟨_, rfl, ?_⟩
      have n0_ := Aside0.mk (Kd.V_elder' (by (with_reducible repeat (first | apply Kd.V_alloc | apply Kd.V_drewN | apply Kd.V_drew)); exact HO_7.out) (Kd.R_base ho0) hb)
      have n1_ := Aside0.mk (Kd.V_elder' (by (with_reducible repeat (first | apply Kd.V_alloc | apply Kd.V_drewN | apply Kd.V_drew)); exact HO_699014.out) (Kd.R_base ho0) hb)
      have n2_ := Aside0.mk (Kd.R_lower (Kd.R_newM (M := fun k_ => (w.heap.size ≤ k_)) ho0 (below_size (hbx HB.out)) (fun k_ h_ => h_)) (below_size (hbx HB.out)))
      have n3_ := Aside0.mk (blk_below (bkx BK698.out) hb)
      have n4_ := Aside0.mk (blk_below (bkx BK699.out) hb)
      have n5_ := Aside0.mk (blk_below (bkx BK700.out) hb)
      have n6_ := Aside0.mk (blk_below (bkx BK701.out) hb)
      have n7_ := Aside0.mk (below_step (hbx HB.out) hb)
      clear HO_7
      clear HO_699014
      clear BK698
      clear BK699
      clear BK700
      clear BK701
      clear HB
      have HO_7 := n0_
      have HO_699014 := n1_
      have HO709 := n2_
      have BK698 := n3_
      have BK699 := n4_
      have BK700 := n5_
      have BK701 := n6_
      have HB := n7_
      clear n0_ n1_ n2_ n3_ n4_ n5_ n6_ n7_
      (try clear hb)
      (try clear hb2)
      (try clear hk)
      (try clear hi)
      (try clear ho0)
      refine hK.out _ _ ⟨(blk_cell BK700.out 0).trans rfl, (blk_cell BK700.out 1).trans rfl, (blk_cell BK700.out 2).trans rfl, (blk_cell BK700.out 3).trans rfl, (blk_cell BK700.out 4).trans rfl, (blk_cell BK700.out 5).trans rfl, (blk_cell BK700.out 6).trans rfl, (blk_cell BK700.out 7).trans rfl, (blk_cell BK700.out 8).trans rfl, ((HB.out.cell (World.block_lt_of_cell? w _ hw705_0)).trans hw705_0), ((HB.out.cell (World.block_lt_of_cell? w _ hw705_1)).trans hw705_1), ((HB.out.cell (World.block_lt_of_cell? w _ hw706_0)).trans hw706_0), ((HB.out.cell (World.block_lt_of_cell? w _ hw706_1)).trans hw706_1)⟩ (fun hHeld => ?_)
      clear hK K
      refine norm_ (a' := ?_) ?_ ?_
      rotate_left
      ·show Act.put _ (some 50) _ = _
       simp only [Act.put, List.setIfInBounds_toArray, List.set_cons_zero, List.set_cons_succ, i64_w, i32_w]
       rfl
      refine pu0 (i := 14) (N := some 7) #[true, true, true, true, true, true, true, true, true, true, true, true, true, true, true] rfl rfl (any_of HT_.out (by kernel_rfl)) ?_
      refine done_ (done_of HT_.out (by kernel_rfl)) ?_
      try go_wp2
      go_roundg k1
      case measure => have := HK1.out; omega
      case rel => exact ⟨(t707), (wrap64 (x8_1 + 1)), (by first | rfl | (simp; done) | (simp [*]; done)), H', ⟨by have := HK1.out; omega⟩, ⟨Kd.V_mono (Kd.R_V (by (with_reducible repeat (first | apply Kd.R_alloc | apply Kd.R_drewN | apply Kd.R_drew)); exact (Kd.R_types (Kd.R_types (Kd.R_types (Kd.R_types HO709.out BK698.out (by decide)) BK699.out (by decide)) BK700.out (by decide)) BK701.out (by decide)))) (fun k_ hk => by first | exact ⟨(.inr (hk.1.1.1.1.1)), ⟨hk.1.1.1.2, ⟨hk.1.1.2, ⟨hk.1.2, hk.2⟩⟩⟩⟩ | exact (.inr ⟨hk.1.1.1.1.1, ⟨hk.1.1.1.2, ⟨hk.1.1.2, ⟨hk.1.2, hk.2⟩⟩⟩⟩))⟩, ⟨by (with_reducible repeat (first | apply Kd.V_alloc | apply Kd.V_drewN | apply Kd.V_drew)); exact Kd.V_mono HO_699014.out (fun _ hk => ⟨hk.1.1, ⟨hk.1.2.1, ⟨hk.1.2.2.1, ⟨hk.1.2.2.2.1, hk.1.2.2.2.2⟩⟩⟩⟩)⟩, ⟨bkx BK698.out⟩, ⟨bkx BK699.out⟩, ⟨bkx BK700.out⟩, ⟨bkx BK701.out⟩, ⟨hbx HB.out⟩⟩
    ·rw [if_neg c16] at H
     exact absurd H (by simp)
   ·rw [if_neg c15] at H
    have c15b0 : decide (x8_1 < (l2_7.length : Int)) = false := decide_eq_false c15
    clear c15
    replace H := Option.bind_eq_some_iff.mp H
    obtain ⟨⟨t710, t711⟩, A320, H⟩ := H
    (try dsimp only at H)
    have A32 := Aside0.mk A320
    clear A320
    have HC33 := Aside0.mk H
    clear H
    have hnb34 := NB700_698.out
    have hnc34 := NB698_700.out
    have hnb35 := NB700_699.out
    have hnc35 := NB699_700.out
    have hnb36 := NB700_701.out
    have hnc36 := NB701_700.out
    obtain ⟨⟨hcz37_0, hcz37_1, hcz37_2, hcz37_3, hcz37_4, hcz37_5, hcz37_6, hcz37_7, hcz37_8⟩, hfz37_0, hfz37_1, hfz37_2, hfz37_3, hfz37_4, hfz37_5, hfz37_6, hfz37_7, hfz37_8⟩ := cf9 BK700.out
    obtain ⟨Ao38, co38, eo38⟩ := Kd.V_slice HO_7.out
    subst eo38
    go_upto_region 10 with (first | ((with_reducible refine gate_callee (f := 31) rfl ?_); refine goesL_ (some 53) rfl rfl Tryd.func31 (by kernel_rfl) rfl #[.slice Ao38 x7_1.length co38, .int .i64 1] rfl (by (try simp only [List.map_toArray, List.map_cons, List.map_nil]); first | done | rfl | (simp only [List.length_drop, List.length_take]; rfl)) ?_; (with_reducible refine (ddiref35_Find.calls k1 _ _ x7_1 1 t710 t711 _ ?side1 ?side2 A32.out).mono ?_); (case side1 => repeat (first | exact (Kd.V_reads' HO_7.out).2.2 | (with_reducible refine Kd.C_alloc ?_ _) | (with_reducible refine Kd.C_drewN ?_ _) | (with_reducible refine Kd.C_drew ?_))); (case side2 => exact (Kd.V_reads' HO_7.out).2.1); rintro e w' ⟨rfl, ⟨nd, rfl⟩⟩; refine ⟨_, rfl, ?_⟩))
    (try simp only [Act.put, List.setIfInBounds_toArray, List.set_cons_zero, List.set_cons_succ])
    go_cut [69] (fun v69 wc => ∃ (kq : Nat) (x69_32 : Bool), v69 = .bool x69_32 ∧ Aside0 (ddiref36_Grant.j1 kq x7_1 x69_32 a0_0 a0_1 a0_2 a0_3 a0_4 a0_5 a0_6 a1_0 a1_1 a1_2 a0_10 a0_11 a0_12 a0_13 l0_14 a2_0 a2_1 a2_2 a2_3 a2_4 l2_5 l2_6 l2_7 a2_8 = some (r1, r2, r3, r4, r5, r6, r7, r8, r9, r10, r11, r12, r13, r14, r15)) ∧ Aside0 (kq ≤ k1) ∧ Aside0 (Kd.V k61 61 wc w.heap.size (fun k_ => (P0_14_ k_ ∨ w.heap.size ≤ k_) ∧ k_ ≠ gb698 ∧ k_ ≠ gb699 ∧ k_ ≠ gb700 ∧ k_ ≠ gb701) (.slice Ao38 x7_1.length co38) x7_1) ∧ Aside0 (Kd.V k61 61 wc w.heap.size (fun k_ => (P0_14_ k_ ∨ w.heap.size ≤ k_) ∧ k_ ≠ gb698 ∧ k_ ≠ gb699 ∧ k_ ≠ gb700 ∧ k_ ≠ gb701) (.slice A0_14 l0_14.length c0_14) l0_14) ∧ Aside0 (wc.heap[gb698]? = some (.cells #[.int .i64 a0_0, .int .i64 a0_1, .int .i64 a0_2, .string a0_3, .bool a0_4, .int .u64 a0_5, .int .u64 a0_6, .bool a1_0, .int .u64 a1_1, .int .u64 a1_2, .bool a0_10, .int .u64 a0_11, .int .u64 a0_12, .bool a0_13, (.slice A0_14 l0_14.length c0_14)] 27 (0, 0))) ∧ Aside0 (wc.heap[gb699]? = some (.cells #[.bool a1_0, .int .u64 a1_1, .int .u64 a1_2] 24 (0, 0))) ∧ Aside0 (wc.heap[gb700]? = some (.cells #[.bool a2_0, .int .u64 a2_1, .int .u64 a2_2, .int .i64 a2_3, .string a2_4, (.slice A2_5 l2_5.length c2_5), (.slice A2_6 l2_6.length c2_6), (.slice A2_7 l2_7.length c2_7), .int .i64 a2_8] 53 (0, 0))) ∧ Aside0 (wc.heap[gb701]? = some (.cells #[.int .i64 0, .int .i64 0, .int .i64 0, .string (⟨#[]⟩ : ByteArray), .bool false, .int .u64 0, .int .u64 0, .bool false, .int .u64 0, .int .u64 0, .bool false, .int .u64 0, .int .u64 0, .bool false, (.slice none 0 0)] 27 (0, 0))) ∧ Aside0 (Below w.heap.size w wc))
    case first =>
     have H := HC33.out
     clear HC33
     by_cases c39 : t711 = true
     ·subst c39
      rw [if_pos rfl] at H
      have H' := Aside0.mk H
      clear H
      go_wp2
      go_meet
      case rel => exact ⟨_, (false), (by first | rfl | (simp; done) | (simp [*]; done)), H', ⟨by have := HK1.out; first | omega | exact Nat.le_refl _⟩, ⟨by (with_reducible repeat (first | apply Kd.V_alloc | apply Kd.V_drewN | apply Kd.V_drew)); exact HO_7.out⟩, ⟨by (with_reducible repeat (first | apply Kd.V_alloc | apply Kd.V_drewN | apply Kd.V_drew)); exact HO_699014.out⟩, ⟨bkx BK698.out⟩, ⟨bkx BK699.out⟩, ⟨bkx BK700.out⟩, ⟨bkx BK701.out⟩, ⟨hbx HB.out⟩⟩
     ·replace c39 := Bool.eq_false_iff.mpr c39
      subst c39
      rw [if_neg (show ¬ (false = true) by decide)] at H
      by_cases c40 : a2_3 ≥ 0
      ·rw [if_pos c40] at H
       have c40b0 : decide (0 ≤ a2_3) = true := decide_eq_true c40
       clear c40
       (first | rw [c40b0] | (simp only [i64_w, i32_w]; rw [c40b0]) | skip)
       have H' := Aside0.mk H
       clear H
       have hnb41 := NB700_698.out
       have hnc41 := NB698_700.out
       have hnb42 := NB700_699.out
       have hnc42 := NB699_700.out
       have hnb43 := NB700_701.out
       have hnc43 := NB701_700.out
       obtain ⟨⟨hcz44_0, hcz44_1, hcz44_2, hcz44_3, hcz44_4, hcz44_5, hcz44_6, hcz44_7, hcz44_8⟩, hfz44_0, hfz44_1, hfz44_2, hfz44_3, hfz44_4, hfz44_5, hfz44_6, hfz44_7, hfz44_8⟩ := cf9 BK700.out
       go_wp2
       go_meet
       case rel => exact ⟨_, (decide (a2_3 ≤ 32)), (by first | rfl | (simp; done) | (simp [*]; done)), H', ⟨by have := HK1.out; first | omega | exact Nat.le_refl _⟩, ⟨by (with_reducible repeat (first | apply Kd.V_alloc | apply Kd.V_drewN | apply Kd.V_drew)); exact HO_7.out⟩, ⟨by (with_reducible repeat (first | apply Kd.V_alloc | apply Kd.V_drewN | apply Kd.V_drew)); exact HO_699014.out⟩, ⟨bkx BK698.out⟩, ⟨bkx BK699.out⟩, ⟨bkx BK700.out⟩, ⟨bkx BK701.out⟩, ⟨hbx HB.out⟩⟩
      ·rw [if_neg c40] at H
       have c40b0 : decide (0 ≤ a2_3) = false := decide_eq_false c40
       clear c40
       (first | rw [c40b0] | (simp only [i64_w, i32_w]; rw [c40b0]) | skip)
       have H' := Aside0.mk H
       clear H
       have hnb45 := NB700_698.out
       have hnc45 := NB698_700.out
       have hnb46 := NB700_699.out
       have hnc46 := NB699_700.out
       have hnb47 := NB700_701.out
       have hnc47 := NB701_700.out
       obtain ⟨⟨hcz48_0, hcz48_1, hcz48_2, hcz48_3, hcz48_4, hcz48_5, hcz48_6, hcz48_7, hcz48_8⟩, hfz48_0, hfz48_1, hfz48_2, hfz48_3, hfz48_4, hfz48_5, hfz48_6, hfz48_7, hfz48_8⟩ := cf9 BK700.out
       go_wp2
       go_meet
       case rel => exact ⟨_, (false), (by first | rfl | (simp; done) | (simp [*]; done)), H', ⟨by have := HK1.out; first | omega | exact Nat.le_refl _⟩, ⟨by (with_reducible repeat (first | apply Kd.V_alloc | apply Kd.V_drewN | apply Kd.V_drew)); exact HO_7.out⟩, ⟨by (with_reducible repeat (first | apply Kd.V_alloc | apply Kd.V_drewN | apply Kd.V_drew)); exact HO_699014.out⟩, ⟨bkx BK698.out⟩, ⟨bkx BK699.out⟩, ⟨bkx BK700.out⟩, ⟨bkx BK701.out⟩, ⟨hbx HB.out⟩⟩
    case rest =>
     clear HC33
     try clear c1
     try clear c2
     try clear p2
     try clear c3
     try clear c4
     try clear c5
     try clear p6
     try clear p7
     try clear q7
     try clear hx7
     try clear c8
     try clear c9
     try clear c10
     try clear c12
     try clear c13
     try clear c15
     try clear c15b0
     try clear c16
     try clear c16b0
     try clear c18
     try clear c19
     try clear c20
     try clear c21
     try clear c25
     try clear c26
     try clear c27
     try clear c31
     try clear c34
     try clear c35
     try clear c36
     try clear c39
     try clear c40
     try clear c40b0
     try clear c41
     try clear c42
     try clear c43
     try clear c45
     try clear c46
     try clear c47
     try clear hcz11_0 hcz11_1 hcz11_2
     try clear hcz14_0 hcz14_1 hcz14_10 hcz14_11 hcz14_12 hcz14_13 hcz14_14 hcz14_2 hcz14_3 hcz14_4 hcz14_5 hcz14_6 hcz14_7 hcz14_8 hcz14_9
     try clear hcz22_0 hcz22_1 hcz22_2 hcz22_3 hcz22_4 hcz22_5 hcz22_6 hcz22_7 hcz22_8
     try clear hcz28_0 hcz28_1 hcz28_2 hcz28_3 hcz28_4 hcz28_5 hcz28_6 hcz28_7 hcz28_8
     try clear hcz37_0 hcz37_1 hcz37_2 hcz37_3 hcz37_4 hcz37_5 hcz37_6 hcz37_7 hcz37_8
     try clear hcz44_0 hcz44_1 hcz44_2 hcz44_3 hcz44_4 hcz44_5 hcz44_6 hcz44_7 hcz44_8
     try clear hcz48_0 hcz48_1 hcz48_2 hcz48_3 hcz48_4 hcz48_5 hcz48_6 hcz48_7 hcz48_8
     try clear hfz11_0 hfz11_1 hfz11_2
     try clear hfz14_0 hfz14_1 hfz14_10 hfz14_11 hfz14_12 hfz14_13 hfz14_14 hfz14_2 hfz14_3 hfz14_4 hfz14_5 hfz14_6 hfz14_7 hfz14_8 hfz14_9
     try clear hfz22_0 hfz22_1 hfz22_2 hfz22_3 hfz22_4 hfz22_5 hfz22_6 hfz22_7 hfz22_8
     try clear hfz28_0 hfz28_1 hfz28_2 hfz28_3 hfz28_4 hfz28_5 hfz28_6 hfz28_7 hfz28_8
     try clear hfz37_0 hfz37_1 hfz37_2 hfz37_3 hfz37_4 hfz37_5 hfz37_6 hfz37_7 hfz37_8
     try clear hfz44_0 hfz44_1 hfz44_2 hfz44_3 hfz44_4 hfz44_5 hfz44_6 hfz44_7 hfz44_8
     try clear hfz48_0 hfz48_1 hfz48_2 hfz48_3 hfz48_4 hfz48_5 hfz48_6 hfz48_7 hfz48_8
     try clear hx702_0
     try clear hx702_1
     try clear hx705_0
     try clear hx705_1
     try clear hx706_0
     try clear hx706_1
     try clear p2
     try clear p702
     try clear p705
     try clear p706
     try clear q702
     try clear q705
     try clear q706
     obtain ⟨kq, x69_32, rfl, HA, HJ32, HO_7, HO_699014, BK698, BK699, BK700, BK701, HB⟩ := hcut
     cases kq with
     | zero => exact absurd HA.out (by simp [ddiref36_Grant.j1])
     | succ kj32 =>
      have H := HA.out
      clear HA
      simp only [ddiref36_Grant.j1] at H
      have HC49 := Aside0.mk H
      clear H
      go_upto_if 69 with (fail)
      go_cut [7] (fun v7 wc => ∃ (kq : Nat) (x7_48 : List (S61)), Aside0 (ddiref36_Grant.j2 kq x7_48 a0_0 a0_1 a0_2 a0_3 a0_4 a0_5 a0_6 a1_0 a1_1 a1_2 a0_10 a0_11 a0_12 a0_13 l0_14 a2_0 a2_1 a2_2 a2_3 a2_4 l2_5 l2_6 l2_7 a2_8 = some (r1, r2, r3, r4, r5, r6, r7, r8, r9, r10, r11, r12, r13, r14, r15)) ∧ Aside0 (kq ≤ kj32) ∧ Aside0 (Kd.V k61 61 wc w.heap.size (fun k_ => (P0_14_ k_ ∨ w.heap.size ≤ k_) ∧ k_ ≠ gb698 ∧ k_ ≠ gb699 ∧ k_ ≠ gb700 ∧ k_ ≠ gb701) v7 x7_48) ∧ Aside0 (Kd.V k61 61 wc w.heap.size (fun k_ => (P0_14_ k_ ∨ w.heap.size ≤ k_) ∧ k_ ≠ gb698 ∧ k_ ≠ gb699 ∧ k_ ≠ gb700 ∧ k_ ≠ gb701) (.slice A0_14 l0_14.length c0_14) l0_14) ∧ Aside0 (wc.heap[gb698]? = some (.cells #[.int .i64 a0_0, .int .i64 a0_1, .int .i64 a0_2, .string a0_3, .bool a0_4, .int .u64 a0_5, .int .u64 a0_6, .bool a1_0, .int .u64 a1_1, .int .u64 a1_2, .bool a0_10, .int .u64 a0_11, .int .u64 a0_12, .bool a0_13, (.slice A0_14 l0_14.length c0_14)] 27 (0, 0))) ∧ Aside0 (wc.heap[gb699]? = some (.cells #[.bool a1_0, .int .u64 a1_1, .int .u64 a1_2] 24 (0, 0))) ∧ Aside0 (wc.heap[gb700]? = some (.cells #[.bool a2_0, .int .u64 a2_1, .int .u64 a2_2, .int .i64 a2_3, .string a2_4, (.slice A2_5 l2_5.length c2_5), (.slice A2_6 l2_6.length c2_6), (.slice A2_7 l2_7.length c2_7), .int .i64 a2_8] 53 (0, 0))) ∧ Aside0 (wc.heap[gb701]? = some (.cells #[.int .i64 0, .int .i64 0, .int .i64 0, .string (⟨#[]⟩ : ByteArray), .bool false, .int .u64 0, .int .u64 0, .bool false, .int .u64 0, .int .u64 0, .bool false, .int .u64 0, .int .u64 0, .bool false, (.slice none 0 0)] 27 (0, 0))) ∧ Aside0 (Below w.heap.size w wc))
      case first =>
       have H := HC49.out
       clear HC49
       by_cases c50 : x69_32 = true
       ·subst c50
        rw [if_pos rfl] at H
        replace H := Option.bind_eq_some_iff.mp H
        obtain ⟨t712, A510, H⟩ := H
        (try dsimp only at H)
        have A51 := Aside0.mk A510
        clear A510
        replace H := Option.bind_eq_some_iff.mp H
        obtain ⟨t713, A520, H⟩ := H
        (try dsimp only at H)
        have A52 := Aside0.mk A520
        clear A520
        have H' := Aside0.mk H
        clear H
        have hnb53 := NB700_698.out
        have hnc53 := NB698_700.out
        have hnb54 := NB700_699.out
        have hnc54 := NB699_700.out
        have hnb55 := NB700_701.out
        have hnc55 := NB701_700.out
        obtain ⟨⟨hcz56_0, hcz56_1, hcz56_2, hcz56_3, hcz56_4, hcz56_5, hcz56_6, hcz56_7, hcz56_8⟩, hfz56_0, hfz56_1, hfz56_2, hfz56_3, hfz56_4, hfz56_5, hfz56_6, hfz56_7, hfz56_8⟩ := cf9 BK700.out
        go_wp2_with (first | ((with_reducible refine gate_callee (f := 57) rfl ?_); refine goesL_ (some 74) rfl rfl Tryd.func57 (by kernel_rfl) rfl #[.int .i64 a2_3] rfl (by (try simp only [List.map_toArray, List.map_cons, List.map_nil]); first | done | rfl | (simp only [List.length_drop, List.length_take]; rfl)) ?_; (with_reducible refine (ddiref36_mask.calls kj32 a2_3 t712 _ A51.out).mono ?_); rintro e w57 ⟨rfl, hb⟩; refine ⟨_, rfl, ?_⟩; have n0_ := Aside0.mk (Kd.V_below (by (with_reducible repeat (first | apply Kd.V_alloc | apply Kd.V_drewN | apply Kd.V_drew)); exact HO_7.out) hb); have n1_ := Aside0.mk (Kd.V_below (by (with_reducible repeat (first | apply Kd.V_alloc | apply Kd.V_drewN | apply Kd.V_drew)); exact HO_699014.out) hb); have n2_ := Aside0.mk (blk_below (bkx BK698.out) hb); have n3_ := Aside0.mk (blk_below (bkx BK699.out) hb); have n4_ := Aside0.mk (blk_below (bkx BK700.out) hb); have n5_ := Aside0.mk (blk_below (bkx BK701.out) hb); have n6_ := Aside0.mk (below_step (hbx HB.out) hb); clear HO_7; clear HO_699014; clear BK698; clear BK699; clear BK700; clear BK701; clear HB; have HO_7 := n0_; have HO_699014 := n1_; have BK698 := n2_; have BK699 := n3_; have BK700 := n4_; have BK701 := n5_; have HB := n6_; clear n0_ n1_ n2_ n3_ n4_ n5_ n6_; (try clear hb); (try clear hb2); (try clear hk); (try clear hi)) | ((with_reducible refine gate_callee (f := 56) rfl ?_); refine goesL_ (some 75) rfl rfl Tryd.func56 (by kernel_rfl) rfl #[.slice Ao38 x7_1.length co38, .int .i64 1, .string t712] rfl (by (try simp only [List.map_toArray, List.map_cons, List.map_nil]); first | done | rfl | (simp only [List.length_drop, List.length_take]; rfl)) ?_; (with_reducible refine (ddiref35_Put.calls kj32 _ _ x7_1 1 t712 t713 _ ?side1 ?side2 A52.out).mono ?_); (case side1 => repeat (first | exact (Kd.V_reads' HO_7.out).2.2 | (with_reducible refine Kd.C_alloc ?_ _) | (with_reducible refine Kd.C_drewN ?_ _) | (with_reducible refine Kd.C_drew ?_))); (case side2 => exact (Kd.V_reads' HO_7.out).2.1); rintro e w58 ⟨v714, rfl, ho0, hb⟩; refine ⟨_, rfl, ?_⟩; have n0_ := Aside0.mk (Kd.V_elder' (by (with_reducible repeat (first | apply Kd.V_alloc | apply Kd.V_drewN | apply Kd.V_drew)); exact HO_7.out) (Kd.R_base ho0) hb); have n1_ := Aside0.mk (Kd.V_elder' (by (with_reducible repeat (first | apply Kd.V_alloc | apply Kd.V_drewN | apply Kd.V_drew)); exact HO_699014.out) (Kd.R_base ho0) hb); have n2_ := Aside0.mk (Kd.R_lower (Kd.R_newM (M := fun k_ => (w.heap.size ≤ k_)) ho0 (below_size (hbx HB.out)) (fun k_ h_ => h_)) (below_size (hbx HB.out))); have n3_ := Aside0.mk (blk_below (bkx BK698.out) hb); have n4_ := Aside0.mk (blk_below (bkx BK699.out) hb); have n5_ := Aside0.mk (blk_below (bkx BK700.out) hb); have n6_ := Aside0.mk (blk_below (bkx BK701.out) hb); have n7_ := Aside0.mk (below_step (hbx HB.out) hb); clear HO_7; clear HO_699014; clear BK698; clear BK699; clear BK700; clear BK701; clear HB; have HO_7 := n0_; have HO_699014 := n1_; have HO715 := n2_; have BK698 := n3_; have BK699 := n4_; have BK700 := n5_; have BK701 := n6_; have HB := n7_; clear n0_ n1_ n2_ n3_ n4_ n5_ n6_ n7_; (try clear hb); (try clear hb2); (try clear hk); (try clear hi); (try clear ho0)))
        go_meet
        case rel => exact ⟨_, (t713), H', ⟨by have := HK1.out; have := HJ32.out; first | omega | exact Nat.le_refl _⟩, ⟨Kd.V_mono (Kd.R_V (by (with_reducible repeat (first | apply Kd.R_alloc | apply Kd.R_drewN | apply Kd.R_drew)); exact (Kd.R_types (Kd.R_types (Kd.R_types (Kd.R_types HO715.out BK698.out (by decide)) BK699.out (by decide)) BK700.out (by decide)) BK701.out (by decide)))) (fun k_ hk => by first | exact ⟨(.inr (hk.1.1.1.1.1)), ⟨hk.1.1.1.2, ⟨hk.1.1.2, ⟨hk.1.2, hk.2⟩⟩⟩⟩ | exact (.inr ⟨hk.1.1.1.1.1, ⟨hk.1.1.1.2, ⟨hk.1.1.2, ⟨hk.1.2, hk.2⟩⟩⟩⟩))⟩, ⟨by (with_reducible repeat (first | apply Kd.V_alloc | apply Kd.V_drewN | apply Kd.V_drew)); exact Kd.V_mono HO_699014.out (fun _ hk => ⟨hk.1.1, ⟨hk.1.2.1, ⟨hk.1.2.2.1, ⟨hk.1.2.2.2.1, hk.1.2.2.2.2⟩⟩⟩⟩)⟩, ⟨bkx BK698.out⟩, ⟨bkx BK699.out⟩, ⟨bkx BK700.out⟩, ⟨bkx BK701.out⟩, ⟨hbx HB.out⟩⟩
       ·replace c50 := Bool.eq_false_iff.mpr c50
        subst c50
        rw [if_neg (show ¬ (false = true) by decide)] at H
        have H' := Aside0.mk H
        clear H
        go_wp2
        go_meet
        case rel => exact ⟨_, (x7_1), H', ⟨by have := HK1.out; have := HJ32.out; first | omega | exact Nat.le_refl _⟩, ⟨by (with_reducible repeat (first | apply Kd.V_alloc | apply Kd.V_drewN | apply Kd.V_drew)); exact HO_7.out⟩, ⟨by (with_reducible repeat (first | apply Kd.V_alloc | apply Kd.V_drewN | apply Kd.V_drew)); exact HO_699014.out⟩, ⟨bkx BK698.out⟩, ⟨bkx BK699.out⟩, ⟨bkx BK700.out⟩, ⟨bkx BK701.out⟩, ⟨hbx HB.out⟩⟩
      case rest =>
       clear HC49
       try clear c1
       try clear c2
       try clear p2
       try clear c3
       try clear c4
       try clear c5
       try clear p6
       try clear p7
       try clear q7
       try clear hx7
       try clear c8
       try clear c9
       try clear c10
       try clear c12
       try clear c13
       try clear c15
       try clear c15b0
       try clear c16
       try clear c16b0
       try clear c18
       try clear c19
       try clear c20
       try clear c21
       try clear c25
       try clear c26
       try clear c27
       try clear c31
       try clear c34
       try clear c35
       try clear c36
       try clear c39
       try clear c40
       try clear c40b0
       try clear c41
       try clear c42
       try clear c43
       try clear c45
       try clear c46
       try clear c47
       try clear c50
       try clear c53
       try clear c54
       try clear c55
       try clear c56
       try clear c57
       try clear hcz11_0 hcz11_1 hcz11_2
       try clear hcz14_0 hcz14_1 hcz14_10 hcz14_11 hcz14_12 hcz14_13 hcz14_14 hcz14_2 hcz14_3 hcz14_4 hcz14_5 hcz14_6 hcz14_7 hcz14_8 hcz14_9
       try clear hcz22_0 hcz22_1 hcz22_2 hcz22_3 hcz22_4 hcz22_5 hcz22_6 hcz22_7 hcz22_8
       try clear hcz28_0 hcz28_1 hcz28_2 hcz28_3 hcz28_4 hcz28_5 hcz28_6 hcz28_7 hcz28_8
       try clear hcz37_0 hcz37_1 hcz37_2 hcz37_3 hcz37_4 hcz37_5 hcz37_6 hcz37_7 hcz37_8
       try clear hcz44_0 hcz44_1 hcz44_2 hcz44_3 hcz44_4 hcz44_5 hcz44_6 hcz44_7 hcz44_8
       try clear hcz48_0 hcz48_1 hcz48_2 hcz48_3 hcz48_4 hcz48_5 hcz48_6 hcz48_7 hcz48_8
       try clear hcz56_0 hcz56_1 hcz56_2 hcz56_3 hcz56_4 hcz56_5 hcz56_6 hcz56_7 hcz56_8
       try clear hfz11_0 hfz11_1 hfz11_2
       try clear hfz14_0 hfz14_1 hfz14_10 hfz14_11 hfz14_12 hfz14_13 hfz14_14 hfz14_2 hfz14_3 hfz14_4 hfz14_5 hfz14_6 hfz14_7 hfz14_8 hfz14_9
       try clear hfz22_0 hfz22_1 hfz22_2 hfz22_3 hfz22_4 hfz22_5 hfz22_6 hfz22_7 hfz22_8
       try clear hfz28_0 hfz28_1 hfz28_2 hfz28_3 hfz28_4 hfz28_5 hfz28_6 hfz28_7 hfz28_8
       try clear hfz37_0 hfz37_1 hfz37_2 hfz37_3 hfz37_4 hfz37_5 hfz37_6 hfz37_7 hfz37_8
       try clear hfz44_0 hfz44_1 hfz44_2 hfz44_3 hfz44_4 hfz44_5 hfz44_6 hfz44_7 hfz44_8
       try clear hfz48_0 hfz48_1 hfz48_2 hfz48_3 hfz48_4 hfz48_5 hfz48_6 hfz48_7 hfz48_8
       try clear hfz56_0 hfz56_1 hfz56_2 hfz56_3 hfz56_4 hfz56_5 hfz56_6 hfz56_7 hfz56_8
       try clear hx702_0
       try clear hx702_1
       try clear hx705_0
       try clear hx705_1
       try clear hx706_0
       try clear hx706_1
       try clear p2
       try clear p6
       try clear p7
       try clear p702
       try clear p705
       try clear p706
       try clear q7
       try clear q702
       try clear q705
       try clear q706
       obtain ⟨kq, x7_48, HA, HJ48, HO_7, HO_699014, BK698, BK699, BK700, BK701, HB⟩ := hcut
       cases kq with
       | zero => exact absurd HA.out (by simp [ddiref36_Grant.j2])
       | succ kj48 =>
        have H := HA.out
        clear HA
        simp only [ddiref36_Grant.j2] at H
        replace H := Option.bind_eq_some_iff.mp H
        obtain ⟨t716, A590, H⟩ := H
        (try dsimp only at H)
        have A59 := Aside0.mk A590
        clear A590
        replace H := Option.bind_eq_some_iff.mp H
        obtain ⟨t719, A600, H⟩ := H
        (try dsimp only at H)
        have A60 := Aside0.mk A600
        clear A600
        replace H := Option.bind_eq_some_iff.mp H
        obtain ⟨t720, A610, H⟩ := H
        (try dsimp only at H)
        have A61 := Aside0.mk A610
        clear A610
        replace H := Option.bind_eq_some_iff.mp H
        obtain ⟨t723, A620, H⟩ := H
        (try dsimp only at H)
        have A62 := Aside0.mk A620
        clear A620
        replace H := Option.bind_eq_some_iff.mp H
        obtain ⟨t724, A630, H⟩ := H
        (try dsimp only at H)
        have A63 := Aside0.mk A630
        clear A630
        simp only [Option.some.injEq, Prod.mk.injEq] at H
        obtain ⟨rfl, rfl, rfl, rfl, rfl, rfl, rfl, rfl, rfl, rfl, rfl, rfl, rfl, rfl, rfl⟩ := H
        have hnb64 := NB700_698.out
        have hnc64 := NB698_700.out
        have hnb65 := NB700_699.out
        have hnc65 := NB699_700.out
        have hnb66 := NB700_701.out
        have hnc66 := NB701_700.out
        obtain ⟨⟨hcz67_0, hcz67_1, hcz67_2, hcz67_3, hcz67_4, hcz67_5, hcz67_6, hcz67_7, hcz67_8⟩, hfz67_0, hfz67_1, hfz67_2, hfz67_3, hfz67_4, hfz67_5, hfz67_6, hfz67_7, hfz67_8⟩ := cf9 BK700.out
        obtain ⟨Ao68, co68, eo68⟩ := Kd.V_slice HO_7.out
        subst eo68
        go_wp2_with (first | ((with_reducible refine gate_callee (f := 58) rfl ?_); refine goesL_ (some 79) rfl rfl Tryd.func58 (by kernel_rfl) rfl #[.slice Ao68 x7_48.length co68, .int .i64 51, .int .i64 a2_8] rfl (by (try simp only [List.map_toArray, List.map_cons, List.map_nil]); first | done | rfl | (simp only [List.length_drop, List.length_take]; rfl)) ?_; (with_reducible refine (ddiref36_put.calls kj48 (fun k_ => ((P0_14_ k_ ∨ w.heap.size ≤ k_) ∧ (k_ ≠ gb698 ∧ (k_ ≠ gb699 ∧ (k_ ≠ gb700 ∧ k_ ≠ gb701))))) _ _ x7_48 51 a2_8 t716 _ ?side1 A59.out).mono ?_); (case side1 => exact HO_7.out); rintro e w69 ⟨v717, rfl, ho0, hb⟩; refine ⟨_, rfl, ?_⟩; have n0_ := Aside0.mk (Kd.V_below (by (with_reducible repeat (first | apply Kd.V_alloc | apply Kd.V_drewN | apply Kd.V_drew)); exact HO_7.out) hb); have n1_ := Aside0.mk (Kd.V_below (by (with_reducible repeat (first | apply Kd.V_alloc | apply Kd.V_drewN | apply Kd.V_drew)); exact HO_699014.out) hb); have n2_ := Aside0.mk (Kd.V_lower (Kd.V_mono (ok' := fun k_ => (P0_14_ k_ ∨ w.heap.size ≤ k_) ∧ k_ ≠ gb698 ∧ k_ ≠ gb699 ∧ k_ ≠ gb700 ∧ k_ ≠ gb701) ho0 (fun k_ hk_ => ⟨Or.elim hk_ (fun hs_ => hs_.1) (fun hn_ => (.inr (Nat.le_trans (below_size (hbx HB.out)) hn_))), Or.elim hk_ (fun hs_ => hs_.2.1) (fun hn_ => (Kd.freshB (g := gb698) (o := .cells #[.int .i64 a0_0, .int .i64 a0_1, .int .i64 a0_2, .string a0_3, .bool a0_4, .int .u64 a0_5, .int .u64 a0_6, .bool a1_0, .int .u64 a1_1, .int .u64 a1_2, .bool a0_10, .int .u64 a0_11, .int .u64 a0_12, .bool a0_13, .slice A0_14 l0_14.length c0_14] 27 (0, 0)) (bkx BK698.out) k_ hn_)), Or.elim hk_ (fun hs_ => hs_.2.2.1) (fun hn_ => (Kd.freshB (g := gb699) (o := .cells #[.bool a1_0, .int .u64 a1_1, .int .u64 a1_2] 24 (0, 0)) (bkx BK699.out) k_ hn_)), Or.elim hk_ (fun hs_ => hs_.2.2.2.1) (fun hn_ => (Kd.freshB (g := gb700) (o := .cells #[.bool a2_0, .int .u64 a2_1, .int .u64 a2_2, .int .i64 a2_3, .string a2_4, .slice A2_5 l2_5.length c2_5, .slice A2_6 l2_6.length c2_6, .slice A2_7 l2_7.length c2_7, .int .i64 a2_8] 53 (0, 0)) (bkx BK700.out) k_ hn_)), Or.elim hk_ (fun hs_ => hs_.2.2.2.2) (fun hn_ => (Kd.freshB (g := gb701) (o := .cells #[.int .i64 0, .int .i64 0, .int .i64 0, .string (⟨#[]⟩ : ByteArray), .bool false, .int .u64 0, .int .u64 0, .bool false, .int .u64 0, .int .u64 0, .bool false, .int .u64 0, .int .u64 0, .bool false, .slice none 0 0] 27 (0, 0)) (bkx BK701.out) k_ hn_))⟩)) (below_size (hbx HB.out))); have n3_ := Aside0.mk (blk_below (bkx BK698.out) hb); have n4_ := Aside0.mk (blk_below (bkx BK699.out) hb); have n5_ := Aside0.mk (blk_below (bkx BK700.out) hb); have n6_ := Aside0.mk (blk_below (bkx BK701.out) hb); have n7_ := Aside0.mk (below_step (hbx HB.out) hb); clear HO_7; clear HO_699014; clear BK698; clear BK699; clear BK700; clear BK701; clear HB; have HO_7 := n0_; have HO_699014 := n1_; have HO718 := n2_; have BK698 := n3_; have BK699 := n4_; have BK700 := n5_; have BK701 := n6_; have HB := n7_; clear n0_ n1_ n2_ n3_ n4_ n5_ n6_ n7_; (try clear hb); (try clear hb2); (try clear hk); (try clear hi); (try clear ho0); obtain ⟨⟨hcz70_0, hcz70_1, hcz70_2, hcz70_3, hcz70_4, hcz70_5, hcz70_6, hcz70_7, hcz70_8⟩, hfz70_0, hfz70_1, hfz70_2, hfz70_3, hfz70_4, hfz70_5, hfz70_6, hfz70_7, hfz70_8⟩ := cf9 BK700.out) | ((with_reducible refine gate_callee (f := 59) rfl ?_); refine goesL_ (some 83) rfl rfl Tryd.func59 (by kernel_rfl) rfl #[.int .i64 a2_8] rfl (by (try simp only [List.map_toArray, List.map_cons, List.map_nil]); first | done | rfl | (simp only [List.length_drop, List.length_take]; rfl)) ?_; (with_reducible refine (ddiref36_half.calls a2_8 t719 _ A60.out).mono ?_); rintro e w' ⟨rfl, ⟨nd, rfl⟩⟩; refine ⟨_, rfl, ?_⟩; (try (rw [drewN_self w69]; generalize hq_ : World.drewN w69 _ = w69; have n0_ : Aside0 (Kd.V k61 61 w69 w.heap.size (fun k_ => (P0_14_ k_ ∨ w.heap.size ≤ k_) ∧ k_ ≠ gb698 ∧ k_ ≠ gb699 ∧ k_ ≠ gb700 ∧ k_ ≠ gb701) v717 t716) := ⟨by rw [← hq_]; exact (by (with_reducible repeat (first | apply Kd.V_alloc | apply Kd.V_drewN | apply Kd.V_drew)); exact HO718.out)⟩; have n1_ : Aside0 (Kd.V k61 61 w69 w.heap.size (fun k_ => (P0_14_ k_ ∨ w.heap.size ≤ k_) ∧ k_ ≠ gb698 ∧ k_ ≠ gb699 ∧ k_ ≠ gb700 ∧ k_ ≠ gb701) (.slice A0_14 l0_14.length c0_14) l0_14) := ⟨by rw [← hq_]; exact (by (with_reducible repeat (first | apply Kd.V_alloc | apply Kd.V_drewN | apply Kd.V_drew)); exact HO_699014.out)⟩; have n2_ : Aside0 (Kd.V k61 61 w69 w.heap.size (fun k_ => (P0_14_ k_ ∨ w.heap.size ≤ k_) ∧ k_ ≠ gb698 ∧ k_ ≠ gb699 ∧ k_ ≠ gb700 ∧ k_ ≠ gb701) (.slice Ao68 x7_48.length co68) x7_48) := ⟨by rw [← hq_]; exact (by (with_reducible repeat (first | apply Kd.V_alloc | apply Kd.V_drewN | apply Kd.V_drew)); exact HO_7.out)⟩; have n3_ : Aside0 (w69.heap[gb698]? = some (.cells #[.int .i64 a0_0, .int .i64 a0_1, .int .i64 a0_2, .string a0_3, .bool a0_4, .int .u64 a0_5, .int .u64 a0_6, .bool a1_0, .int .u64 a1_1, .int .u64 a1_2, .bool a0_10, .int .u64 a0_11, .int .u64 a0_12, .bool a0_13, .slice A0_14 l0_14.length c0_14] 27 (0, 0))) := ⟨by rw [← hq_]; exact (bkx BK698.out)⟩; have n4_ : Aside0 (w69.heap[gb699]? = some (.cells #[.bool a1_0, .int .u64 a1_1, .int .u64 a1_2] 24 (0, 0))) := ⟨by rw [← hq_]; exact (bkx BK699.out)⟩; have n5_ : Aside0 (w69.heap[gb700]? = some (.cells #[.bool a2_0, .int .u64 a2_1, .int .u64 a2_2, .int .i64 a2_3, .string a2_4, .slice A2_5 l2_5.length c2_5, .slice A2_6 l2_6.length c2_6, .slice A2_7 l2_7.length c2_7, .int .i64 a2_8] 53 (0, 0))) := ⟨by rw [← hq_]; exact (bkx BK700.out)⟩; have n6_ : Aside0 (w69.heap[gb701]? = some (.cells #[.int .i64 0, .int .i64 0, .int .i64 0, .string (⟨#[]⟩ : ByteArray), .bool false, .int .u64 0, .int .u64 0, .bool false, .int .u64 0, .int .u64 0, .bool false, .int .u64 0, .int .u64 0, .bool false, .slice none 0 0] 27 (0, 0))) := ⟨by rw [← hq_]; exact (bkx BK701.out)⟩; have n7_ : Aside0 (Below w.heap.size w w69) := ⟨by rw [← hq_]; exact (hbx HB.out)⟩; clear HO718 HO_699014 HO_7 BK698 BK699 BK700 BK701 HB hq_; have HO718 := n0_; have HO_699014 := n1_; have HO_7 := n2_; have BK698 := n3_; have BK699 := n4_; have BK700 := n5_; have BK701 := n6_; have HB := n7_; clear n0_ n1_ n2_ n3_ n4_ n5_ n6_ n7_)); obtain ⟨Ao71, co71, eo71⟩ := Kd.V_slice HO718.out; subst eo71) | ((with_reducible refine gate_callee (f := 58) rfl ?_); refine goesL_ (some 84) rfl rfl Tryd.func58 (by kernel_rfl) rfl #[.slice Ao71 t716.length co71, .int .i64 58, .int .i64 t719] rfl (by (try simp only [List.map_toArray, List.map_cons, List.map_nil]); first | done | rfl | (simp only [List.length_drop, List.length_take]; rfl)) ?_; (with_reducible refine (ddiref36_put.calls kj48 (fun k_ => ((P0_14_ k_ ∨ w.heap.size ≤ k_) ∧ (k_ ≠ gb698 ∧ (k_ ≠ gb699 ∧ (k_ ≠ gb700 ∧ k_ ≠ gb701))))) _ _ t716 58 t719 t720 _ ?side1 A61.out).mono ?_); (case side1 => exact HO718.out); rintro e w72 ⟨v721, rfl, ho0, hb⟩; refine ⟨_, rfl, ?_⟩; have n0_ := Aside0.mk (Kd.V_below (by (with_reducible repeat (first | apply Kd.V_alloc | apply Kd.V_drewN | apply Kd.V_drew)); exact HO_7.out) hb); have n1_ := Aside0.mk (Kd.V_below (by (with_reducible repeat (first | apply Kd.V_alloc | apply Kd.V_drewN | apply Kd.V_drew)); exact HO_699014.out) hb); have n2_ := Aside0.mk (Kd.V_below (by (with_reducible repeat (first | apply Kd.V_alloc | apply Kd.V_drewN | apply Kd.V_drew)); exact HO718.out) hb); have n3_ := Aside0.mk (Kd.V_lower (Kd.V_mono (ok' := fun k_ => (P0_14_ k_ ∨ w.heap.size ≤ k_) ∧ k_ ≠ gb698 ∧ k_ ≠ gb699 ∧ k_ ≠ gb700 ∧ k_ ≠ gb701) ho0 (fun k_ hk_ => ⟨Or.elim hk_ (fun hs_ => hs_.1) (fun hn_ => (.inr (Nat.le_trans (below_size (hbx HB.out)) hn_))), Or.elim hk_ (fun hs_ => hs_.2.1) (fun hn_ => (Kd.freshB (g := gb698) (o := .cells #[.int .i64 a0_0, .int .i64 a0_1, .int .i64 a0_2, .string a0_3, .bool a0_4, .int .u64 a0_5, .int .u64 a0_6, .bool a1_0, .int .u64 a1_1, .int .u64 a1_2, .bool a0_10, .int .u64 a0_11, .int .u64 a0_12, .bool a0_13, .slice A0_14 l0_14.length c0_14] 27 (0, 0)) (bkx BK698.out) k_ hn_)), Or.elim hk_ (fun hs_ => hs_.2.2.1) (fun hn_ => (Kd.freshB (g := gb699) (o := .cells #[.bool a1_0, .int .u64 a1_1, .int .u64 a1_2] 24 (0, 0)) (bkx BK699.out) k_ hn_)), Or.elim hk_ (fun hs_ => hs_.2.2.2.1) (fun hn_ => (Kd.freshB (g := gb700) (o := .cells #[.bool a2_0, .int .u64 a2_1, .int .u64 a2_2, .int .i64 a2_3, .string a2_4, .slice A2_5 l2_5.length c2_5, .slice A2_6 l2_6.length c2_6, .slice A2_7 l2_7.length c2_7, .int .i64 a2_8] 53 (0, 0)) (bkx BK700.out) k_ hn_)), Or.elim hk_ (fun hs_ => hs_.2.2.2.2) (fun hn_ => (Kd.freshB (g := gb701) (o := .cells #[.int .i64 0, .int .i64 0, .int .i64 0, .string (⟨#[]⟩ : ByteArray), .bool false, .int .u64 0, .int .u64 0, .bool false, .int .u64 0, .int .u64 0, .bool false, .int .u64 0, .int .u64 0, .bool false, .slice none 0 0] 27 (0, 0)) (bkx BK701.out) k_ hn_))⟩)) (below_size (hbx HB.out))); have n4_ := Aside0.mk (blk_below (bkx BK698.out) hb); have n5_ := Aside0.mk (blk_below (bkx BK699.out) hb); have n6_ := Aside0.mk (blk_below (bkx BK700.out) hb); have n7_ := Aside0.mk (blk_below (bkx BK701.out) hb); have n8_ := Aside0.mk (below_step (hbx HB.out) hb); clear HO_7; clear HO_699014; clear HO718; clear BK698; clear BK699; clear BK700; clear BK701; clear HB; have HO_7 := n0_; have HO_699014 := n1_; have HO718 := n2_; have HO722 := n3_; have BK698 := n4_; have BK699 := n5_; have BK700 := n6_; have BK701 := n7_; have HB := n8_; clear n0_ n1_ n2_ n3_ n4_ n5_ n6_ n7_ n8_; (try clear hb); (try clear hb2); (try clear hk); (try clear hi); (try clear ho0); obtain ⟨⟨hcz73_0, hcz73_1, hcz73_2, hcz73_3, hcz73_4, hcz73_5, hcz73_6, hcz73_7, hcz73_8⟩, hfz73_0, hfz73_1, hfz73_2, hfz73_3, hfz73_4, hfz73_5, hfz73_6, hfz73_7, hfz73_8⟩ := cf9 BK700.out) | ((with_reducible refine gate_callee (f := 60) rfl ?_); refine goesL_ (some 88) rfl rfl Tryd.func60 (by kernel_rfl) rfl #[.int .i64 a2_8] rfl (by (try simp only [List.map_toArray, List.map_cons, List.map_nil]); first | done | rfl | (simp only [List.length_drop, List.length_take]; rfl)) ?_; (with_reducible refine (ddiref36_eighths.calls a2_8 t723 _ A62.out).mono ?_); rintro e w' ⟨rfl, ⟨nd, rfl⟩⟩; refine ⟨_, rfl, ?_⟩; (try (rw [drewN_self w72]; generalize hq_ : World.drewN w72 _ = w72; have n0_ : Aside0 (Kd.V k61 61 w72 w.heap.size (fun k_ => (P0_14_ k_ ∨ w.heap.size ≤ k_) ∧ k_ ≠ gb698 ∧ k_ ≠ gb699 ∧ k_ ≠ gb700 ∧ k_ ≠ gb701) (.slice Ao71 t716.length co71) t716) := ⟨by rw [← hq_]; exact (by (with_reducible repeat (first | apply Kd.V_alloc | apply Kd.V_drewN | apply Kd.V_drew)); exact HO718.out)⟩; have n1_ : Aside0 (Kd.V k61 61 w72 w.heap.size (fun k_ => (P0_14_ k_ ∨ w.heap.size ≤ k_) ∧ k_ ≠ gb698 ∧ k_ ≠ gb699 ∧ k_ ≠ gb700 ∧ k_ ≠ gb701) v721 t720) := ⟨by rw [← hq_]; exact (by (with_reducible repeat (first | apply Kd.V_alloc | apply Kd.V_drewN | apply Kd.V_drew)); exact HO722.out)⟩; have n2_ : Aside0 (Kd.V k61 61 w72 w.heap.size (fun k_ => (P0_14_ k_ ∨ w.heap.size ≤ k_) ∧ k_ ≠ gb698 ∧ k_ ≠ gb699 ∧ k_ ≠ gb700 ∧ k_ ≠ gb701) (.slice A0_14 l0_14.length c0_14) l0_14) := ⟨by rw [← hq_]; exact (by (with_reducible repeat (first | apply Kd.V_alloc | apply Kd.V_drewN | apply Kd.V_drew)); exact HO_699014.out)⟩; have n3_ : Aside0 (Kd.V k61 61 w72 w.heap.size (fun k_ => (P0_14_ k_ ∨ w.heap.size ≤ k_) ∧ k_ ≠ gb698 ∧ k_ ≠ gb699 ∧ k_ ≠ gb700 ∧ k_ ≠ gb701) (.slice Ao68 x7_48.length co68) x7_48) := ⟨by rw [← hq_]; exact (by (with_reducible repeat (first | apply Kd.V_alloc | apply Kd.V_drewN | apply Kd.V_drew)); exact HO_7.out)⟩; have n4_ : Aside0 (w72.heap[gb698]? = some (.cells #[.int .i64 a0_0, .int .i64 a0_1, .int .i64 a0_2, .string a0_3, .bool a0_4, .int .u64 a0_5, .int .u64 a0_6, .bool a1_0, .int .u64 a1_1, .int .u64 a1_2, .bool a0_10, .int .u64 a0_11, .int .u64 a0_12, .bool a0_13, .slice A0_14 l0_14.length c0_14] 27 (0, 0))) := ⟨by rw [← hq_]; exact (bkx BK698.out)⟩; have n5_ : Aside0 (w72.heap[gb699]? = some (.cells #[.bool a1_0, .int .u64 a1_1, .int .u64 a1_2] 24 (0, 0))) := ⟨by rw [← hq_]; exact (bkx BK699.out)⟩; have n6_ : Aside0 (w72.heap[gb700]? = some (.cells #[.bool a2_0, .int .u64 a2_1, .int .u64 a2_2, .int .i64 a2_3, .string a2_4, .slice A2_5 l2_5.length c2_5, .slice A2_6 l2_6.length c2_6, .slice A2_7 l2_7.length c2_7, .int .i64 a2_8] 53 (0, 0))) := ⟨by rw [← hq_]; exact (bkx BK700.out)⟩; have n7_ : Aside0 (w72.heap[gb701]? = some (.cells #[.int .i64 0, .int .i64 0, .int .i64 0, .string (⟨#[]⟩ : ByteArray), .bool false, .int .u64 0, .int .u64 0, .bool false, .int .u64 0, .int .u64 0, .bool false, .int .u64 0, .int .u64 0, .bool false, .slice none 0 0] 27 (0, 0))) := ⟨by rw [← hq_]; exact (bkx BK701.out)⟩; have n8_ : Aside0 (Below w.heap.size w w72) := ⟨by rw [← hq_]; exact (hbx HB.out)⟩; clear HO718 HO722 HO_699014 HO_7 BK698 BK699 BK700 BK701 HB hq_; have HO718 := n0_; have HO722 := n1_; have HO_699014 := n2_; have HO_7 := n3_; have BK698 := n4_; have BK699 := n5_; have BK700 := n6_; have BK701 := n7_; have HB := n8_; clear n0_ n1_ n2_ n3_ n4_ n5_ n6_ n7_ n8_)); obtain ⟨Ao74, co74, eo74⟩ := Kd.V_slice HO722.out; subst eo74) | ((with_reducible refine gate_callee (f := 58) rfl ?_); refine goesL_ (some 89) rfl rfl Tryd.func58 (by kernel_rfl) rfl #[.slice Ao74 t720.length co74, .int .i64 59, .int .i64 t723] rfl (by (try simp only [List.map_toArray, List.map_cons, List.map_nil]); first | done | rfl | (simp only [List.length_drop, List.length_take]; rfl)) ?_; (with_reducible refine (ddiref36_put.calls kj48 (fun k_ => ((P0_14_ k_ ∨ w.heap.size ≤ k_) ∧ (k_ ≠ gb698 ∧ (k_ ≠ gb699 ∧ (k_ ≠ gb700 ∧ k_ ≠ gb701))))) _ _ t720 59 t723 t724 _ ?side1 A63.out).mono ?_); (case side1 => exact HO722.out); rintro e w75 ⟨v725, rfl, ho0, hb⟩; refine ⟨_, rfl, ?_⟩; have n0_ := Aside0.mk (Kd.V_below (by (with_reducible repeat (first | apply Kd.V_alloc | apply Kd.V_drewN | apply Kd.V_drew)); exact HO_7.out) hb); have n1_ := Aside0.mk (Kd.V_below (by (with_reducible repeat (first | apply Kd.V_alloc | apply Kd.V_drewN | apply Kd.V_drew)); exact HO_699014.out) hb); have n2_ := Aside0.mk (Kd.V_below (by (with_reducible repeat (first | apply Kd.V_alloc | apply Kd.V_drewN | apply Kd.V_drew)); exact HO718.out) hb); have n3_ := Aside0.mk (Kd.V_below (by (with_reducible repeat (first | apply Kd.V_alloc | apply Kd.V_drewN | apply Kd.V_drew)); exact HO722.out) hb); have n4_ := Aside0.mk (Kd.V_lower (Kd.V_mono (ok' := fun k_ => (P0_14_ k_ ∨ w.heap.size ≤ k_) ∧ k_ ≠ gb698 ∧ k_ ≠ gb699 ∧ k_ ≠ gb700 ∧ k_ ≠ gb701) ho0 (fun k_ hk_ => ⟨Or.elim hk_ (fun hs_ => hs_.1) (fun hn_ => (.inr (Nat.le_trans (below_size (hbx HB.out)) hn_))), Or.elim hk_ (fun hs_ => hs_.2.1) (fun hn_ => (Kd.freshB (g := gb698) (o := .cells #[.int .i64 a0_0, .int .i64 a0_1, .int .i64 a0_2, .string a0_3, .bool a0_4, .int .u64 a0_5, .int .u64 a0_6, .bool a1_0, .int .u64 a1_1, .int .u64 a1_2, .bool a0_10, .int .u64 a0_11, .int .u64 a0_12, .bool a0_13, .slice A0_14 l0_14.length c0_14] 27 (0, 0)) (bkx BK698.out) k_ hn_)), Or.elim hk_ (fun hs_ => hs_.2.2.1) (fun hn_ => (Kd.freshB (g := gb699) (o := .cells #[.bool a1_0, .int .u64 a1_1, .int .u64 a1_2] 24 (0, 0)) (bkx BK699.out) k_ hn_)), Or.elim hk_ (fun hs_ => hs_.2.2.2.1) (fun hn_ => (Kd.freshB (g := gb700) (o := .cells #[.bool a2_0, .int .u64 a2_1, .int .u64 a2_2, .int .i64 a2_3, .string a2_4, .slice A2_5 l2_5.length c2_5, .slice A2_6 l2_6.length c2_6, .slice A2_7 l2_7.length c2_7, .int .i64 a2_8] 53 (0, 0)) (bkx BK700.out) k_ hn_)), Or.elim hk_ (fun hs_ => hs_.2.2.2.2) (fun hn_ => (Kd.freshB (g := gb701) (o := .cells #[.int .i64 0, .int .i64 0, .int .i64 0, .string (⟨#[]⟩ : ByteArray), .bool false, .int .u64 0, .int .u64 0, .bool false, .int .u64 0, .int .u64 0, .bool false, .int .u64 0, .int .u64 0, .bool false, .slice none 0 0] 27 (0, 0)) (bkx BK701.out) k_ hn_))⟩)) (below_size (hbx HB.out))); have n5_ := Aside0.mk (blk_below (bkx BK698.out) hb); have n6_ := Aside0.mk (blk_below (bkx BK699.out) hb); have n7_ := Aside0.mk (blk_below (bkx BK700.out) hb); have n8_ := Aside0.mk (blk_below (bkx BK701.out) hb); have n9_ := Aside0.mk (below_step (hbx HB.out) hb); clear HO_7; clear HO_699014; clear HO718; clear HO722; clear BK698; clear BK699; clear BK700; clear BK701; clear HB; have HO_7 := n0_; have HO_699014 := n1_; have HO718 := n2_; have HO722 := n3_; have HO726 := n4_; have BK698 := n5_; have BK699 := n6_; have BK700 := n7_; have BK701 := n8_; have HB := n9_; clear n0_ n1_ n2_ n3_ n4_ n5_ n6_ n7_ n8_ n9_; (try clear hb); (try clear hb2); (try clear hk); (try clear hi); (try clear ho0); obtain ⟨Ao76, co76, eo76⟩ := Kd.V_slice HO726.out; subst eo76; have hnb77 := NB698_699.out; have hnc77 := NB699_698.out; have hnb78 := NB698_701.out; have hnc78 := NB701_698.out; obtain ⟨⟨hcz79_0, hcz79_1, hcz79_2, hcz79_3, hcz79_4, hcz79_5, hcz79_6, hcz79_7, hcz79_8, hcz79_9, hcz79_10, hcz79_11, hcz79_12, hcz79_13, hcz79_14⟩, hfz79_0, hfz79_1, hfz79_2, hfz79_3, hfz79_4, hfz79_5, hfz79_6, hfz79_7, hfz79_8, hfz79_9, hfz79_10, hfz79_11, hfz79_12, hfz79_13, hfz79_14⟩ := cf15 BK698.out; have hnb80 := NB701_699.out; have hnc80 := NB699_701.out; obtain ⟨⟨hcz81_0, hcz81_1, hcz81_2, hcz81_3, hcz81_4, hcz81_5, hcz81_6, hcz81_7, hcz81_8, hcz81_9, hcz81_10, hcz81_11, hcz81_12, hcz81_13, hcz81_14⟩, hfz81_0, hfz81_1, hfz81_2, hfz81_3, hfz81_4, hfz81_5, hfz81_6, hfz81_7, hfz81_8, hfz81_9, hfz81_10, hfz81_11, hfz81_12, hfz81_13, hfz81_14⟩ := cf15 BK701.out))
        refine bodyPost_ret (results_cell_row rfl _ _ gb701 27 #[.int .i64 a0_0, .int .i64 a0_1, .int .i64 a0_2, .string a0_3, .bool a0_4, .int .u64 a0_5, .int .u64 a0_6, .bool a1_0, .int .u64 a1_1, .int .u64 a1_2, .bool a0_10, .int .u64 a0_11, .int .u64 a0_12, .bool a0_13, .slice Ao76 t724.length co76] (0, 0) _ rfl (by (with_reducible repeat (first | refine blk_drewN ?_ _ | refine blk_drew ?_ | refine blk_alloc ?_ _)); refine blk_put (cs := #[.int .i64 a0_0, .int .i64 a0_1, .int .i64 a0_2, .string a0_3, .bool a0_4, .int .u64 a0_5, .int .u64 a0_6, .bool a1_0, .int .u64 a1_1, .int .u64 a1_2, .bool a0_10, .int .u64 a0_11, .int .u64 a0_12, .bool a0_13, .slice none 0 0]) ?_ 14 _ rfl; (with_reducible repeat (first | refine blk_drewN ?_ _ | refine blk_drew ?_ | refine blk_alloc ?_ _)); refine blk_put (cs := #[.int .i64 a0_0, .int .i64 a0_1, .int .i64 a0_2, .string a0_3, .bool a0_4, .int .u64 a0_5, .int .u64 a0_6, .bool a1_0, .int .u64 a1_1, .int .u64 a1_2, .bool a0_10, .int .u64 a0_11, .int .u64 a0_12, .bool false, .slice none 0 0]) ?_ 13 _ rfl; (with_reducible repeat (first | refine blk_drewN ?_ _ | refine blk_drew ?_ | refine blk_alloc ?_ _)); refine blk_put (cs := #[.int .i64 a0_0, .int .i64 a0_1, .int .i64 a0_2, .string a0_3, .bool a0_4, .int .u64 a0_5, .int .u64 a0_6, .bool a1_0, .int .u64 a1_1, .int .u64 a1_2, .bool a0_10, .int .u64 a0_11, .int .u64 0, .bool false, .slice none 0 0]) ?_ 12 _ rfl; (with_reducible repeat (first | refine blk_drewN ?_ _ | refine blk_drew ?_ | refine blk_alloc ?_ _)); refine blk_put (cs := #[.int .i64 a0_0, .int .i64 a0_1, .int .i64 a0_2, .string a0_3, .bool a0_4, .int .u64 a0_5, .int .u64 a0_6, .bool a1_0, .int .u64 a1_1, .int .u64 a1_2, .bool a0_10, .int .u64 0, .int .u64 0, .bool false, .slice none 0 0]) ?_ 11 _ rfl; (with_reducible repeat (first | refine blk_drewN ?_ _ | refine blk_drew ?_ | refine blk_alloc ?_ _)); refine blk_put (cs := #[.int .i64 a0_0, .int .i64 a0_1, .int .i64 a0_2, .string a0_3, .bool a0_4, .int .u64 a0_5, .int .u64 a0_6, .bool a1_0, .int .u64 a1_1, .int .u64 a1_2, .bool false, .int .u64 0, .int .u64 0, .bool false, .slice none 0 0]) ?_ 10 _ rfl; (with_reducible repeat (first | refine blk_drewN ?_ _ | refine blk_drew ?_ | refine blk_alloc ?_ _)); refine blk_put (cs := #[.int .i64 a0_0, .int .i64 a0_1, .int .i64 a0_2, .string a0_3, .bool a0_4, .int .u64 a0_5, .int .u64 a0_6, .bool a1_0, .int .u64 a1_1, .int .u64 0, .bool false, .int .u64 0, .int .u64 0, .bool false, .slice none 0 0]) ?_ 9 _ rfl; (with_reducible repeat (first | refine blk_drewN ?_ _ | refine blk_drew ?_ | refine blk_alloc ?_ _)); refine blk_put (cs := #[.int .i64 a0_0, .int .i64 a0_1, .int .i64 a0_2, .string a0_3, .bool a0_4, .int .u64 a0_5, .int .u64 a0_6, .bool a1_0, .int .u64 0, .int .u64 0, .bool false, .int .u64 0, .int .u64 0, .bool false, .slice none 0 0]) ?_ 8 _ rfl; (with_reducible repeat (first | refine blk_drewN ?_ _ | refine blk_drew ?_ | refine blk_alloc ?_ _)); refine blk_put (cs := #[.int .i64 a0_0, .int .i64 a0_1, .int .i64 a0_2, .string a0_3, .bool a0_4, .int .u64 a0_5, .int .u64 a0_6, .bool false, .int .u64 0, .int .u64 0, .bool false, .int .u64 0, .int .u64 0, .bool false, .slice none 0 0]) ?_ 7 _ rfl; (with_reducible repeat (first | refine blk_drewN ?_ _ | refine blk_drew ?_ | refine blk_alloc ?_ _)); refine blk_put (cs := #[.int .i64 a0_0, .int .i64 a0_1, .int .i64 a0_2, .string a0_3, .bool a0_4, .int .u64 a0_5, .int .u64 0, .bool false, .int .u64 0, .int .u64 0, .bool false, .int .u64 0, .int .u64 0, .bool false, .slice none 0 0]) ?_ 6 _ rfl; (with_reducible repeat (first | refine blk_drewN ?_ _ | refine blk_drew ?_ | refine blk_alloc ?_ _)); refine blk_put (cs := #[.int .i64 a0_0, .int .i64 a0_1, .int .i64 a0_2, .string a0_3, .bool a0_4, .int .u64 0, .int .u64 0, .bool false, .int .u64 0, .int .u64 0, .bool false, .int .u64 0, .int .u64 0, .bool false, .slice none 0 0]) ?_ 5 _ rfl; (with_reducible repeat (first | refine blk_drewN ?_ _ | refine blk_drew ?_ | refine blk_alloc ?_ _)); refine blk_put (cs := #[.int .i64 a0_0, .int .i64 a0_1, .int .i64 a0_2, .string a0_3, .bool false, .int .u64 0, .int .u64 0, .bool false, .int .u64 0, .int .u64 0, .bool false, .int .u64 0, .int .u64 0, .bool false, .slice none 0 0]) ?_ 4 _ rfl; (with_reducible repeat (first | refine blk_drewN ?_ _ | refine blk_drew ?_ | refine blk_alloc ?_ _)); refine blk_put (cs := #[.int .i64 a0_0, .int .i64 a0_1, .int .i64 a0_2, .string (⟨#[]⟩ : ByteArray), .bool false, .int .u64 0, .int .u64 0, .bool false, .int .u64 0, .int .u64 0, .bool false, .int .u64 0, .int .u64 0, .bool false, .slice none 0 0]) ?_ 3 _ rfl; (with_reducible repeat (first | refine blk_drewN ?_ _ | refine blk_drew ?_ | refine blk_alloc ?_ _)); refine blk_put (cs := #[.int .i64 a0_0, .int .i64 a0_1, .int .i64 0, .string (⟨#[]⟩ : ByteArray), .bool false, .int .u64 0, .int .u64 0, .bool false, .int .u64 0, .int .u64 0, .bool false, .int .u64 0, .int .u64 0, .bool false, .slice none 0 0]) ?_ 2 _ rfl; (with_reducible repeat (first | refine blk_drewN ?_ _ | refine blk_drew ?_ | refine blk_alloc ?_ _)); refine blk_put (cs := #[.int .i64 a0_0, .int .i64 0, .int .i64 0, .string (⟨#[]⟩ : ByteArray), .bool false, .int .u64 0, .int .u64 0, .bool false, .int .u64 0, .int .u64 0, .bool false, .int .u64 0, .int .u64 0, .bool false, .slice none 0 0]) ?_ 1 _ rfl; (with_reducible repeat (first | refine blk_drewN ?_ _ | refine blk_drew ?_ | refine blk_alloc ?_ _)); refine blk_put (cs := #[.int .i64 0, .int .i64 0, .int .i64 0, .string (⟨#[]⟩ : ByteArray), .bool false, .int .u64 0, .int .u64 0, .bool false, .int .u64 0, .int .u64 0, .bool false, .int .u64 0, .int .u64 0, .bool false, .slice none 0 0]) ?_ 0 _ rfl; (with_reducible repeat (first | refine blk_drewN ?_ _ | refine blk_drew ?_ | refine blk_alloc ?_ _)); refine blk_far ?_ NB701_698.out _; (with_reducible repeat (first | refine blk_drewN ?_ _ | refine blk_drew ?_ | refine blk_alloc ?_ _)); exact BK701.out) Tryd.underlying27 rfl (by kernel_rfl)) rfl ?_
        exact ⟨_, by first | rfl | (simp [errW_none, errW_some] <;> rfl) | (simp [*, errW_none, errW_some] <;> rfl), by (with_reducible repeat (first | apply Kd.V_alloc | apply Kd.V_drewN | apply Kd.V_drew)); exact Kd.V_mono (Kd.V_far (p := ⟨gb701, 14, none⟩) (Kd.V_far (p := ⟨gb701, 13, none⟩) (Kd.V_far (p := ⟨gb701, 12, none⟩) (Kd.V_far (p := ⟨gb701, 11, none⟩) (Kd.V_far (p := ⟨gb701, 10, none⟩) (Kd.V_far (p := ⟨gb701, 9, none⟩) (Kd.V_far (p := ⟨gb701, 8, none⟩) (Kd.V_far (p := ⟨gb701, 7, none⟩) (Kd.V_far (p := ⟨gb701, 6, none⟩) (Kd.V_far (p := ⟨gb701, 5, none⟩) (Kd.V_far (p := ⟨gb701, 4, none⟩) (Kd.V_far (p := ⟨gb701, 3, none⟩) (Kd.V_far (p := ⟨gb701, 2, none⟩) (Kd.V_far (p := ⟨gb701, 1, none⟩) (Kd.V_far (p := ⟨gb701, 0, none⟩) (Kd.V_far (p := ⟨gb698, 14, none⟩) (Kd.V_mono (Kd.V_mono HO726.out (fun k_ hk => (⟨hk, hk.2.1⟩ : _ ∧ k_ ≠ gb698))) (fun k_ hk => (⟨hk, hk.1.2.2.2.2⟩ : _ ∧ k_ ≠ gb701))) (fun _ hk => hk.1.2) (.slice Ao76 t724.length co76)) (fun _ hk => hk.2) (.int .i64 a0_0)) (fun _ hk => hk.2) (.int .i64 a0_1)) (fun _ hk => hk.2) (.int .i64 a0_2)) (fun _ hk => hk.2) (.string a0_3)) (fun _ hk => hk.2) (.bool a0_4)) (fun _ hk => hk.2) (.int .u64 a0_5)) (fun _ hk => hk.2) (.int .u64 a0_6)) (fun _ hk => hk.2) (.bool a1_0)) (fun _ hk => hk.2) (.int .u64 a1_1)) (fun _ hk => hk.2) (.int .u64 a1_2)) (fun _ hk => hk.2) (.bool a0_10)) (fun _ hk => hk.2) (.int .u64 a0_11)) (fun _ hk => hk.2) (.int .u64 a0_12)) (fun _ hk => hk.2) (.bool a0_13)) (fun _ hk => hk.2) (.slice Ao76 t724.length co76)) (fun _ hk => hk.1.1.1), hbx HB.out⟩

end Go.Proofs.YtcoekgnbncocnaaDoor.Pa


namespace Go.Proofs.YtcoekgnbncocnaaDoor.Pa
open Go.RowKit Go.Proofs.YtcoekgnbncocnaaDoorW.PrintWords Go.Proofs.YtcoekgnbncocnaaDoorW.PrintLast Go.Proofs.YtcoekgnbncocnaaDoorW.PrintMore
attribute [local go_sem] max2_int min2_int max_two min_two max_three min_three max_four min_four   -- for this text's walks alone
set_option linter.unusedVariables false
set_option linter.unusedSimpArgs false

end Go.Proofs.YtcoekgnbncocnaaDoor.Pa


namespace Go.Proofs.YtcoekgnbncocnaaDoor.Pa
open Go.RowKit Go.Proofs.YtcoekgnbncocnaaDoorW.PrintWords Go.Proofs.YtcoekgnbncocnaaDoorW.PrintLast Go.Proofs.YtcoekgnbncocnaaDoorW.PrintMore
attribute [local go_sem] max2_int min2_int max_two min_two max_three min_three max_four min_four   -- for this text's walks alone
set_option linter.unusedVariables false
set_option linter.unusedSimpArgs false

end Go.Proofs.YtcoekgnbncocnaaDoor.Pa


namespace Go.Proofs.YtcoekgnbncocnaaDoor.Pa
open Go.RowKit Go.Proofs.YtcoekgnbncocnaaDoorW.PrintWords Go.Proofs.YtcoekgnbncocnaaDoorW.PrintLast Go.Proofs.YtcoekgnbncocnaaDoorW.PrintMore
attribute [local go_sem] max2_int min2_int max_two min_two max_three min_three max_four min_four   -- for this text's walks alone
set_option linter.unusedVariables false
set_option linter.unusedSimpArgs false

end Go.Proofs.YtcoekgnbncocnaaDoor.Pa


namespace Go.Proofs.YtcoekgnbncocnaaDoor.Pa
open Go.RowKit Go.Proofs.YtcoekgnbncocnaaDoorW.PrintWords Go.Proofs.YtcoekgnbncocnaaDoorW.PrintLast Go.Proofs.YtcoekgnbncocnaaDoorW.PrintMore
attribute [local go_sem] max2_int min2_int max_two min_two max_three min_three max_four min_four   -- for this text's walks alone
set_option linter.unusedVariables false
set_option linter.unusedSimpArgs false

end Go.Proofs.YtcoekgnbncocnaaDoor.Pa


namespace Go.Proofs.YtcoekgnbncocnaaDoor.Pa
open Go.RowKit Go.Proofs.YtcoekgnbncocnaaDoorW.PrintWords Go.Proofs.YtcoekgnbncocnaaDoorW.PrintLast Go.Proofs.YtcoekgnbncocnaaDoorW.PrintMore
attribute [local go_sem] max2_int min2_int max_two min_two max_three min_three max_four min_four   -- for this text's walks alone
set_option linter.unusedVariables false
set_option linter.unusedSimpArgs false

attribute [local go_sem high] eqA24
end Go.Proofs.YtcoekgnbncocnaaDoor.Pa


namespace Go.Proofs.YtcoekgnbncocnaaDoor.Pa
open Go.RowKit Go.Proofs.YtcoekgnbncocnaaDoorW.PrintWords Go.Proofs.YtcoekgnbncocnaaDoorW.PrintLast Go.Proofs.YtcoekgnbncocnaaDoorW.PrintMore
attribute [local go_sem] max2_int min2_int max_two min_two max_three min_three max_four min_four   -- for this text's walks alone
set_option linter.unusedVariables false
set_option linter.unusedSimpArgs false

end Go.Proofs.YtcoekgnbncocnaaDoor.Pa


namespace Go.Proofs.YtcoekgnbncocnaaDoor.Pa
open Go.RowKit Go.Proofs.YtcoekgnbncocnaaDoorW.PrintWords Go.Proofs.YtcoekgnbncocnaaDoorW.PrintLast Go.Proofs.YtcoekgnbncocnaaDoorW.PrintMore
attribute [local go_sem] max2_int min2_int max_two min_two max_three min_three max_four min_four   -- for this text's walks alone
set_option linter.unusedVariables false
set_option linter.unusedSimpArgs false

attribute [local go_sem high] eqA24
end Go.Proofs.YtcoekgnbncocnaaDoor.Pa


namespace Go.Proofs.YtcoekgnbncocnaaDoor.Pa
open Go.RowKit Go.Proofs.YtcoekgnbncocnaaDoorW.PrintWords Go.Proofs.YtcoekgnbncocnaaDoorW.PrintLast Go.Proofs.YtcoekgnbncocnaaDoorW.PrintMore
attribute [local go_sem] max2_int min2_int max_two min_two max_three min_three max_four min_four   -- for this text's walks alone
set_option linter.unusedVariables false
set_option linter.unusedSimpArgs false

end Go.Proofs.YtcoekgnbncocnaaDoor.Pa

