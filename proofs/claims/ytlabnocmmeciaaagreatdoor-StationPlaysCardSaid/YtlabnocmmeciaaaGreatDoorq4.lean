/- Parts of the proof of this claim's statement (joined by a program of this session): Wkb, Msg, Rk1, Rk2, Rk3, Rk4, Rk5, Rk6, Rk7, Rk8, Rk9. -/
import Derived.Test.YtlabnocmmeciaaaGreatDoorq3
import Derived.Test.YtlabnocmmeciaaaGreatDoorq2
import Derived.Test.YtlabnocmmeciaaaGreatDoorq1
set_option linter.unusedVariables false
set_option linter.unusedSimpArgs false
set_option maxRecDepth 100000
set_option maxHeartbeats 8000000
namespace Go.Proofs.YtlabnocmmeciaaaGreatDoor.BQ
open Go RowKit YtlabnocmmeciaaaGreatDoorW.PrintWords YtlabnocmmeciaaaGreatDoorW.PrintLast YtlabnocmmeciaaaGreatDoorW.PrintMore Pa STN
attribute [local go_sem] max2_int min2_int max_two min_two
theorem td2 {x : Int} (h : -4294967296 ≤ x) (h2 : x ≤ 4294967296) : -4294967296 ≤ x.tdiv 2 ∧ x.tdiv 2 ≤ 9223372032559808511 := by
  have hs2 : Int.sign 2 = 1 := rfl
  rw [Int.tdiv_eq_ediv]; split <;> omega
theorem tick_c (s : Stn) (now : Int) (w : World) (hx0 : 0 ≤ s.xid) (hs : 0 ≤ s.se ∧ s.se ≤ 4294967295) (h2 : 0 ≤ s.t2 ∧ s.t2 ≤ 4294967295) (hu : 0 ≤ s.un ∧ s.un ≤ 4294967295) (ht : s.st = 1 ∨ s.st = 2 → 1 ≤ s.tr ∧ s.tr ≤ 4) (hW : ∃ b, option_Value.f 1000 [s.a] = some (wantF s.a, b)) : Calls Tryz.prog 7 #[.agg (stA s), .int .i64 now] w (Ret (tickF s now) w) := by
 have hu26 := Tryz.underlying28
 have hu39 := Tryz.underlying38
 have hu24 := Tryz.underlying26
 obtain ⟨c, h, st, xid, sv, ⟨v6, hi, lo⟩, t1, t2, un, se, at_⟩ := s
 replace hx0 : 0 ≤ xid := hx0
 replace hs : 0 ≤ se ∧ se ≤ 4294967295 := hs
 replace h2 : 0 ≤ t2 ∧ t2 ≤ 4294967295 := h2
 replace hu : 0 ≤ un ∧ un ≤ 4294967295 := hu
 replace ht : st = 1 ∨ st = 2 → 1 ≤ at_ ∧ at_ ≤ 4 := ht
 have hW := Aside0.mk hW
 show Calls Tryz.prog 7 #[.agg (stC c h st xid sv v6 hi lo t1 t2 un se at_), .int .i64 now] w _
 by_cases s0 : st = 0
 · subst s0
   have eF : tickF ⟨c, h, 0, xid, sv, ⟨v6, hi, lo⟩, t1, t2, un, se, at_⟩ now = stepF ⟨c, h, 0, xid, sv, ⟨v6, hi, lo⟩, t1, t2, un, se, at_⟩ 1 0 zA [] 1 1 now := by unfold tickF; exact if_pos rfl
   rw [eF]
   clear eF
   have I := Aside0.mk (Inv.start0 (w0 := w))
   go_enter Tryz.func7, Tryz.ntmps7
   go_wp2_with (first
    | (refine gB rfl ?_; refine bk rfl rfl rfl I ?_; clear I; intro gb w1 I)
    | (refine ak rfl (al_S rfl) I ?_; clear I; intro gb w1 I)
    | (refine gL rfl ?_; refine ll rfl rfl rfl I zm (by first | exact ld_st2 | exact ld_st9 | exact ld_st10 | exact ld_st11 | exact ld_st8 | exact ld_st) ?_)
    | (refine gS rfl ?_; refine sk rfl rfl rfl rfl rfl I zm (by first | exact sr_st) zu ?_; clear I; intro w1 I)
    )
   have IS := Aside0.mk (I.out.sub (.cons _ (.cons_cons _ .slnil))).drew
   refine draw_ (Inv _ w [_] _) [6] kk rfl IS.out ?_
   have I2 := Aside0.mk I.out.drew
   clear I
   have I := I2
   clear I2
   refine ta1 (i := 0) rfl rfl kk rfl rfl IS.out zm (by exact ld_st) ?_ (ha := by (go_simp; rfl))
   refine pu1 (i := 2) rfl rfl kk ?_ (ha := by (go_simp; rfl))
   refine ca1 (i := 1) rfl rfl kk (by decide) Tryz.func27 kk rfl #[] rfl zh ?_
   refine (discover_c _).mono ?_
   rintro e_ w1 ⟨rfl, hb⟩
   have I2 := Aside0.mk (I.out.call hb)
   clear I hb
   have I := I2
   clear I2
   clear IS
   have IS := Aside0.mk ((I.out.imp (fun _ _ => trivial)).sub (.cons _ (.cons_cons _ .slnil)))
   refine ⟨_, rfl, IS.out, ?_⟩
   refine ca1 (i := 3) rfl rfl kk (by decide) Tryz.func26 kk rfl #[.agg (stC c h 0 xid sv v6 hi lo t1 t2 un se at_), .agg (pkC 1 0 0 (⟨#[]⟩ : ByteArray) false 0 0 false 0 0 false 0 0 false (.slice none 0 0)), .int .i64 (1), .int .i64 (1), .int .i64 now] rfl zh ?_
   refine (step_c ⟨c, h, 0, xid, sv, ⟨v6, hi, lo⟩, t1, t2, un, se, at_⟩ 1 0 zA none 0 [] (fun _ => False) (1) (1) now _ hx0 (foot_no _ none 0) (Nat.le_refl _) okO_nil).mono ?_
   rintro e_ w1 ⟨v, rfl, hf, hb⟩
   have I2 := Aside0.mk (I.out.addNew hb hf (fun k hk _ => hk.elim False.elim (fun h_ => I.out.new_out k h_)))
   clear hf
   clear I hb
   have I := I2
   clear I2
   clear IS
   have IS := Aside0.mk ((I.out.imp (fun _ _ => trivial)).sub (.cons _ (.cons_cons _ .slnil)))
   refine ⟨_, rfl, IS.out, ?_⟩
   refine pu1 (i := 4) rfl rfl kk ?_ (ha := by (go_simp; rfl))
   refine pu1 (i := 5) rfl rfl kk ?_ (ha := by (go_simp; rfl))
   refine sl1 (i := 6) rfl rfl kk (by decide) rfl rfl rfl I.out zm (by first | exact sr_st) zu (fun w1 hI => ?_)
   clear I
   have I := Aside0.mk hI
   clear hI
   refine pu1 (i := 7) rfl rfl kk ?_ (ha := by (go_simp; rfl))
   refine do1 kk ?_
   clear IS
   try go_wp2
   refine bodyPost_ret (ret_ct rfl _ I.out _ rfl zm Tryz.underlying28 rfl kk) rfl ?_
   exact ⟨_, rfl, foot_new (I.out.foot.imp (fun W hW => hW.2)), I.out.below⟩
 by_cases s1 : st = 1
 · subst s1
   have eF : tickF ⟨c, h, 1, xid, sv, ⟨v6, hi, lo⟩, t1, t2, un, se, at_⟩ now = askF ⟨c, h, 1, xid, sv, ⟨v6, hi, lo⟩, t1, t2, un, se, at_⟩ now := by unfold tickF; exact (if_neg (show ¬ (1 : Int) = 0 by decide)).trans (if_pos (.inl rfl))
   rw [eF]
   clear eF
   have I := Aside0.mk (Inv.start0 (w0 := w))
   go_enter Tryz.func7, Tryz.ntmps7
   go_wp2_with (first
    | (refine gB rfl ?_; refine bk rfl rfl rfl I ?_; clear I; intro gb w1 I)
    | (refine ak rfl (al_S rfl) I ?_; clear I; intro gb w1 I)
    | (refine gL rfl ?_; refine ll rfl rfl rfl I zm (by first | exact ld_st2 | exact ld_st9 | exact ld_st10 | exact ld_st11 | exact ld_st8 | exact ld_st) ?_)
    | (refine gD 23 rfl ?_; refine ck rfl Tryz.func28 kk rfl #[.agg (stC c h 1 xid sv v6 hi lo t1 t2 un se at_), .int .i64 now] rfl zh (asking_c ⟨c, h, 1, xid, sv, ⟨v6, hi, lo⟩, t1, t2, un, se, at_⟩ now _ hx0 hs (ht (.inl rfl)) hW.out) ?_; rintro e_ w1 ⟨v, rfl, hf, hb⟩; refine ⟨_, rfl, ?_⟩; replace I := addK I hb hf; clear hb hf)
    | (refine gS rfl ?_; refine sk rfl rfl rfl rfl rfl I zm (by first | exact sr_st) zu ?_; clear I; intro w1 I)
    )
   refine bodyPost_ret (ret_ct rfl _ I.out _ rfl zm Tryz.underlying28 rfl kk) rfl ?_
   exact ⟨_, rfl, foot_new (I.out.foot.imp (fun W hW => hW.2)), I.out.below⟩
 by_cases s2 : st = 2
 · subst s2
   have eF : tickF ⟨c, h, 2, xid, sv, ⟨v6, hi, lo⟩, t1, t2, un, se, at_⟩ now = askF ⟨c, h, 2, xid, sv, ⟨v6, hi, lo⟩, t1, t2, un, se, at_⟩ now := by unfold tickF; exact (if_neg (show ¬ (2 : Int) = 0 by decide)).trans (if_pos (.inr rfl))
   rw [eF]
   clear eF
   have I := Aside0.mk (Inv.start0 (w0 := w))
   go_enter Tryz.func7, Tryz.ntmps7
   go_wp2_with (first
    | (refine gB rfl ?_; refine bk rfl rfl rfl I ?_; clear I; intro gb w1 I)
    | (refine ak rfl (al_S rfl) I ?_; clear I; intro gb w1 I)
    | (refine gL rfl ?_; refine ll rfl rfl rfl I zm (by first | exact ld_st2 | exact ld_st9 | exact ld_st10 | exact ld_st11 | exact ld_st8 | exact ld_st) ?_)
    | (refine gD 23 rfl ?_; refine ck rfl Tryz.func28 kk rfl #[.agg (stC c h 2 xid sv v6 hi lo t1 t2 un se at_), .int .i64 now] rfl zh (asking_c ⟨c, h, 2, xid, sv, ⟨v6, hi, lo⟩, t1, t2, un, se, at_⟩ now _ hx0 hs (ht (.inr rfl)) hW.out) ?_; rintro e_ w1 ⟨v, rfl, hf, hb⟩; refine ⟨_, rfl, ?_⟩; replace I := addK I hb hf; clear hb hf)
    | (refine gS rfl ?_; refine sk rfl rfl rfl rfl rfl I zm (by first | exact sr_st) zu ?_; clear I; intro w1 I)
    )
   refine bodyPost_ret (ret_ct rfl _ I.out _ rfl zm Tryz.underlying28 rfl kk) rfl ?_
   exact ⟨_, rfl, foot_new (I.out.foot.imp (fun W hW => hW.2)), I.out.below⟩
 clear ht
 have e12 : ¬ (st = 1 ∨ st = 2) := fun hq => hq.elim s1 s2
 have b0 : (st == 0) = false := beq_eq_false_iff_ne.mpr s0
 have b1 : (st == 1) = false := beq_eq_false_iff_ne.mpr s1
 have b2 : (st == 2) = false := beq_eq_false_iff_ne.mpr s2
 by_cases hn : un ≤ now
 · have e1 : decide (un ≤ now) = true := decide_eq_true hn
   by_cases s5 : st = 5
   · subst s5
     by_cases hm : 60 < (un - se).tdiv 2
     · have m1 : decide (60 < (un - se).tdiv 2) = true := decide_eq_true hm
       have em : max 60 ((un - se).tdiv 2) = (un - se).tdiv 2 := by omega
       have hd := td2 (x := un - se) (by omega) (by omega)
       have eF : tickF ⟨c, h, 5, xid, sv, ⟨v6, hi, lo⟩, t1, t2, un, se, at_⟩ now = (initF ⟨c, h, 5, xid, sv, ⟨v6, hi, lo⟩, t1, t2, un, se, at_⟩, []) := by unfold tickF; exact (if_neg (show ¬ (5 : Int) = 0 by decide)).trans ((if_neg (fun hq => hq.elim (show ¬ (5 : Int) = 1 by decide) (show ¬ (5 : Int) = 2 by decide))).trans (if_pos hn))
       rw [eF]
       clear eF
       have I := Aside0.mk (Inv.start0 (w0 := w))
       go_enter Tryz.func7, Tryz.ntmps7
       go_wp2_with (first
        | (refine gB rfl ?_; refine bk rfl rfl rfl I ?_; clear I; intro gb w1 I)
        | (refine ak rfl (al_S rfl) I ?_; clear I; intro gb w1 I)
        | (refine gL rfl ?_; refine ll rfl rfl rfl I zm (by first | exact ld_st2 | exact ld_st9 | exact ld_st10 | exact ld_st11 | exact ld_st8 | exact ld_st) ?_)
        | (refine gD 42 rfl ?_; refine ck rfl Tryz.func29 kk rfl #[.int .i64 se, .int .i64 ((un - se).tdiv 2)] rfl zh (after_c se ((un - se).tdiv 2) _ hs.1 hs.2 hd.1 hd.2) ?_; rintro e_ w1 ⟨rfl, rfl⟩; refine ⟨_, rfl, ?_⟩; skip)
        | (refine gD 50 rfl ?_; refine ck rfl Tryz.func30 kk rfl #[.agg (stC c h 5 xid sv v6 hi lo t1 t2 un se at_)] rfl zh (initial_c c h 5 xid sv v6 hi lo t1 t2 un se at_ _) ?_; rintro e_ w1 ⟨rfl, hb⟩; refine ⟨_, rfl, ?_⟩; replace I := callK I hb; clear hb)
        | (refine gS rfl ?_; refine sk rfl rfl rfl rfl rfl I zm (by first | exact sr_st) zu ?_; clear I; intro w1 I)
        )
       refine bodyPost_ret (ret_ct rfl _ I.out _ rfl zm Tryz.underlying28 rfl kk) rfl ?_
       exact ⟨_, rfl, Pks_nil _ _, I.out.below⟩
     have m1 : decide (60 < (un - se).tdiv 2) = false := decide_eq_false hm
     replace hm : (un - se).tdiv 2 ≤ 60 := by omega
     have em : max 60 ((un - se).tdiv 2) = 60 := by omega
     have eF : tickF ⟨c, h, 5, xid, sv, ⟨v6, hi, lo⟩, t1, t2, un, se, at_⟩ now = (initF ⟨c, h, 5, xid, sv, ⟨v6, hi, lo⟩, t1, t2, un, se, at_⟩, []) := by unfold tickF; exact (if_neg (show ¬ (5 : Int) = 0 by decide)).trans ((if_neg (fun hq => hq.elim (show ¬ (5 : Int) = 1 by decide) (show ¬ (5 : Int) = 2 by decide))).trans (if_pos hn))
     rw [eF]
     clear eF
     have I := Aside0.mk (Inv.start0 (w0 := w))
     go_enter Tryz.func7, Tryz.ntmps7
     go_wp2_with (first
      | (refine gB rfl ?_; refine bk rfl rfl rfl I ?_; clear I; intro gb w1 I)
      | (refine ak rfl (al_S rfl) I ?_; clear I; intro gb w1 I)
      | (refine gL rfl ?_; refine ll rfl rfl rfl I zm (by first | exact ld_st2 | exact ld_st9 | exact ld_st10 | exact ld_st11 | exact ld_st8 | exact ld_st) ?_)
      | (refine gD 42 rfl ?_; refine ck rfl Tryz.func29 kk rfl #[.int .i64 se, .int .i64 (60)] rfl zh (after_c se (60) _ hs.1 hs.2 (by decide) (by decide)) ?_; rintro e_ w1 ⟨rfl, rfl⟩; refine ⟨_, rfl, ?_⟩; skip)
      | (refine gD 50 rfl ?_; refine ck rfl Tryz.func30 kk rfl #[.agg (stC c h 5 xid sv v6 hi lo t1 t2 un se at_)] rfl zh (initial_c c h 5 xid sv v6 hi lo t1 t2 un se at_ _) ?_; rintro e_ w1 ⟨rfl, hb⟩; refine ⟨_, rfl, ?_⟩; replace I := callK I hb; clear hb)
      | (refine gS rfl ?_; refine sk rfl rfl rfl rfl rfl I zm (by first | exact sr_st) zu ?_; clear I; intro w1 I)
      )
     refine bodyPost_ret (ret_ct rfl _ I.out _ rfl zm Tryz.underlying28 rfl kk) rfl ?_
     exact ⟨_, rfl, Pks_nil _ _, I.out.below⟩
   have b5 : (st == 5) = false := beq_eq_false_iff_ne.mpr s5
   by_cases hm : 60 < (t2 - se).tdiv 2
   · have m1 : decide (60 < (t2 - se).tdiv 2) = true := decide_eq_true hm
     have em : max 60 ((t2 - se).tdiv 2) = (t2 - se).tdiv 2 := by omega
     have hd := td2 (x := t2 - se) (by omega) (by omega)
     have eF : tickF ⟨c, h, st, xid, sv, ⟨v6, hi, lo⟩, t1, t2, un, se, at_⟩ now = (initF ⟨c, h, st, xid, sv, ⟨v6, hi, lo⟩, t1, t2, un, se, at_⟩, []) := by unfold tickF; exact (if_neg s0).trans ((if_neg e12).trans (if_pos hn))
     rw [eF]
     clear eF
     have I := Aside0.mk (Inv.start0 (w0 := w))
     go_enter Tryz.func7, Tryz.ntmps7
     go_wp2_with (first
      | (refine gB rfl ?_; refine bk rfl rfl rfl I ?_; clear I; intro gb w1 I)
      | (refine ak rfl (al_S rfl) I ?_; clear I; intro gb w1 I)
      | (refine gL rfl ?_; refine ll rfl rfl rfl I zm (by first | exact ld_st2 | exact ld_st9 | exact ld_st10 | exact ld_st11 | exact ld_st8 | exact ld_st) ?_)
      | (refine gD 42 rfl ?_; refine ck rfl Tryz.func29 kk rfl #[.int .i64 se, .int .i64 ((t2 - se).tdiv 2)] rfl zh (after_c se ((t2 - se).tdiv 2) _ hs.1 hs.2 hd.1 hd.2) ?_; rintro e_ w1 ⟨rfl, rfl⟩; refine ⟨_, rfl, ?_⟩; skip)
      | (refine gD 50 rfl ?_; refine ck rfl Tryz.func30 kk rfl #[.agg (stC c h st xid sv v6 hi lo t1 t2 un se at_)] rfl zh (initial_c c h st xid sv v6 hi lo t1 t2 un se at_ _) ?_; rintro e_ w1 ⟨rfl, hb⟩; refine ⟨_, rfl, ?_⟩; replace I := callK I hb; clear hb)
      | (refine gS rfl ?_; refine sk rfl rfl rfl rfl rfl I zm (by first | exact sr_st) zu ?_; clear I; intro w1 I)
      )
     refine bodyPost_ret (ret_ct rfl _ I.out _ rfl zm Tryz.underlying28 rfl kk) rfl ?_
     exact ⟨_, rfl, Pks_nil _ _, I.out.below⟩
   have m1 : decide (60 < (t2 - se).tdiv 2) = false := decide_eq_false hm
   replace hm : (t2 - se).tdiv 2 ≤ 60 := by omega
   have em : max 60 ((t2 - se).tdiv 2) = 60 := by omega
   have eF : tickF ⟨c, h, st, xid, sv, ⟨v6, hi, lo⟩, t1, t2, un, se, at_⟩ now = (initF ⟨c, h, st, xid, sv, ⟨v6, hi, lo⟩, t1, t2, un, se, at_⟩, []) := by unfold tickF; exact (if_neg s0).trans ((if_neg e12).trans (if_pos hn))
   rw [eF]
   clear eF
   have I := Aside0.mk (Inv.start0 (w0 := w))
   go_enter Tryz.func7, Tryz.ntmps7
   go_wp2_with (first
    | (refine gB rfl ?_; refine bk rfl rfl rfl I ?_; clear I; intro gb w1 I)
    | (refine ak rfl (al_S rfl) I ?_; clear I; intro gb w1 I)
    | (refine gL rfl ?_; refine ll rfl rfl rfl I zm (by first | exact ld_st2 | exact ld_st9 | exact ld_st10 | exact ld_st11 | exact ld_st8 | exact ld_st) ?_)
    | (refine gD 42 rfl ?_; refine ck rfl Tryz.func29 kk rfl #[.int .i64 se, .int .i64 (60)] rfl zh (after_c se (60) _ hs.1 hs.2 (by decide) (by decide)) ?_; rintro e_ w1 ⟨rfl, rfl⟩; refine ⟨_, rfl, ?_⟩; skip)
    | (refine gD 50 rfl ?_; refine ck rfl Tryz.func30 kk rfl #[.agg (stC c h st xid sv v6 hi lo t1 t2 un se at_)] rfl zh (initial_c c h st xid sv v6 hi lo t1 t2 un se at_ _) ?_; rintro e_ w1 ⟨rfl, hb⟩; refine ⟨_, rfl, ?_⟩; replace I := callK I hb; clear hb)
    | (refine gS rfl ?_; refine sk rfl rfl rfl rfl rfl I zm (by first | exact sr_st) zu ?_; clear I; intro w1 I)
    )
   refine bodyPost_ret (ret_ct rfl _ I.out _ rfl zm Tryz.underlying28 rfl kk) rfl ?_
   exact ⟨_, rfl, Pks_nil _ _, I.out.below⟩
 have e1 : decide (un ≤ now) = false := decide_eq_false hn
 by_cases s5 : st = 5
 · subst s5
   by_cases ha : (min (se + max 60 ((un - se).tdiv 2)) 4294967295 ≤ now)
   ·
     by_cases hm : 60 < (un - se).tdiv 2
     · have m1 : decide (60 < (un - se).tdiv 2) = true := decide_eq_true hm
       have em : max 60 ((un - se).tdiv 2) = (un - se).tdiv 2 := by omega
       have hd := td2 (x := un - se) (by omega) (by omega)
       have eF : tickF ⟨c, h, 5, xid, sv, ⟨v6, hi, lo⟩, t1, t2, un, se, at_⟩ now = stepF ⟨c, h, 5, xid, sv, ⟨v6, hi, lo⟩, t1, t2, un, se, at_⟩ 3 0 ⟨v6, hi, lo⟩ [] 5 at_ now := by unfold tickF; exact (if_neg (show ¬ (5 : Int) = 0 by decide)).trans ((if_neg (fun hq => hq.elim (show ¬ (5 : Int) = 1 by decide) (show ¬ (5 : Int) = 2 by decide))).trans ((if_neg hn).trans ((if_neg (fun hq => hq.1 rfl)).trans ((if_neg (fun hq => absurd hq.1 (show ¬ (5 : Int) = 3 by decide))).trans ((if_neg (fun hq => absurd hq.1 (show ¬ (5 : Int) = 4 by decide))).trans (if_pos ⟨rfl, ha⟩))))))
       rw [eF]
       clear eF
       have ag : decide (min (se + (un - se).tdiv 2) 4294967295 ≤ now) = true := by rw [em] at ha; exact decide_eq_true ha
       clear ha
       have I := Aside0.mk (Inv.start0 (w0 := w))
       go_enter Tryz.func7, Tryz.ntmps7
       go_wp2_with (first
        | (refine gB rfl ?_; refine bk rfl rfl rfl I ?_; clear I; intro gb w1 I)
        | (refine ak rfl (al_S rfl) I ?_; clear I; intro gb w1 I)
        | (refine gL rfl ?_; refine ll rfl rfl rfl I zm (by first | exact ld_st2 | exact ld_st9 | exact ld_st10 | exact ld_st11 | exact ld_st8 | exact ld_st) ?_)
        | (refine gD 42 rfl ?_; refine ck rfl Tryz.func29 kk rfl #[.int .i64 se, .int .i64 ((un - se).tdiv 2)] rfl zh (after_c se ((un - se).tdiv 2) _ hs.1 hs.2 hd.1 hd.2) ?_; rintro e_ w1 ⟨rfl, rfl⟩; refine ⟨_, rfl, ?_⟩; skip)
        | (refine gS rfl ?_; refine sk rfl rfl rfl rfl rfl I zm (by first | exact sr_st) zu ?_; clear I; intro w1 I)
        )
       have IS := Aside0.mk (I.out.sub (.cons _ (.cons_cons _ .slnil))).drew
       refine draw_ (Inv _ w [_] _) [9] kk rfl IS.out ?_
       have I2 := Aside0.mk I.out.drew
       clear I
       have I := I2
       clear I2
       refine ta1 (i := 0) rfl rfl kk rfl rfl IS.out zm (by exact ld_st) ?_ (ha := by (go_simp; rfl))
       refine ta1 (i := 1) rfl rfl kk rfl rfl IS.out zm (by exact ld_st) ?_ (ha := by (go_simp; rfl))
       refine pu1 (i := 3) rfl rfl kk ?_ (ha := by (go_simp; rfl))
       refine ta1 (i := 4) rfl rfl kk rfl rfl IS.out zm (by exact ld_st12) ?_ (ha := by (go_simp; rfl))
       refine pu1 (i := 5) rfl rfl kk ?_ (ha := by (go_simp; rfl))
       refine ca1 (i := 2) rfl rfl kk (by decide) Tryz.func31 kk rfl #[.agg (stC c h 5 xid sv v6 hi lo t1 t2 un se at_), .bool true] rfl zh ?_
       refine (renewal_c c h 5 xid sv v6 hi lo t1 t2 un se at_ true _).mono ?_
       rintro e_ w1 ⟨rfl, hb⟩
       have I2 := Aside0.mk (I.out.call hb)
       clear I hb
       have I := I2
       clear I2
       clear IS
       have IS := Aside0.mk ((I.out.imp (fun _ _ => trivial)).sub (.cons _ (.cons_cons _ .slnil)))
       refine ⟨_, rfl, IS.out, ?_⟩
       refine ca1 (i := 6) rfl rfl kk (by decide) Tryz.func26 kk rfl #[.agg (stC c h 5 xid sv v6 hi lo t1 t2 un se at_), .agg (pkC 3 0 0 (⟨#[]⟩ : ByteArray) v6 hi lo false 0 0 false 0 0 false (.slice none 0 0)), .int .i64 (5), .int .i64 (at_), .int .i64 now] rfl zh ?_
       refine (step_c ⟨c, h, 5, xid, sv, ⟨v6, hi, lo⟩, t1, t2, un, se, at_⟩ 3 0 ⟨v6, hi, lo⟩ none 0 [] (fun _ => False) (5) (at_) now _ hx0 (foot_no _ none 0) (Nat.le_refl _) okO_nil).mono ?_
       rintro e_ w1 ⟨v, rfl, hf, hb⟩
       have I2 := Aside0.mk (I.out.addNew hb hf (fun k hk _ => hk.elim False.elim (fun h_ => I.out.new_out k h_)))
       clear hf
       clear I hb
       have I := I2
       clear I2
       clear IS
       have IS := Aside0.mk ((I.out.imp (fun _ _ => trivial)).sub (.cons _ (.cons_cons _ .slnil)))
       refine ⟨_, rfl, IS.out, ?_⟩
       refine pu1 (i := 7) rfl rfl kk ?_ (ha := by (go_simp; rfl))
       refine pu1 (i := 8) rfl rfl kk ?_ (ha := by (go_simp; rfl))
       refine sl1 (i := 9) rfl rfl kk (by decide) rfl rfl rfl I.out zm (by first | exact sr_st) zu (fun w1 hI => ?_)
       clear I
       have I := Aside0.mk hI
       clear hI
       refine pu1 (i := 10) rfl rfl kk ?_ (ha := by (go_simp; rfl))
       refine do1 kk ?_
       clear IS
       try go_wp2
       refine bodyPost_ret (ret_ct rfl _ I.out _ rfl zm Tryz.underlying28 rfl kk) rfl ?_
       exact ⟨_, rfl, foot_new (I.out.foot.imp (fun W hW => hW.2)), I.out.below⟩
     have m1 : decide (60 < (un - se).tdiv 2) = false := decide_eq_false hm
     replace hm : (un - se).tdiv 2 ≤ 60 := by omega
     have em : max 60 ((un - se).tdiv 2) = 60 := by omega
     have eF : tickF ⟨c, h, 5, xid, sv, ⟨v6, hi, lo⟩, t1, t2, un, se, at_⟩ now = stepF ⟨c, h, 5, xid, sv, ⟨v6, hi, lo⟩, t1, t2, un, se, at_⟩ 3 0 ⟨v6, hi, lo⟩ [] 5 at_ now := by unfold tickF; exact (if_neg (show ¬ (5 : Int) = 0 by decide)).trans ((if_neg (fun hq => hq.elim (show ¬ (5 : Int) = 1 by decide) (show ¬ (5 : Int) = 2 by decide))).trans ((if_neg hn).trans ((if_neg (fun hq => hq.1 rfl)).trans ((if_neg (fun hq => absurd hq.1 (show ¬ (5 : Int) = 3 by decide))).trans ((if_neg (fun hq => absurd hq.1 (show ¬ (5 : Int) = 4 by decide))).trans (if_pos ⟨rfl, ha⟩))))))
     rw [eF]
     clear eF
     have ag : decide (min (se + 60) 4294967295 ≤ now) = true := by rw [em] at ha; exact decide_eq_true ha
     clear ha
     have I := Aside0.mk (Inv.start0 (w0 := w))
     go_enter Tryz.func7, Tryz.ntmps7
     go_wp2_with (first
      | (refine gB rfl ?_; refine bk rfl rfl rfl I ?_; clear I; intro gb w1 I)
      | (refine ak rfl (al_S rfl) I ?_; clear I; intro gb w1 I)
      | (refine gL rfl ?_; refine ll rfl rfl rfl I zm (by first | exact ld_st2 | exact ld_st9 | exact ld_st10 | exact ld_st11 | exact ld_st8 | exact ld_st) ?_)
      | (refine gD 42 rfl ?_; refine ck rfl Tryz.func29 kk rfl #[.int .i64 se, .int .i64 (60)] rfl zh (after_c se (60) _ hs.1 hs.2 (by decide) (by decide)) ?_; rintro e_ w1 ⟨rfl, rfl⟩; refine ⟨_, rfl, ?_⟩; skip)
      | (refine gS rfl ?_; refine sk rfl rfl rfl rfl rfl I zm (by first | exact sr_st) zu ?_; clear I; intro w1 I)
      )
     have IS := Aside0.mk (I.out.sub (.cons _ (.cons_cons _ .slnil))).drew
     refine draw_ (Inv _ w [_] _) [9] kk rfl IS.out ?_
     have I2 := Aside0.mk I.out.drew
     clear I
     have I := I2
     clear I2
     refine ta1 (i := 0) rfl rfl kk rfl rfl IS.out zm (by exact ld_st) ?_ (ha := by (go_simp; rfl))
     refine ta1 (i := 1) rfl rfl kk rfl rfl IS.out zm (by exact ld_st) ?_ (ha := by (go_simp; rfl))
     refine pu1 (i := 3) rfl rfl kk ?_ (ha := by (go_simp; rfl))
     refine ta1 (i := 4) rfl rfl kk rfl rfl IS.out zm (by exact ld_st12) ?_ (ha := by (go_simp; rfl))
     refine pu1 (i := 5) rfl rfl kk ?_ (ha := by (go_simp; rfl))
     refine ca1 (i := 2) rfl rfl kk (by decide) Tryz.func31 kk rfl #[.agg (stC c h 5 xid sv v6 hi lo t1 t2 un se at_), .bool true] rfl zh ?_
     refine (renewal_c c h 5 xid sv v6 hi lo t1 t2 un se at_ true _).mono ?_
     rintro e_ w1 ⟨rfl, hb⟩
     have I2 := Aside0.mk (I.out.call hb)
     clear I hb
     have I := I2
     clear I2
     clear IS
     have IS := Aside0.mk ((I.out.imp (fun _ _ => trivial)).sub (.cons _ (.cons_cons _ .slnil)))
     refine ⟨_, rfl, IS.out, ?_⟩
     refine ca1 (i := 6) rfl rfl kk (by decide) Tryz.func26 kk rfl #[.agg (stC c h 5 xid sv v6 hi lo t1 t2 un se at_), .agg (pkC 3 0 0 (⟨#[]⟩ : ByteArray) v6 hi lo false 0 0 false 0 0 false (.slice none 0 0)), .int .i64 (5), .int .i64 (at_), .int .i64 now] rfl zh ?_
     refine (step_c ⟨c, h, 5, xid, sv, ⟨v6, hi, lo⟩, t1, t2, un, se, at_⟩ 3 0 ⟨v6, hi, lo⟩ none 0 [] (fun _ => False) (5) (at_) now _ hx0 (foot_no _ none 0) (Nat.le_refl _) okO_nil).mono ?_
     rintro e_ w1 ⟨v, rfl, hf, hb⟩
     have I2 := Aside0.mk (I.out.addNew hb hf (fun k hk _ => hk.elim False.elim (fun h_ => I.out.new_out k h_)))
     clear hf
     clear I hb
     have I := I2
     clear I2
     clear IS
     have IS := Aside0.mk ((I.out.imp (fun _ _ => trivial)).sub (.cons _ (.cons_cons _ .slnil)))
     refine ⟨_, rfl, IS.out, ?_⟩
     refine pu1 (i := 7) rfl rfl kk ?_ (ha := by (go_simp; rfl))
     refine pu1 (i := 8) rfl rfl kk ?_ (ha := by (go_simp; rfl))
     refine sl1 (i := 9) rfl rfl kk (by decide) rfl rfl rfl I.out zm (by first | exact sr_st) zu (fun w1 hI => ?_)
     clear I
     have I := Aside0.mk hI
     clear hI
     refine pu1 (i := 10) rfl rfl kk ?_ (ha := by (go_simp; rfl))
     refine do1 kk ?_
     clear IS
     try go_wp2
     refine bodyPost_ret (ret_ct rfl _ I.out _ rfl zm Tryz.underlying28 rfl kk) rfl ?_
     exact ⟨_, rfl, foot_new (I.out.foot.imp (fun W hW => hW.2)), I.out.below⟩
   by_cases hm : 60 < (un - se).tdiv 2
   · have m1 : decide (60 < (un - se).tdiv 2) = true := decide_eq_true hm
     have em : max 60 ((un - se).tdiv 2) = (un - se).tdiv 2 := by omega
     have hd := td2 (x := un - se) (by omega) (by omega)
     have eF : tickF ⟨c, h, 5, xid, sv, ⟨v6, hi, lo⟩, t1, t2, un, se, at_⟩ now = (⟨c, h, 5, xid, sv, ⟨v6, hi, lo⟩, t1, t2, un, se, at_⟩, []) := by unfold tickF; exact (if_neg (show ¬ (5 : Int) = 0 by decide)).trans ((if_neg (fun hq => hq.elim (show ¬ (5 : Int) = 1 by decide) (show ¬ (5 : Int) = 2 by decide))).trans ((if_neg hn).trans ((if_neg (fun hq => hq.1 rfl)).trans ((if_neg (fun hq => absurd hq.1 (show ¬ (5 : Int) = 3 by decide))).trans ((if_neg (fun hq => absurd hq.1 (show ¬ (5 : Int) = 4 by decide))).trans (if_neg (fun hq => ha hq.2)))))))
     rw [eF]
     clear eF
     have ag : decide (min (se + (un - se).tdiv 2) 4294967295 ≤ now) = false := by rw [em] at ha; exact decide_eq_false ha
     clear ha
     have I := Aside0.mk (Inv.start0 (w0 := w))
     go_enter Tryz.func7, Tryz.ntmps7
     go_wp2_with (first
      | (refine gB rfl ?_; refine bk rfl rfl rfl I ?_; clear I; intro gb w1 I)
      | (refine ak rfl (al_S rfl) I ?_; clear I; intro gb w1 I)
      | (refine gL rfl ?_; refine ll rfl rfl rfl I zm (by first | exact ld_st2 | exact ld_st9 | exact ld_st10 | exact ld_st11 | exact ld_st8 | exact ld_st) ?_)
      | (refine gD 42 rfl ?_; refine ck rfl Tryz.func29 kk rfl #[.int .i64 se, .int .i64 ((un - se).tdiv 2)] rfl zh (after_c se ((un - se).tdiv 2) _ hs.1 hs.2 hd.1 hd.2) ?_; rintro e_ w1 ⟨rfl, rfl⟩; refine ⟨_, rfl, ?_⟩; skip)
      | (refine gS rfl ?_; refine sk rfl rfl rfl rfl rfl I zm (by first | exact sr_st) zu ?_; clear I; intro w1 I)
      )
     refine bodyPost_ret (ret_ct rfl _ I.out _ rfl zm Tryz.underlying28 rfl kk) rfl ?_
     exact ⟨_, rfl, Pks_nil _ _, I.out.below⟩
   have m1 : decide (60 < (un - se).tdiv 2) = false := decide_eq_false hm
   replace hm : (un - se).tdiv 2 ≤ 60 := by omega
   have em : max 60 ((un - se).tdiv 2) = 60 := by omega
   have eF : tickF ⟨c, h, 5, xid, sv, ⟨v6, hi, lo⟩, t1, t2, un, se, at_⟩ now = (⟨c, h, 5, xid, sv, ⟨v6, hi, lo⟩, t1, t2, un, se, at_⟩, []) := by unfold tickF; exact (if_neg (show ¬ (5 : Int) = 0 by decide)).trans ((if_neg (fun hq => hq.elim (show ¬ (5 : Int) = 1 by decide) (show ¬ (5 : Int) = 2 by decide))).trans ((if_neg hn).trans ((if_neg (fun hq => hq.1 rfl)).trans ((if_neg (fun hq => absurd hq.1 (show ¬ (5 : Int) = 3 by decide))).trans ((if_neg (fun hq => absurd hq.1 (show ¬ (5 : Int) = 4 by decide))).trans (if_neg (fun hq => ha hq.2)))))))
   rw [eF]
   clear eF
   have ag : decide (min (se + 60) 4294967295 ≤ now) = false := by rw [em] at ha; exact decide_eq_false ha
   clear ha
   have I := Aside0.mk (Inv.start0 (w0 := w))
   go_enter Tryz.func7, Tryz.ntmps7
   go_wp2_with (first
    | (refine gB rfl ?_; refine bk rfl rfl rfl I ?_; clear I; intro gb w1 I)
    | (refine ak rfl (al_S rfl) I ?_; clear I; intro gb w1 I)
    | (refine gL rfl ?_; refine ll rfl rfl rfl I zm (by first | exact ld_st2 | exact ld_st9 | exact ld_st10 | exact ld_st11 | exact ld_st8 | exact ld_st) ?_)
    | (refine gD 42 rfl ?_; refine ck rfl Tryz.func29 kk rfl #[.int .i64 se, .int .i64 (60)] rfl zh (after_c se (60) _ hs.1 hs.2 (by decide) (by decide)) ?_; rintro e_ w1 ⟨rfl, rfl⟩; refine ⟨_, rfl, ?_⟩; skip)
    | (refine gS rfl ?_; refine sk rfl rfl rfl rfl rfl I zm (by first | exact sr_st) zu ?_; clear I; intro w1 I)
    )
   refine bodyPost_ret (ret_ct rfl _ I.out _ rfl zm Tryz.underlying28 rfl kk) rfl ?_
   exact ⟨_, rfl, Pks_nil _ _, I.out.below⟩
 have b5 : (st == 5) = false := beq_eq_false_iff_ne.mpr s5
 have c5 : (st != 5) = true := bne_iff_ne.mpr s5
 by_cases h22 : t2 ≤ now
 · have e2 : decide (t2 ≤ now) = true := decide_eq_true h22
   by_cases hm : 60 < (t2 - se).tdiv 2
   · have m1 : decide (60 < (t2 - se).tdiv 2) = true := decide_eq_true hm
     have em : max 60 ((t2 - se).tdiv 2) = (t2 - se).tdiv 2 := by omega
     have hd := td2 (x := t2 - se) (by omega) (by omega)
     have eF : tickF ⟨c, h, st, xid, sv, ⟨v6, hi, lo⟩, t1, t2, un, se, at_⟩ now = stepF ⟨c, h, st, xid, sv, ⟨v6, hi, lo⟩, t1, t2, un, se, at_⟩ 3 0 ⟨v6, hi, lo⟩ [] 5 at_ now := by unfold tickF; exact (if_neg s0).trans ((if_neg e12).trans ((if_neg hn).trans (if_pos ⟨s5, h22⟩)))
     rw [eF]
     clear eF
     have I := Aside0.mk (Inv.start0 (w0 := w))
     go_enter Tryz.func7, Tryz.ntmps7
     go_wp2_with (first
      | (refine gB rfl ?_; refine bk rfl rfl rfl I ?_; clear I; intro gb w1 I)
      | (refine ak rfl (al_S rfl) I ?_; clear I; intro gb w1 I)
      | (refine gL rfl ?_; refine ll rfl rfl rfl I zm (by first | exact ld_st2 | exact ld_st9 | exact ld_st10 | exact ld_st11 | exact ld_st8 | exact ld_st) ?_)
      | (refine gD 42 rfl ?_; refine ck rfl Tryz.func29 kk rfl #[.int .i64 se, .int .i64 ((t2 - se).tdiv 2)] rfl zh (after_c se ((t2 - se).tdiv 2) _ hs.1 hs.2 hd.1 hd.2) ?_; rintro e_ w1 ⟨rfl, rfl⟩; refine ⟨_, rfl, ?_⟩; skip)
      | (refine gS rfl ?_; refine sk rfl rfl rfl rfl rfl I zm (by first | exact sr_st) zu ?_; clear I; intro w1 I)
      )
     have IS := Aside0.mk (I.out.sub (.cons _ (.cons_cons _ .slnil))).drew
     refine draw_ (Inv _ w [_] _) [9] kk rfl IS.out ?_
     have I2 := Aside0.mk I.out.drew
     clear I
     have I := I2
     clear I2
     refine ta1 (i := 0) rfl rfl kk rfl rfl IS.out zm (by exact ld_st) ?_ (ha := by (go_simp; rfl))
     refine ta1 (i := 1) rfl rfl kk rfl rfl IS.out zm (by exact ld_st) ?_ (ha := by (go_simp; rfl))
     refine pu1 (i := 3) rfl rfl kk ?_ (ha := by (go_simp; rfl))
     refine ta1 (i := 4) rfl rfl kk rfl rfl IS.out zm (by exact ld_st12) ?_ (ha := by (go_simp; rfl))
     refine pu1 (i := 5) rfl rfl kk ?_ (ha := by (go_simp; rfl))
     refine ca1 (i := 2) rfl rfl kk (by decide) Tryz.func31 kk rfl #[.agg (stC c h st xid sv v6 hi lo t1 t2 un se at_), .bool true] rfl zh ?_
     refine (renewal_c c h st xid sv v6 hi lo t1 t2 un se at_ true _).mono ?_
     rintro e_ w1 ⟨rfl, hb⟩
     have I2 := Aside0.mk (I.out.call hb)
     clear I hb
     have I := I2
     clear I2
     clear IS
     have IS := Aside0.mk ((I.out.imp (fun _ _ => trivial)).sub (.cons _ (.cons_cons _ .slnil)))
     refine ⟨_, rfl, IS.out, ?_⟩
     refine ca1 (i := 6) rfl rfl kk (by decide) Tryz.func26 kk rfl #[.agg (stC c h st xid sv v6 hi lo t1 t2 un se at_), .agg (pkC 3 0 0 (⟨#[]⟩ : ByteArray) v6 hi lo false 0 0 false 0 0 false (.slice none 0 0)), .int .i64 (5), .int .i64 (at_), .int .i64 now] rfl zh ?_
     refine (step_c ⟨c, h, st, xid, sv, ⟨v6, hi, lo⟩, t1, t2, un, se, at_⟩ 3 0 ⟨v6, hi, lo⟩ none 0 [] (fun _ => False) (5) (at_) now _ hx0 (foot_no _ none 0) (Nat.le_refl _) okO_nil).mono ?_
     rintro e_ w1 ⟨v, rfl, hf, hb⟩
     have I2 := Aside0.mk (I.out.addNew hb hf (fun k hk _ => hk.elim False.elim (fun h_ => I.out.new_out k h_)))
     clear hf
     clear I hb
     have I := I2
     clear I2
     clear IS
     have IS := Aside0.mk ((I.out.imp (fun _ _ => trivial)).sub (.cons _ (.cons_cons _ .slnil)))
     refine ⟨_, rfl, IS.out, ?_⟩
     refine pu1 (i := 7) rfl rfl kk ?_ (ha := by (go_simp; rfl))
     refine pu1 (i := 8) rfl rfl kk ?_ (ha := by (go_simp; rfl))
     refine sl1 (i := 9) rfl rfl kk (by decide) rfl rfl rfl I.out zm (by first | exact sr_st) zu (fun w1 hI => ?_)
     clear I
     have I := Aside0.mk hI
     clear hI
     refine pu1 (i := 10) rfl rfl kk ?_ (ha := by (go_simp; rfl))
     refine do1 kk ?_
     clear IS
     try go_wp2
     refine bodyPost_ret (ret_ct rfl _ I.out _ rfl zm Tryz.underlying28 rfl kk) rfl ?_
     exact ⟨_, rfl, foot_new (I.out.foot.imp (fun W hW => hW.2)), I.out.below⟩
   have m1 : decide (60 < (t2 - se).tdiv 2) = false := decide_eq_false hm
   replace hm : (t2 - se).tdiv 2 ≤ 60 := by omega
   have em : max 60 ((t2 - se).tdiv 2) = 60 := by omega
   have eF : tickF ⟨c, h, st, xid, sv, ⟨v6, hi, lo⟩, t1, t2, un, se, at_⟩ now = stepF ⟨c, h, st, xid, sv, ⟨v6, hi, lo⟩, t1, t2, un, se, at_⟩ 3 0 ⟨v6, hi, lo⟩ [] 5 at_ now := by unfold tickF; exact (if_neg s0).trans ((if_neg e12).trans ((if_neg hn).trans (if_pos ⟨s5, h22⟩)))
   rw [eF]
   clear eF
   have I := Aside0.mk (Inv.start0 (w0 := w))
   go_enter Tryz.func7, Tryz.ntmps7
   go_wp2_with (first
    | (refine gB rfl ?_; refine bk rfl rfl rfl I ?_; clear I; intro gb w1 I)
    | (refine ak rfl (al_S rfl) I ?_; clear I; intro gb w1 I)
    | (refine gL rfl ?_; refine ll rfl rfl rfl I zm (by first | exact ld_st2 | exact ld_st9 | exact ld_st10 | exact ld_st11 | exact ld_st8 | exact ld_st) ?_)
    | (refine gD 42 rfl ?_; refine ck rfl Tryz.func29 kk rfl #[.int .i64 se, .int .i64 (60)] rfl zh (after_c se (60) _ hs.1 hs.2 (by decide) (by decide)) ?_; rintro e_ w1 ⟨rfl, rfl⟩; refine ⟨_, rfl, ?_⟩; skip)
    | (refine gS rfl ?_; refine sk rfl rfl rfl rfl rfl I zm (by first | exact sr_st) zu ?_; clear I; intro w1 I)
    )
   have IS := Aside0.mk (I.out.sub (.cons _ (.cons_cons _ .slnil))).drew
   refine draw_ (Inv _ w [_] _) [9] kk rfl IS.out ?_
   have I2 := Aside0.mk I.out.drew
   clear I
   have I := I2
   clear I2
   refine ta1 (i := 0) rfl rfl kk rfl rfl IS.out zm (by exact ld_st) ?_ (ha := by (go_simp; rfl))
   refine ta1 (i := 1) rfl rfl kk rfl rfl IS.out zm (by exact ld_st) ?_ (ha := by (go_simp; rfl))
   refine pu1 (i := 3) rfl rfl kk ?_ (ha := by (go_simp; rfl))
   refine ta1 (i := 4) rfl rfl kk rfl rfl IS.out zm (by exact ld_st12) ?_ (ha := by (go_simp; rfl))
   refine pu1 (i := 5) rfl rfl kk ?_ (ha := by (go_simp; rfl))
   refine ca1 (i := 2) rfl rfl kk (by decide) Tryz.func31 kk rfl #[.agg (stC c h st xid sv v6 hi lo t1 t2 un se at_), .bool true] rfl zh ?_
   refine (renewal_c c h st xid sv v6 hi lo t1 t2 un se at_ true _).mono ?_
   rintro e_ w1 ⟨rfl, hb⟩
   have I2 := Aside0.mk (I.out.call hb)
   clear I hb
   have I := I2
   clear I2
   clear IS
   have IS := Aside0.mk ((I.out.imp (fun _ _ => trivial)).sub (.cons _ (.cons_cons _ .slnil)))
   refine ⟨_, rfl, IS.out, ?_⟩
   refine ca1 (i := 6) rfl rfl kk (by decide) Tryz.func26 kk rfl #[.agg (stC c h st xid sv v6 hi lo t1 t2 un se at_), .agg (pkC 3 0 0 (⟨#[]⟩ : ByteArray) v6 hi lo false 0 0 false 0 0 false (.slice none 0 0)), .int .i64 (5), .int .i64 (at_), .int .i64 now] rfl zh ?_
   refine (step_c ⟨c, h, st, xid, sv, ⟨v6, hi, lo⟩, t1, t2, un, se, at_⟩ 3 0 ⟨v6, hi, lo⟩ none 0 [] (fun _ => False) (5) (at_) now _ hx0 (foot_no _ none 0) (Nat.le_refl _) okO_nil).mono ?_
   rintro e_ w1 ⟨v, rfl, hf, hb⟩
   have I2 := Aside0.mk (I.out.addNew hb hf (fun k hk _ => hk.elim False.elim (fun h_ => I.out.new_out k h_)))
   clear hf
   clear I hb
   have I := I2
   clear I2
   clear IS
   have IS := Aside0.mk ((I.out.imp (fun _ _ => trivial)).sub (.cons _ (.cons_cons _ .slnil)))
   refine ⟨_, rfl, IS.out, ?_⟩
   refine pu1 (i := 7) rfl rfl kk ?_ (ha := by (go_simp; rfl))
   refine pu1 (i := 8) rfl rfl kk ?_ (ha := by (go_simp; rfl))
   refine sl1 (i := 9) rfl rfl kk (by decide) rfl rfl rfl I.out zm (by first | exact sr_st) zu (fun w1 hI => ?_)
   clear I
   have I := Aside0.mk hI
   clear hI
   refine pu1 (i := 10) rfl rfl kk ?_ (ha := by (go_simp; rfl))
   refine do1 kk ?_
   clear IS
   try go_wp2
   refine bodyPost_ret (ret_ct rfl _ I.out _ rfl zm Tryz.underlying28 rfl kk) rfl ?_
   exact ⟨_, rfl, foot_new (I.out.foot.imp (fun W hW => hW.2)), I.out.below⟩
 have e2 : decide (t2 ≤ now) = false := decide_eq_false h22
 by_cases s3 : st = 3
 · subst s3
   by_cases h11 : t1 ≤ now
   · have e3 : decide (t1 ≤ now) = true := decide_eq_true h11
     by_cases hm : 60 < (t2 - se).tdiv 2
     · have m1 : decide (60 < (t2 - se).tdiv 2) = true := decide_eq_true hm
       have em : max 60 ((t2 - se).tdiv 2) = (t2 - se).tdiv 2 := by omega
       have hd := td2 (x := t2 - se) (by omega) (by omega)
       have eF : tickF ⟨c, h, 3, xid, sv, ⟨v6, hi, lo⟩, t1, t2, un, se, at_⟩ now = stepF ⟨c, h, 3, xid, sv, ⟨v6, hi, lo⟩, t1, t2, un, se, at_⟩ 3 sv ⟨v6, hi, lo⟩ [] 4 at_ now := by unfold tickF; exact (if_neg (show ¬ (3 : Int) = 0 by decide)).trans ((if_neg (fun hq => hq.elim (show ¬ (3 : Int) = 1 by decide) (show ¬ (3 : Int) = 2 by decide))).trans ((if_neg hn).trans ((if_neg (fun hq => h22 hq.2)).trans (if_pos ⟨rfl, h11⟩))))
       rw [eF]
       clear eF
       have I := Aside0.mk (Inv.start0 (w0 := w))
       go_enter Tryz.func7, Tryz.ntmps7
       go_wp2_with (first
        | (refine gB rfl ?_; refine bk rfl rfl rfl I ?_; clear I; intro gb w1 I)
        | (refine ak rfl (al_S rfl) I ?_; clear I; intro gb w1 I)
        | (refine gL rfl ?_; refine ll rfl rfl rfl I zm (by first | exact ld_st2 | exact ld_st9 | exact ld_st10 | exact ld_st11 | exact ld_st8 | exact ld_st) ?_)
        | (refine gD 42 rfl ?_; refine ck rfl Tryz.func29 kk rfl #[.int .i64 se, .int .i64 ((t2 - se).tdiv 2)] rfl zh (after_c se ((t2 - se).tdiv 2) _ hs.1 hs.2 hd.1 hd.2) ?_; rintro e_ w1 ⟨rfl, rfl⟩; refine ⟨_, rfl, ?_⟩; skip)
        | (refine gS rfl ?_; refine sk rfl rfl rfl rfl rfl I zm (by first | exact sr_st) zu ?_; clear I; intro w1 I)
        )
       have IS := Aside0.mk (I.out.sub (.cons _ (.cons_cons _ .slnil))).drew
       refine draw_ (Inv _ w [_] _) [9] kk rfl IS.out ?_
       have I2 := Aside0.mk I.out.drew
       clear I
       have I := I2
       clear I2
       refine ta1 (i := 0) rfl rfl kk rfl rfl IS.out zm (by exact ld_st) ?_ (ha := by (go_simp; rfl))
       refine ta1 (i := 1) rfl rfl kk rfl rfl IS.out zm (by exact ld_st) ?_ (ha := by (go_simp; rfl))
       refine pu1 (i := 3) rfl rfl kk ?_ (ha := by (go_simp; rfl))
       refine ta1 (i := 4) rfl rfl kk rfl rfl IS.out zm (by exact ld_st12) ?_ (ha := by (go_simp; rfl))
       refine pu1 (i := 5) rfl rfl kk ?_ (ha := by (go_simp; rfl))
       refine ca1 (i := 2) rfl rfl kk (by decide) Tryz.func31 kk rfl #[.agg (stC c h 3 xid sv v6 hi lo t1 t2 un se at_), .bool false] rfl zh ?_
       refine (renewal_c c h 3 xid sv v6 hi lo t1 t2 un se at_ false _).mono ?_
       rintro e_ w1 ⟨rfl, hb⟩
       have I2 := Aside0.mk (I.out.call hb)
       clear I hb
       have I := I2
       clear I2
       clear IS
       have IS := Aside0.mk ((I.out.imp (fun _ _ => trivial)).sub (.cons _ (.cons_cons _ .slnil)))
       refine ⟨_, rfl, IS.out, ?_⟩
       refine ca1 (i := 6) rfl rfl kk (by decide) Tryz.func26 kk rfl #[.agg (stC c h 3 xid sv v6 hi lo t1 t2 un se at_), .agg (pkC 3 0 sv (⟨#[]⟩ : ByteArray) v6 hi lo false 0 0 false 0 0 false (.slice none 0 0)), .int .i64 (4), .int .i64 (at_), .int .i64 now] rfl zh ?_
       refine (step_c ⟨c, h, 3, xid, sv, ⟨v6, hi, lo⟩, t1, t2, un, se, at_⟩ 3 sv ⟨v6, hi, lo⟩ none 0 [] (fun _ => False) (4) (at_) now _ hx0 (foot_no _ none 0) (Nat.le_refl _) okO_nil).mono ?_
       rintro e_ w1 ⟨v, rfl, hf, hb⟩
       have I2 := Aside0.mk (I.out.addNew hb hf (fun k hk _ => hk.elim False.elim (fun h_ => I.out.new_out k h_)))
       clear hf
       clear I hb
       have I := I2
       clear I2
       clear IS
       have IS := Aside0.mk ((I.out.imp (fun _ _ => trivial)).sub (.cons _ (.cons_cons _ .slnil)))
       refine ⟨_, rfl, IS.out, ?_⟩
       refine pu1 (i := 7) rfl rfl kk ?_ (ha := by (go_simp; rfl))
       refine pu1 (i := 8) rfl rfl kk ?_ (ha := by (go_simp; rfl))
       refine sl1 (i := 9) rfl rfl kk (by decide) rfl rfl rfl I.out zm (by first | exact sr_st) zu (fun w1 hI => ?_)
       clear I
       have I := Aside0.mk hI
       clear hI
       refine pu1 (i := 10) rfl rfl kk ?_ (ha := by (go_simp; rfl))
       refine do1 kk ?_
       clear IS
       try go_wp2
       refine bodyPost_ret (ret_ct rfl _ I.out _ rfl zm Tryz.underlying28 rfl kk) rfl ?_
       exact ⟨_, rfl, foot_new (I.out.foot.imp (fun W hW => hW.2)), I.out.below⟩
     have m1 : decide (60 < (t2 - se).tdiv 2) = false := decide_eq_false hm
     replace hm : (t2 - se).tdiv 2 ≤ 60 := by omega
     have em : max 60 ((t2 - se).tdiv 2) = 60 := by omega
     have eF : tickF ⟨c, h, 3, xid, sv, ⟨v6, hi, lo⟩, t1, t2, un, se, at_⟩ now = stepF ⟨c, h, 3, xid, sv, ⟨v6, hi, lo⟩, t1, t2, un, se, at_⟩ 3 sv ⟨v6, hi, lo⟩ [] 4 at_ now := by unfold tickF; exact (if_neg (show ¬ (3 : Int) = 0 by decide)).trans ((if_neg (fun hq => hq.elim (show ¬ (3 : Int) = 1 by decide) (show ¬ (3 : Int) = 2 by decide))).trans ((if_neg hn).trans ((if_neg (fun hq => h22 hq.2)).trans (if_pos ⟨rfl, h11⟩))))
     rw [eF]
     clear eF
     have I := Aside0.mk (Inv.start0 (w0 := w))
     go_enter Tryz.func7, Tryz.ntmps7
     go_wp2_with (first
      | (refine gB rfl ?_; refine bk rfl rfl rfl I ?_; clear I; intro gb w1 I)
      | (refine ak rfl (al_S rfl) I ?_; clear I; intro gb w1 I)
      | (refine gL rfl ?_; refine ll rfl rfl rfl I zm (by first | exact ld_st2 | exact ld_st9 | exact ld_st10 | exact ld_st11 | exact ld_st8 | exact ld_st) ?_)
      | (refine gD 42 rfl ?_; refine ck rfl Tryz.func29 kk rfl #[.int .i64 se, .int .i64 (60)] rfl zh (after_c se (60) _ hs.1 hs.2 (by decide) (by decide)) ?_; rintro e_ w1 ⟨rfl, rfl⟩; refine ⟨_, rfl, ?_⟩; skip)
      | (refine gS rfl ?_; refine sk rfl rfl rfl rfl rfl I zm (by first | exact sr_st) zu ?_; clear I; intro w1 I)
      )
     have IS := Aside0.mk (I.out.sub (.cons _ (.cons_cons _ .slnil))).drew
     refine draw_ (Inv _ w [_] _) [9] kk rfl IS.out ?_
     have I2 := Aside0.mk I.out.drew
     clear I
     have I := I2
     clear I2
     refine ta1 (i := 0) rfl rfl kk rfl rfl IS.out zm (by exact ld_st) ?_ (ha := by (go_simp; rfl))
     refine ta1 (i := 1) rfl rfl kk rfl rfl IS.out zm (by exact ld_st) ?_ (ha := by (go_simp; rfl))
     refine pu1 (i := 3) rfl rfl kk ?_ (ha := by (go_simp; rfl))
     refine ta1 (i := 4) rfl rfl kk rfl rfl IS.out zm (by exact ld_st12) ?_ (ha := by (go_simp; rfl))
     refine pu1 (i := 5) rfl rfl kk ?_ (ha := by (go_simp; rfl))
     refine ca1 (i := 2) rfl rfl kk (by decide) Tryz.func31 kk rfl #[.agg (stC c h 3 xid sv v6 hi lo t1 t2 un se at_), .bool false] rfl zh ?_
     refine (renewal_c c h 3 xid sv v6 hi lo t1 t2 un se at_ false _).mono ?_
     rintro e_ w1 ⟨rfl, hb⟩
     have I2 := Aside0.mk (I.out.call hb)
     clear I hb
     have I := I2
     clear I2
     clear IS
     have IS := Aside0.mk ((I.out.imp (fun _ _ => trivial)).sub (.cons _ (.cons_cons _ .slnil)))
     refine ⟨_, rfl, IS.out, ?_⟩
     refine ca1 (i := 6) rfl rfl kk (by decide) Tryz.func26 kk rfl #[.agg (stC c h 3 xid sv v6 hi lo t1 t2 un se at_), .agg (pkC 3 0 sv (⟨#[]⟩ : ByteArray) v6 hi lo false 0 0 false 0 0 false (.slice none 0 0)), .int .i64 (4), .int .i64 (at_), .int .i64 now] rfl zh ?_
     refine (step_c ⟨c, h, 3, xid, sv, ⟨v6, hi, lo⟩, t1, t2, un, se, at_⟩ 3 sv ⟨v6, hi, lo⟩ none 0 [] (fun _ => False) (4) (at_) now _ hx0 (foot_no _ none 0) (Nat.le_refl _) okO_nil).mono ?_
     rintro e_ w1 ⟨v, rfl, hf, hb⟩
     have I2 := Aside0.mk (I.out.addNew hb hf (fun k hk _ => hk.elim False.elim (fun h_ => I.out.new_out k h_)))
     clear hf
     clear I hb
     have I := I2
     clear I2
     clear IS
     have IS := Aside0.mk ((I.out.imp (fun _ _ => trivial)).sub (.cons _ (.cons_cons _ .slnil)))
     refine ⟨_, rfl, IS.out, ?_⟩
     refine pu1 (i := 7) rfl rfl kk ?_ (ha := by (go_simp; rfl))
     refine pu1 (i := 8) rfl rfl kk ?_ (ha := by (go_simp; rfl))
     refine sl1 (i := 9) rfl rfl kk (by decide) rfl rfl rfl I.out zm (by first | exact sr_st) zu (fun w1 hI => ?_)
     clear I
     have I := Aside0.mk hI
     clear hI
     refine pu1 (i := 10) rfl rfl kk ?_ (ha := by (go_simp; rfl))
     refine do1 kk ?_
     clear IS
     try go_wp2
     refine bodyPost_ret (ret_ct rfl _ I.out _ rfl zm Tryz.underlying28 rfl kk) rfl ?_
     exact ⟨_, rfl, foot_new (I.out.foot.imp (fun W hW => hW.2)), I.out.below⟩
   have e3 : decide (t1 ≤ now) = false := decide_eq_false h11
   by_cases hm : 60 < (t2 - se).tdiv 2
   · have m1 : decide (60 < (t2 - se).tdiv 2) = true := decide_eq_true hm
     have em : max 60 ((t2 - se).tdiv 2) = (t2 - se).tdiv 2 := by omega
     have hd := td2 (x := t2 - se) (by omega) (by omega)
     have eF : tickF ⟨c, h, 3, xid, sv, ⟨v6, hi, lo⟩, t1, t2, un, se, at_⟩ now = (⟨c, h, 3, xid, sv, ⟨v6, hi, lo⟩, t1, t2, un, se, at_⟩, []) := by unfold tickF; exact (if_neg (show ¬ (3 : Int) = 0 by decide)).trans ((if_neg (fun hq => hq.elim (show ¬ (3 : Int) = 1 by decide) (show ¬ (3 : Int) = 2 by decide))).trans ((if_neg hn).trans ((if_neg (fun hq => h22 hq.2)).trans ((if_neg (fun hq => h11 hq.2)).trans ((if_neg (fun hq => absurd hq.1 (show ¬ (3 : Int) = 4 by decide))).trans (if_neg (fun hq => absurd hq.1 (show ¬ (3 : Int) = 5 by decide))))))))
     rw [eF]
     clear eF
     have I := Aside0.mk (Inv.start0 (w0 := w))
     go_enter Tryz.func7, Tryz.ntmps7
     go_wp2_with (first
      | (refine gB rfl ?_; refine bk rfl rfl rfl I ?_; clear I; intro gb w1 I)
      | (refine ak rfl (al_S rfl) I ?_; clear I; intro gb w1 I)
      | (refine gL rfl ?_; refine ll rfl rfl rfl I zm (by first | exact ld_st2 | exact ld_st9 | exact ld_st10 | exact ld_st11 | exact ld_st8 | exact ld_st) ?_)
      | (refine gD 42 rfl ?_; refine ck rfl Tryz.func29 kk rfl #[.int .i64 se, .int .i64 ((t2 - se).tdiv 2)] rfl zh (after_c se ((t2 - se).tdiv 2) _ hs.1 hs.2 hd.1 hd.2) ?_; rintro e_ w1 ⟨rfl, rfl⟩; refine ⟨_, rfl, ?_⟩; skip)
      | (refine gS rfl ?_; refine sk rfl rfl rfl rfl rfl I zm (by first | exact sr_st) zu ?_; clear I; intro w1 I)
      )
     refine bodyPost_ret (ret_ct rfl _ I.out _ rfl zm Tryz.underlying28 rfl kk) rfl ?_
     exact ⟨_, rfl, Pks_nil _ _, I.out.below⟩
   have m1 : decide (60 < (t2 - se).tdiv 2) = false := decide_eq_false hm
   replace hm : (t2 - se).tdiv 2 ≤ 60 := by omega
   have em : max 60 ((t2 - se).tdiv 2) = 60 := by omega
   have eF : tickF ⟨c, h, 3, xid, sv, ⟨v6, hi, lo⟩, t1, t2, un, se, at_⟩ now = (⟨c, h, 3, xid, sv, ⟨v6, hi, lo⟩, t1, t2, un, se, at_⟩, []) := by unfold tickF; exact (if_neg (show ¬ (3 : Int) = 0 by decide)).trans ((if_neg (fun hq => hq.elim (show ¬ (3 : Int) = 1 by decide) (show ¬ (3 : Int) = 2 by decide))).trans ((if_neg hn).trans ((if_neg (fun hq => h22 hq.2)).trans ((if_neg (fun hq => h11 hq.2)).trans ((if_neg (fun hq => absurd hq.1 (show ¬ (3 : Int) = 4 by decide))).trans (if_neg (fun hq => absurd hq.1 (show ¬ (3 : Int) = 5 by decide))))))))
   rw [eF]
   clear eF
   have I := Aside0.mk (Inv.start0 (w0 := w))
   go_enter Tryz.func7, Tryz.ntmps7
   go_wp2_with (first
    | (refine gB rfl ?_; refine bk rfl rfl rfl I ?_; clear I; intro gb w1 I)
    | (refine ak rfl (al_S rfl) I ?_; clear I; intro gb w1 I)
    | (refine gL rfl ?_; refine ll rfl rfl rfl I zm (by first | exact ld_st2 | exact ld_st9 | exact ld_st10 | exact ld_st11 | exact ld_st8 | exact ld_st) ?_)
    | (refine gD 42 rfl ?_; refine ck rfl Tryz.func29 kk rfl #[.int .i64 se, .int .i64 (60)] rfl zh (after_c se (60) _ hs.1 hs.2 (by decide) (by decide)) ?_; rintro e_ w1 ⟨rfl, rfl⟩; refine ⟨_, rfl, ?_⟩; skip)
    | (refine gS rfl ?_; refine sk rfl rfl rfl rfl rfl I zm (by first | exact sr_st) zu ?_; clear I; intro w1 I)
    )
   refine bodyPost_ret (ret_ct rfl _ I.out _ rfl zm Tryz.underlying28 rfl kk) rfl ?_
   exact ⟨_, rfl, Pks_nil _ _, I.out.below⟩
 by_cases s4 : st = 4
 · subst s4
   by_cases ha : (min (se + max 60 ((t2 - se).tdiv 2)) 4294967295 ≤ now)
   ·
     by_cases hm : 60 < (t2 - se).tdiv 2
     · have m1 : decide (60 < (t2 - se).tdiv 2) = true := decide_eq_true hm
       have em : max 60 ((t2 - se).tdiv 2) = (t2 - se).tdiv 2 := by omega
       have hd := td2 (x := t2 - se) (by omega) (by omega)
       have eF : tickF ⟨c, h, 4, xid, sv, ⟨v6, hi, lo⟩, t1, t2, un, se, at_⟩ now = stepF ⟨c, h, 4, xid, sv, ⟨v6, hi, lo⟩, t1, t2, un, se, at_⟩ 3 sv ⟨v6, hi, lo⟩ [] 4 at_ now := by unfold tickF; exact (if_neg (show ¬ (4 : Int) = 0 by decide)).trans ((if_neg (fun hq => hq.elim (show ¬ (4 : Int) = 1 by decide) (show ¬ (4 : Int) = 2 by decide))).trans ((if_neg hn).trans ((if_neg (fun hq => h22 hq.2)).trans ((if_neg (fun hq => absurd hq.1 (show ¬ (4 : Int) = 3 by decide))).trans (if_pos ⟨rfl, ha⟩)))))
       rw [eF]
       clear eF
       have ag : decide (min (se + (t2 - se).tdiv 2) 4294967295 ≤ now) = true := by rw [em] at ha; exact decide_eq_true ha
       clear ha
       have I := Aside0.mk (Inv.start0 (w0 := w))
       go_enter Tryz.func7, Tryz.ntmps7
       go_wp2_with (first
        | (refine gB rfl ?_; refine bk rfl rfl rfl I ?_; clear I; intro gb w1 I)
        | (refine ak rfl (al_S rfl) I ?_; clear I; intro gb w1 I)
        | (refine gL rfl ?_; refine ll rfl rfl rfl I zm (by first | exact ld_st2 | exact ld_st9 | exact ld_st10 | exact ld_st11 | exact ld_st8 | exact ld_st) ?_)
        | (refine gD 42 rfl ?_; refine ck rfl Tryz.func29 kk rfl #[.int .i64 se, .int .i64 ((t2 - se).tdiv 2)] rfl zh (after_c se ((t2 - se).tdiv 2) _ hs.1 hs.2 hd.1 hd.2) ?_; rintro e_ w1 ⟨rfl, rfl⟩; refine ⟨_, rfl, ?_⟩; skip)
        | (refine gS rfl ?_; refine sk rfl rfl rfl rfl rfl I zm (by first | exact sr_st) zu ?_; clear I; intro w1 I)
        )
       have IS := Aside0.mk (I.out.sub (.cons _ (.cons_cons _ .slnil))).drew
       refine draw_ (Inv _ w [_] _) [9] kk rfl IS.out ?_
       have I2 := Aside0.mk I.out.drew
       clear I
       have I := I2
       clear I2
       refine ta1 (i := 0) rfl rfl kk rfl rfl IS.out zm (by exact ld_st) ?_ (ha := by (go_simp; rfl))
       refine ta1 (i := 1) rfl rfl kk rfl rfl IS.out zm (by exact ld_st) ?_ (ha := by (go_simp; rfl))
       refine pu1 (i := 3) rfl rfl kk ?_ (ha := by (go_simp; rfl))
       refine ta1 (i := 4) rfl rfl kk rfl rfl IS.out zm (by exact ld_st12) ?_ (ha := by (go_simp; rfl))
       refine pu1 (i := 5) rfl rfl kk ?_ (ha := by (go_simp; rfl))
       refine ca1 (i := 2) rfl rfl kk (by decide) Tryz.func31 kk rfl #[.agg (stC c h 4 xid sv v6 hi lo t1 t2 un se at_), .bool false] rfl zh ?_
       refine (renewal_c c h 4 xid sv v6 hi lo t1 t2 un se at_ false _).mono ?_
       rintro e_ w1 ⟨rfl, hb⟩
       have I2 := Aside0.mk (I.out.call hb)
       clear I hb
       have I := I2
       clear I2
       clear IS
       have IS := Aside0.mk ((I.out.imp (fun _ _ => trivial)).sub (.cons _ (.cons_cons _ .slnil)))
       refine ⟨_, rfl, IS.out, ?_⟩
       refine ca1 (i := 6) rfl rfl kk (by decide) Tryz.func26 kk rfl #[.agg (stC c h 4 xid sv v6 hi lo t1 t2 un se at_), .agg (pkC 3 0 sv (⟨#[]⟩ : ByteArray) v6 hi lo false 0 0 false 0 0 false (.slice none 0 0)), .int .i64 (4), .int .i64 (at_), .int .i64 now] rfl zh ?_
       refine (step_c ⟨c, h, 4, xid, sv, ⟨v6, hi, lo⟩, t1, t2, un, se, at_⟩ 3 sv ⟨v6, hi, lo⟩ none 0 [] (fun _ => False) (4) (at_) now _ hx0 (foot_no _ none 0) (Nat.le_refl _) okO_nil).mono ?_
       rintro e_ w1 ⟨v, rfl, hf, hb⟩
       have I2 := Aside0.mk (I.out.addNew hb hf (fun k hk _ => hk.elim False.elim (fun h_ => I.out.new_out k h_)))
       clear hf
       clear I hb
       have I := I2
       clear I2
       clear IS
       have IS := Aside0.mk ((I.out.imp (fun _ _ => trivial)).sub (.cons _ (.cons_cons _ .slnil)))
       refine ⟨_, rfl, IS.out, ?_⟩
       refine pu1 (i := 7) rfl rfl kk ?_ (ha := by (go_simp; rfl))
       refine pu1 (i := 8) rfl rfl kk ?_ (ha := by (go_simp; rfl))
       refine sl1 (i := 9) rfl rfl kk (by decide) rfl rfl rfl I.out zm (by first | exact sr_st) zu (fun w1 hI => ?_)
       clear I
       have I := Aside0.mk hI
       clear hI
       refine pu1 (i := 10) rfl rfl kk ?_ (ha := by (go_simp; rfl))
       refine do1 kk ?_
       clear IS
       try go_wp2
       refine bodyPost_ret (ret_ct rfl _ I.out _ rfl zm Tryz.underlying28 rfl kk) rfl ?_
       exact ⟨_, rfl, foot_new (I.out.foot.imp (fun W hW => hW.2)), I.out.below⟩
     have m1 : decide (60 < (t2 - se).tdiv 2) = false := decide_eq_false hm
     replace hm : (t2 - se).tdiv 2 ≤ 60 := by omega
     have em : max 60 ((t2 - se).tdiv 2) = 60 := by omega
     have eF : tickF ⟨c, h, 4, xid, sv, ⟨v6, hi, lo⟩, t1, t2, un, se, at_⟩ now = stepF ⟨c, h, 4, xid, sv, ⟨v6, hi, lo⟩, t1, t2, un, se, at_⟩ 3 sv ⟨v6, hi, lo⟩ [] 4 at_ now := by unfold tickF; exact (if_neg (show ¬ (4 : Int) = 0 by decide)).trans ((if_neg (fun hq => hq.elim (show ¬ (4 : Int) = 1 by decide) (show ¬ (4 : Int) = 2 by decide))).trans ((if_neg hn).trans ((if_neg (fun hq => h22 hq.2)).trans ((if_neg (fun hq => absurd hq.1 (show ¬ (4 : Int) = 3 by decide))).trans (if_pos ⟨rfl, ha⟩)))))
     rw [eF]
     clear eF
     have ag : decide (min (se + 60) 4294967295 ≤ now) = true := by rw [em] at ha; exact decide_eq_true ha
     clear ha
     have I := Aside0.mk (Inv.start0 (w0 := w))
     go_enter Tryz.func7, Tryz.ntmps7
     go_wp2_with (first
      | (refine gB rfl ?_; refine bk rfl rfl rfl I ?_; clear I; intro gb w1 I)
      | (refine ak rfl (al_S rfl) I ?_; clear I; intro gb w1 I)
      | (refine gL rfl ?_; refine ll rfl rfl rfl I zm (by first | exact ld_st2 | exact ld_st9 | exact ld_st10 | exact ld_st11 | exact ld_st8 | exact ld_st) ?_)
      | (refine gD 42 rfl ?_; refine ck rfl Tryz.func29 kk rfl #[.int .i64 se, .int .i64 (60)] rfl zh (after_c se (60) _ hs.1 hs.2 (by decide) (by decide)) ?_; rintro e_ w1 ⟨rfl, rfl⟩; refine ⟨_, rfl, ?_⟩; skip)
      | (refine gS rfl ?_; refine sk rfl rfl rfl rfl rfl I zm (by first | exact sr_st) zu ?_; clear I; intro w1 I)
      )
     have IS := Aside0.mk (I.out.sub (.cons _ (.cons_cons _ .slnil))).drew
     refine draw_ (Inv _ w [_] _) [9] kk rfl IS.out ?_
     have I2 := Aside0.mk I.out.drew
     clear I
     have I := I2
     clear I2
     refine ta1 (i := 0) rfl rfl kk rfl rfl IS.out zm (by exact ld_st) ?_ (ha := by (go_simp; rfl))
     refine ta1 (i := 1) rfl rfl kk rfl rfl IS.out zm (by exact ld_st) ?_ (ha := by (go_simp; rfl))
     refine pu1 (i := 3) rfl rfl kk ?_ (ha := by (go_simp; rfl))
     refine ta1 (i := 4) rfl rfl kk rfl rfl IS.out zm (by exact ld_st12) ?_ (ha := by (go_simp; rfl))
     refine pu1 (i := 5) rfl rfl kk ?_ (ha := by (go_simp; rfl))
     refine ca1 (i := 2) rfl rfl kk (by decide) Tryz.func31 kk rfl #[.agg (stC c h 4 xid sv v6 hi lo t1 t2 un se at_), .bool false] rfl zh ?_
     refine (renewal_c c h 4 xid sv v6 hi lo t1 t2 un se at_ false _).mono ?_
     rintro e_ w1 ⟨rfl, hb⟩
     have I2 := Aside0.mk (I.out.call hb)
     clear I hb
     have I := I2
     clear I2
     clear IS
     have IS := Aside0.mk ((I.out.imp (fun _ _ => trivial)).sub (.cons _ (.cons_cons _ .slnil)))
     refine ⟨_, rfl, IS.out, ?_⟩
     refine ca1 (i := 6) rfl rfl kk (by decide) Tryz.func26 kk rfl #[.agg (stC c h 4 xid sv v6 hi lo t1 t2 un se at_), .agg (pkC 3 0 sv (⟨#[]⟩ : ByteArray) v6 hi lo false 0 0 false 0 0 false (.slice none 0 0)), .int .i64 (4), .int .i64 (at_), .int .i64 now] rfl zh ?_
     refine (step_c ⟨c, h, 4, xid, sv, ⟨v6, hi, lo⟩, t1, t2, un, se, at_⟩ 3 sv ⟨v6, hi, lo⟩ none 0 [] (fun _ => False) (4) (at_) now _ hx0 (foot_no _ none 0) (Nat.le_refl _) okO_nil).mono ?_
     rintro e_ w1 ⟨v, rfl, hf, hb⟩
     have I2 := Aside0.mk (I.out.addNew hb hf (fun k hk _ => hk.elim False.elim (fun h_ => I.out.new_out k h_)))
     clear hf
     clear I hb
     have I := I2
     clear I2
     clear IS
     have IS := Aside0.mk ((I.out.imp (fun _ _ => trivial)).sub (.cons _ (.cons_cons _ .slnil)))
     refine ⟨_, rfl, IS.out, ?_⟩
     refine pu1 (i := 7) rfl rfl kk ?_ (ha := by (go_simp; rfl))
     refine pu1 (i := 8) rfl rfl kk ?_ (ha := by (go_simp; rfl))
     refine sl1 (i := 9) rfl rfl kk (by decide) rfl rfl rfl I.out zm (by first | exact sr_st) zu (fun w1 hI => ?_)
     clear I
     have I := Aside0.mk hI
     clear hI
     refine pu1 (i := 10) rfl rfl kk ?_ (ha := by (go_simp; rfl))
     refine do1 kk ?_
     clear IS
     try go_wp2
     refine bodyPost_ret (ret_ct rfl _ I.out _ rfl zm Tryz.underlying28 rfl kk) rfl ?_
     exact ⟨_, rfl, foot_new (I.out.foot.imp (fun W hW => hW.2)), I.out.below⟩
   by_cases hm : 60 < (t2 - se).tdiv 2
   · have m1 : decide (60 < (t2 - se).tdiv 2) = true := decide_eq_true hm
     have em : max 60 ((t2 - se).tdiv 2) = (t2 - se).tdiv 2 := by omega
     have hd := td2 (x := t2 - se) (by omega) (by omega)
     have eF : tickF ⟨c, h, 4, xid, sv, ⟨v6, hi, lo⟩, t1, t2, un, se, at_⟩ now = (⟨c, h, 4, xid, sv, ⟨v6, hi, lo⟩, t1, t2, un, se, at_⟩, []) := by unfold tickF; exact (if_neg (show ¬ (4 : Int) = 0 by decide)).trans ((if_neg (fun hq => hq.elim (show ¬ (4 : Int) = 1 by decide) (show ¬ (4 : Int) = 2 by decide))).trans ((if_neg hn).trans ((if_neg (fun hq => h22 hq.2)).trans ((if_neg (fun hq => absurd hq.1 (show ¬ (4 : Int) = 3 by decide))).trans ((if_neg (fun hq => ha hq.2)).trans (if_neg (fun hq => absurd hq.1 (show ¬ (4 : Int) = 5 by decide))))))))
     rw [eF]
     clear eF
     have ag : decide (min (se + (t2 - se).tdiv 2) 4294967295 ≤ now) = false := by rw [em] at ha; exact decide_eq_false ha
     clear ha
     have I := Aside0.mk (Inv.start0 (w0 := w))
     go_enter Tryz.func7, Tryz.ntmps7
     go_wp2_with (first
      | (refine gB rfl ?_; refine bk rfl rfl rfl I ?_; clear I; intro gb w1 I)
      | (refine ak rfl (al_S rfl) I ?_; clear I; intro gb w1 I)
      | (refine gL rfl ?_; refine ll rfl rfl rfl I zm (by first | exact ld_st2 | exact ld_st9 | exact ld_st10 | exact ld_st11 | exact ld_st8 | exact ld_st) ?_)
      | (refine gD 42 rfl ?_; refine ck rfl Tryz.func29 kk rfl #[.int .i64 se, .int .i64 ((t2 - se).tdiv 2)] rfl zh (after_c se ((t2 - se).tdiv 2) _ hs.1 hs.2 hd.1 hd.2) ?_; rintro e_ w1 ⟨rfl, rfl⟩; refine ⟨_, rfl, ?_⟩; skip)
      | (refine gS rfl ?_; refine sk rfl rfl rfl rfl rfl I zm (by first | exact sr_st) zu ?_; clear I; intro w1 I)
      )
     refine bodyPost_ret (ret_ct rfl _ I.out _ rfl zm Tryz.underlying28 rfl kk) rfl ?_
     exact ⟨_, rfl, Pks_nil _ _, I.out.below⟩
   have m1 : decide (60 < (t2 - se).tdiv 2) = false := decide_eq_false hm
   replace hm : (t2 - se).tdiv 2 ≤ 60 := by omega
   have em : max 60 ((t2 - se).tdiv 2) = 60 := by omega
   have eF : tickF ⟨c, h, 4, xid, sv, ⟨v6, hi, lo⟩, t1, t2, un, se, at_⟩ now = (⟨c, h, 4, xid, sv, ⟨v6, hi, lo⟩, t1, t2, un, se, at_⟩, []) := by unfold tickF; exact (if_neg (show ¬ (4 : Int) = 0 by decide)).trans ((if_neg (fun hq => hq.elim (show ¬ (4 : Int) = 1 by decide) (show ¬ (4 : Int) = 2 by decide))).trans ((if_neg hn).trans ((if_neg (fun hq => h22 hq.2)).trans ((if_neg (fun hq => absurd hq.1 (show ¬ (4 : Int) = 3 by decide))).trans ((if_neg (fun hq => ha hq.2)).trans (if_neg (fun hq => absurd hq.1 (show ¬ (4 : Int) = 5 by decide))))))))
   rw [eF]
   clear eF
   have ag : decide (min (se + 60) 4294967295 ≤ now) = false := by rw [em] at ha; exact decide_eq_false ha
   clear ha
   have I := Aside0.mk (Inv.start0 (w0 := w))
   go_enter Tryz.func7, Tryz.ntmps7
   go_wp2_with (first
    | (refine gB rfl ?_; refine bk rfl rfl rfl I ?_; clear I; intro gb w1 I)
    | (refine ak rfl (al_S rfl) I ?_; clear I; intro gb w1 I)
    | (refine gL rfl ?_; refine ll rfl rfl rfl I zm (by first | exact ld_st2 | exact ld_st9 | exact ld_st10 | exact ld_st11 | exact ld_st8 | exact ld_st) ?_)
    | (refine gD 42 rfl ?_; refine ck rfl Tryz.func29 kk rfl #[.int .i64 se, .int .i64 (60)] rfl zh (after_c se (60) _ hs.1 hs.2 (by decide) (by decide)) ?_; rintro e_ w1 ⟨rfl, rfl⟩; refine ⟨_, rfl, ?_⟩; skip)
    | (refine gS rfl ?_; refine sk rfl rfl rfl rfl rfl I zm (by first | exact sr_st) zu ?_; clear I; intro w1 I)
    )
   refine bodyPost_ret (ret_ct rfl _ I.out _ rfl zm Tryz.underlying28 rfl kk) rfl ?_
   exact ⟨_, rfl, Pks_nil _ _, I.out.below⟩
 have b3 : (st == 3) = false := beq_eq_false_iff_ne.mpr s3
 have b4 : (st == 4) = false := beq_eq_false_iff_ne.mpr s4
 by_cases hm : 60 < (t2 - se).tdiv 2
 · have m1 : decide (60 < (t2 - se).tdiv 2) = true := decide_eq_true hm
   have em : max 60 ((t2 - se).tdiv 2) = (t2 - se).tdiv 2 := by omega
   have hd := td2 (x := t2 - se) (by omega) (by omega)
   have eF : tickF ⟨c, h, st, xid, sv, ⟨v6, hi, lo⟩, t1, t2, un, se, at_⟩ now = (⟨c, h, st, xid, sv, ⟨v6, hi, lo⟩, t1, t2, un, se, at_⟩, []) := by unfold tickF; exact (if_neg s0).trans ((if_neg e12).trans ((if_neg hn).trans ((if_neg (fun hq => h22 hq.2)).trans ((if_neg (fun hq => s3 hq.1)).trans ((if_neg (fun hq => s4 hq.1)).trans (if_neg (fun hq => s5 hq.1)))))))
   rw [eF]
   clear eF
   have I := Aside0.mk (Inv.start0 (w0 := w))
   go_enter Tryz.func7, Tryz.ntmps7
   go_wp2_with (first
    | (refine gB rfl ?_; refine bk rfl rfl rfl I ?_; clear I; intro gb w1 I)
    | (refine ak rfl (al_S rfl) I ?_; clear I; intro gb w1 I)
    | (refine gL rfl ?_; refine ll rfl rfl rfl I zm (by first | exact ld_st2 | exact ld_st9 | exact ld_st10 | exact ld_st11 | exact ld_st8 | exact ld_st) ?_)
    | (refine gD 42 rfl ?_; refine ck rfl Tryz.func29 kk rfl #[.int .i64 se, .int .i64 ((t2 - se).tdiv 2)] rfl zh (after_c se ((t2 - se).tdiv 2) _ hs.1 hs.2 hd.1 hd.2) ?_; rintro e_ w1 ⟨rfl, rfl⟩; refine ⟨_, rfl, ?_⟩; skip)
    | (refine gS rfl ?_; refine sk rfl rfl rfl rfl rfl I zm (by first | exact sr_st) zu ?_; clear I; intro w1 I)
    )
   refine bodyPost_ret (ret_ct rfl _ I.out _ rfl zm Tryz.underlying28 rfl kk) rfl ?_
   exact ⟨_, rfl, Pks_nil _ _, I.out.below⟩
 have m1 : decide (60 < (t2 - se).tdiv 2) = false := decide_eq_false hm
 replace hm : (t2 - se).tdiv 2 ≤ 60 := by omega
 have em : max 60 ((t2 - se).tdiv 2) = 60 := by omega
 have eF : tickF ⟨c, h, st, xid, sv, ⟨v6, hi, lo⟩, t1, t2, un, se, at_⟩ now = (⟨c, h, st, xid, sv, ⟨v6, hi, lo⟩, t1, t2, un, se, at_⟩, []) := by unfold tickF; exact (if_neg s0).trans ((if_neg e12).trans ((if_neg hn).trans ((if_neg (fun hq => h22 hq.2)).trans ((if_neg (fun hq => s3 hq.1)).trans ((if_neg (fun hq => s4 hq.1)).trans (if_neg (fun hq => s5 hq.1)))))))
 rw [eF]
 clear eF
 have I := Aside0.mk (Inv.start0 (w0 := w))
 go_enter Tryz.func7, Tryz.ntmps7
 go_wp2_with (first
  | (refine gB rfl ?_; refine bk rfl rfl rfl I ?_; clear I; intro gb w1 I)
  | (refine ak rfl (al_S rfl) I ?_; clear I; intro gb w1 I)
  | (refine gL rfl ?_; refine ll rfl rfl rfl I zm (by first | exact ld_st2 | exact ld_st9 | exact ld_st10 | exact ld_st11 | exact ld_st8 | exact ld_st) ?_)
  | (refine gD 42 rfl ?_; refine ck rfl Tryz.func29 kk rfl #[.int .i64 se, .int .i64 (60)] rfl zh (after_c se (60) _ hs.1 hs.2 (by decide) (by decide)) ?_; rintro e_ w1 ⟨rfl, rfl⟩; refine ⟨_, rfl, ?_⟩; skip)
  | (refine gS rfl ?_; refine sk rfl rfl rfl rfl rfl I zm (by first | exact sr_st) zu ?_; clear I; intro w1 I)
  )
 refine bodyPost_ret (ret_ct rfl _ I.out _ rfl zm Tryz.underlying28 rfl kk) rfl ?_
 exact ⟨_, rfl, Pks_nil _ _, I.out.below⟩
end Go.Proofs.YtlabnocmmeciaaaGreatDoor.BQ
namespace Go.Proofs.YtlabnocmmeciaaaGreatDoor.BQ
open Go RowKit YtlabnocmmeciaaaGreatDoorW.PrintWords YtlabnocmmeciaaaGreatDoorW.PrintLast YtlabnocmmeciaaaGreatDoorW.PrintMore Pa STN
theorem ret_agg {a b : Array Value} (h : a = b) : Ending.returned (.agg a) = .returned (.agg b) := by rw [h]
def spC (kd by_ : Int) (ki pxid psv : Int) (pc : ByteArray) (v1 : Bool) (hi1 lo1 : Int) (v2 : Bool) (hi2 lo2 : Int) (v3 : Bool) (hi3 lo3 : Int) (hr : Bool) (o : Value) (own : Bool) : Array Value := #[.int .u8 kd, .int .u32 by_, .int .i64 ki, .int .i64 pxid, .int .i64 psv, .string pc, .bool v1, .int .u64 hi1, .int .u64 lo1, .bool v2, .int .u64 hi2, .int .u64 lo2, .bool v3, .int .u64 hi3, .int .u64 lo3, .bool hr, o, .bool own]
theorem ld_sp2 {kd by_ : Int} {ki pxid psv : Int} {pc : ByteArray} {v1 : Bool} {hi1 lo1 : Int} {v2 : Bool} {hi2 lo2 : Int} {v3 : Bool} {hi3 lo3 : Int} {hr : Bool} {o : Value} {own : Bool} : Ld Tryz.prog 38 (spC kd by_ ki pxid psv pc v1 hi1 lo1 v2 hi2 lo2 v3 hi3 lo3 hr o own) 2 (.agg (pkC ki pxid psv pc v1 hi1 lo1 v2 hi2 lo2 v3 hi3 lo3 hr o)) :=
  ld_mid _ Tryz.underlying38 rfl (pkC ki pxid psv pc v1 hi1 lo1 v2 hi2 lo2 v3 hi3 lo3 hr o).toList kk (fun j v hv => by
    match j, hv with
    | 0, hv => exact hv
    | 1, hv => exact hv
    | 2, hv => exact hv
    | 3, hv => exact hv
    | 4, hv => exact hv
    | 5, hv => exact hv
    | 6, hv => exact hv
    | 7, hv => exact hv
    | 8, hv => exact hv
    | 9, hv => exact hv
    | 10, hv => exact hv
    | 11, hv => exact hv
    | 12, hv => exact hv
    | 13, hv => exact hv
    | 14, hv => exact hv
    | j + 15, hv => exact absurd hv (by simp [pkC]))
theorem ld_sp17 {kd by_ : Int} {ki pxid psv : Int} {pc : ByteArray} {v1 : Bool} {hi1 lo1 : Int} {v2 : Bool} {hi2 lo2 : Int} {v3 : Bool} {hi3 lo3 : Int} {hr : Bool} {o : Value} {own : Bool} : Ld Tryz.prog 4 (spC kd by_ ki pxid psv pc v1 hi1 lo1 v2 hi2 lo2 v3 hi3 lo3 hr o own) 17 (.bool own) := ld_of _ Tryz.underlying4 rfl rfl
theorem message_c (kd by_ : Int) (ki pxid psv : Int) (pc : ByteArray) (v1 : Bool) (hi1 lo1 : Int) (v2 : Bool) (hi2 lo2 : Int) (v3 : Bool) (hi3 lo3 : Int) (hr : Bool) (A : Option Addr) (n cc : Nat) (own : Bool) (xid : Int) (v6 : Bool) (hi lo : Int) (w : World) (hx : 0 ≤ xid ∧ xid ≤ 4294967295) (hp : -9223372036854775808 ≤ pxid ∧ pxid ≤ 9223372036854775807) :
  Calls Tryz.prog 9 #[.agg (spC kd by_ ki pxid psv pc v1 hi1 lo1 v2 hi2 lo2 v3 hi3 lo3 hr (.slice A n cc) own), .int .i64 xid, .agg #[.bool v6, .int .u64 hi, .int .u64 lo]] w fun e w' => e = .returned (.agg (pkC ki (if pxid < 0 then (if 0 < xid + pxid + 1 then xid + pxid + 1 else 0) else pxid) psv pc v1 hi1 lo1 (if own then v6 else v2) (if own then hi else hi2) (if own then lo else lo2) v3 hi3 lo3 hr (.slice A n cc))) ∧ Below w.heap.size w w' := by
 have hu26 := Tryz.underlying28
 have hu39 := Tryz.underlying38
 have hu24 := Tryz.underlying26
 have I := Aside0.mk (Inv.start0 (w0 := w))
 by_cases hn : pxid < 0
 · have e1 : decide (pxid < 0) = true := decide_eq_true hn
   rw [if_pos hn]
   cases own
   ·
     go_enter Tryz.func9, Tryz.ntmps9
     go_wp2_with (first
      | (refine gB rfl ?_; refine bk rfl rfl rfl I ?_; clear I; intro gb w1 I)
      | (refine ak rfl (al_P rfl) I ?_; clear I; intro gb w1 I)
      | ((with_reducible refine gate_ld rfl ?_); (try (refine gate_guard (by rfl) ?_; dsimp only)); refine wl_ld rfl rfl rfl I.out zm (by first | exact ld_sp2 | exact ld_sp17 | exact ld_ad | exact ld_pk1 | exact ld_pk) ?_)
      | (refine gS rfl ?_; refine sk rfl rfl rfl rfl rfl I zm (by first | exact sr_pk1 | exact sr_pkA7 | exact sr_pk rfl) zu ?_; clear I; intro w1 I)
      )
     all_goals (refine bodyPost_ret (ret_c rfl _ I.out _ rfl zm Tryz.underlying38 rfl kk) rfl ?_; refine ⟨?_, I.out.below⟩; first | rfl | (exact ret_agg (by first | rw [if_pos (by omega)] | rw [if_neg (by omega)] | rw [Int.max_eq_right (by omega)] | rw [Int.max_eq_left (by omega)])))
   ·
     go_enter Tryz.func9, Tryz.ntmps9
     go_wp2_with (first
      | (refine gB rfl ?_; refine bk rfl rfl rfl I ?_; clear I; intro gb w1 I)
      | (refine ak rfl (al_P rfl) I ?_; clear I; intro gb w1 I)
      | ((with_reducible refine gate_ld rfl ?_); (try (refine gate_guard (by rfl) ?_; dsimp only)); refine wl_ld rfl rfl rfl I.out zm (by first | exact ld_sp2 | exact ld_sp17 | exact ld_ad | exact ld_pk1 | exact ld_pk) ?_)
      | (refine gS rfl ?_; refine sk rfl rfl rfl rfl rfl I zm (by first | exact sr_pk1 | exact sr_pkA7 | exact sr_pk rfl) zu ?_; clear I; intro w1 I)
      )
     all_goals (refine bodyPost_ret (ret_c rfl _ I.out _ rfl zm Tryz.underlying38 rfl kk) rfl ?_; refine ⟨?_, I.out.below⟩; first | rfl | (exact ret_agg (by first | rw [if_pos (by omega)] | rw [if_neg (by omega)] | rw [Int.max_eq_right (by omega)] | rw [Int.max_eq_left (by omega)])))
 have e1 : decide (pxid < 0) = false := decide_eq_false hn
 rw [if_neg hn]
 clear hn
 cases own
 ·
   go_enter Tryz.func9, Tryz.ntmps9
   go_wp2_with (first
    | (refine gB rfl ?_; refine bk rfl rfl rfl I ?_; clear I; intro gb w1 I)
    | (refine ak rfl (al_P rfl) I ?_; clear I; intro gb w1 I)
    | ((with_reducible refine gate_ld rfl ?_); (try (refine gate_guard (by rfl) ?_; dsimp only)); refine wl_ld rfl rfl rfl I.out zm (by first | exact ld_sp2 | exact ld_sp17 | exact ld_ad | exact ld_pk1 | exact ld_pk) ?_)
    | (refine gS rfl ?_; refine sk rfl rfl rfl rfl rfl I zm (by first | exact sr_pk1 | exact sr_pkA7 | exact sr_pk rfl) zu ?_; clear I; intro w1 I)
    )
   all_goals (refine bodyPost_ret (ret_c rfl _ I.out _ rfl zm Tryz.underlying38 rfl kk) rfl ?_; refine ⟨?_, I.out.below⟩; first | rfl | (exact ret_agg (by first | rw [if_pos (by omega)] | rw [if_neg (by omega)] | rw [Int.max_eq_right (by omega)] | rw [Int.max_eq_left (by omega)])))
 ·
   go_enter Tryz.func9, Tryz.ntmps9
   go_wp2_with (first
    | (refine gB rfl ?_; refine bk rfl rfl rfl I ?_; clear I; intro gb w1 I)
    | (refine ak rfl (al_P rfl) I ?_; clear I; intro gb w1 I)
    | ((with_reducible refine gate_ld rfl ?_); (try (refine gate_guard (by rfl) ?_; dsimp only)); refine wl_ld rfl rfl rfl I.out zm (by first | exact ld_sp2 | exact ld_sp17 | exact ld_ad | exact ld_pk1 | exact ld_pk) ?_)
    | (refine gS rfl ?_; refine sk rfl rfl rfl rfl rfl I zm (by first | exact sr_pk1 | exact sr_pkA7 | exact sr_pk rfl) zu ?_; clear I; intro w1 I)
    )
   all_goals (refine bodyPost_ret (ret_c rfl _ I.out _ rfl zm Tryz.underlying38 rfl kk) rfl ?_; refine ⟨?_, I.out.below⟩; first | rfl | (exact ret_agg (by first | rw [if_pos (by omega)] | rw [if_neg (by omega)] | rw [Int.max_eq_right (by omega)] | rw [Int.max_eq_left (by omega)])))
theorem ld_stR {c h : ByteArray} {st xid sv : Int} {v6 : Bool} {hi lo t1 t2 un se at_ : Int} : Ld Tryz.prog 32 (stC c h st xid sv v6 hi lo t1 t2 un se at_) 0 (.agg (stC c h st xid sv v6 hi lo t1 t2 un se at_)) := ld_row _ Tryz.underlying32 rfl kk
theorem sr_stR {c h : ByteArray} {st xid sv : Int} {v6 : Bool} {hi lo t1 t2 un se at_ : Int} {cs : Array Value} (hs : cs.size = 13 := by rfl) : Sr Tryz.prog 32 cs 0 (.agg (stC c h st xid sv v6 hi lo t1 t2 un se at_)) (stC c h st xid sv v6 hi lo t1 t2 un se at_) := sr_row kk (by rw [hs]; rfl) (by simp [stC, Value.oneCell'])
theorem ld_aR {a : Bool} {b d : Int} : Ld Tryz.prog 26 #[.bool a, .int .u64 b, .int .u64 d] 0 (.agg #[.bool a, .int .u64 b, .int .u64 d]) := ld_row _ Tryz.underlying26 rfl kk
theorem can_c (c h : ByteArray) (st xid sv : Int) (v6 : Bool) (hi lo t1 t2 un se at_ : Int) (w : World) : Calls Tryz.prog 41 #[.agg (stC c h st xid sv v6 hi lo t1 t2 un se at_)] w fun e w' => e = .returned (.bool (decide (xid < 4294967295))) ∧ Below w.heap.size w w' := by
 have hu32 := Tryz.underlying32
 have hu26 := Tryz.underlying28
 have hu39 := Tryz.underlying38
 have hu24 := Tryz.underlying26
 have I := Aside0.mk (Inv.start0 (w0 := w))
 go_enter Tryz.func41, Tryz.ntmps41
 go_wp2_with (first
  | (refine gB rfl ?_; refine bk rfl rfl rfl I ?_; clear I; intro gb w1 I)
  | (refine gD 4 rfl ?_; refine ll rfl rfl rfl I mm0 ld_st3 ?_)
  )
 go_ret
 exact ⟨rfl, I.out.below⟩
theorem rinit_c (c h : ByteArray) (st xid sv : Int) (v6 : Bool) (hi lo t1 t2 un se at_ : Int) (w : World) : Calls Tryz.prog 43 #[.agg (stC c h st xid sv v6 hi lo t1 t2 un se at_)] w fun e w' => e = .returned (.agg (stC c h 0 xid 0 false 0 0 0 0 0 0 0)) ∧ Below w.heap.size w w' := by
 have hu32 := Tryz.underlying32
 have hu26 := Tryz.underlying28
 have hu39 := Tryz.underlying38
 have hu24 := Tryz.underlying26
 have I := Aside0.mk (Inv.start0 (w0 := w))
 go_enter Tryz.func43, Tryz.ntmps43
 go_wp2_with (first
  | (refine gB rfl ?_; refine bk rfl rfl rfl I ?_; clear I; intro gb w1 I)
  | (refine ak rfl (al_R rfl) I ?_; clear I; intro gb w1 I)
  | (refine gD 4 rfl ?_; refine ll rfl rfl rfl I mm1 ld_st0 ?_)
  | (refine gD 6 rfl ?_; refine ll rfl rfl rfl I mm1 ld_st1 ?_)
  | (refine gD 8 rfl ?_; refine ll rfl rfl rfl I mm1 ld_st3 ?_)
  | (refine gS rfl ?_; refine sk rfl rfl rfl rfl rfl I zm (by first | exact sr_stR) zu ?_; clear I; intro w1 I)
  )
 refine bodyPost_ret (ret_c rfl _ I.out _ rfl zm Tryz.underlying32 rfl kk) rfl ?_
 exact ⟨rfl, I.out.below⟩
section
variable {α : Type} {d : Kd α} {B : Nat → Prop} {w0 w w1 wA : World} {L : Bxs} {F : World → Prop} {e : Nat} {v : Value} {l : List α}
theorem Inv.grown (I : Inv B w0 L F w) {o : Option Nat} (hg : w.grownBy w1 o) (ho : ∀ k, o = some k → Out L k ∧ w0.heap.size ≤ k) (hb : Below w0.heap.size w0 w1) : Inv B w0 L (fun _ => True) w1 := by
  refine ⟨hb, fun b h => (hg.block _ (I.lt h) (fun e => (ho _ e.symm).1 b h rfl)).trans (I.box b h), I.own, I.nodup, fun W' _ => trivial⟩
theorem lts (I : Inv B w0 L F w) : ∀ g ∈ L.map (·.1), g < w.heap.size := fun g hg => by
  obtain ⟨b, hb, rfl⟩ := List.mem_map.1 hg
  exact I.lt hb
theorem R_or {ok : Nat → Prop} {base : Nat} (h : d.R e w base ok v l) (n : Nat) : d.R e w base (fun k => ok k ∨ n ≤ k) v l := Kd.R_mono h (fun k hk => .inl hk)
theorem Inv.regrown (I : Inv B w0 L F w) {ok : Nat → Prop} (hok : ∀ k, ok k → wA.heap.size ≤ k ∨ w.heap.size ≤ k) (hR0 : ∀ k, v.ownBlock = some k → ok k) {v1 : Value} (hg : w.grownBy w1 v.ownBlock) (hA : w0.heap.size ≤ wA.heap.size) (hL : ∀ g ∈ L.map (·.1), g < wA.heap.size) (hb : Below w0.heap.size w0 w1) (hR : d.R e w1 w0.heap.size ok v1 l) :
    ∃ A c, v1 = .slice A l.length c ∧ l.length ≤ c ∧ Inv B w0 L (fun W => True ∧ d.C W A l.length l) w1 := by
  have hout : ∀ k, ok k → Out L k ∧ w0.heap.size ≤ k := fun k hk => by
    rcases hok k hk with h | h
    · exact ⟨fun b hb e => by have := hL b.1 (List.mem_map.2 ⟨b, hb, rfl⟩); omega, Nat.le_trans hA h⟩
    · exact ⟨fun b hb e => by have := I.lt hb; omega, Nat.le_trans I.below.size h⟩
  obtain ⟨A, c, rfl⟩ := Kd.R_slice hR
  have I1 := I.grown (o := v.ownBlock) hg (fun k hk => hout k (hR0 k hk)) hb
  exact ⟨A, c, rfl, (Kd.R_reads' hR).2.1, I1.add (Kd.F_mono (Kd.R_F (Kd.R_bound hR)) (fun k hk => ⟨.inr (hout k hk.1).2, (hout k hk.1).1⟩))⟩
end
theorem rmsg_c (c h : ByteArray) (st xid sv : Int) (v6 : Bool) (hi lo t1 t2 un se at_ : Int) (ki psv : Int) (y : S26) (wanted : Bool) (vw : ByteArray) (bw : Bool) (w : World) (hW : ddiref35_Value.f 1000 [(⟨v6, hi, lo⟩ : S26)] = some (vw, bw)) :
  Calls Tryz.prog 62 #[.agg (stC c h st xid sv v6 hi lo t1 t2 un se at_), .int .i64 ki, .int .i64 psv, .agg #[.bool y.f0, .int .u64 y.f1, .int .u64 y.f2], .bool wanted] w fun e w' => ∃ g, e = .returned (.slice (some ⟨g, 0, none⟩) 1 1) ∧ Foot (fun W => Kd.C k38 W (some ⟨g, 0, none⟩) 1 [(⟨ki, xid, psv, c, y, zA, zA, false, hostF h ki (if wanted then [⟨50, vw⟩] else [])⟩ : S38)]) w' (fun k => w.heap.size ≤ k) ∧ Below w.heap.size w w' := by
 have hu32 := Tryz.underlying32
 have hu26 := Tryz.underlying28
 have hu39 := Tryz.underlying38
 have hu24 := Tryz.underlying26
 have hu62 := Tryz.underlying62
 have hW := Aside0.mk hW
 have I := Aside0.mk (Inv.start0 (w0 := w))
 cases wanted
 ·
  by_cases hh : h.toList = []
  · have f1 : (h.toList == ([] : List UInt8)) = true := beq_iff_eq.mpr hh
    have f2 : (h.toList != ([] : List UInt8)) = false := bne_eq_false_iff_eq.mpr hh
    have eH : hostF h ki [] = [] := by unfold hostF; rw [if_neg (fun hq => hq.1 hh)]
    rw [show (if (false : Bool) = true then [(⟨50, vw⟩ : S62)] else []) = [] from rfl, eH]
    clear hh eH
    go_enter Tryz.func62, Tryz.ntmps62
    go_wp2_with (first
     | (refine gB rfl ?_; refine bk rfl rfl rfl I ?_; clear I; intro gb w1 I)
     | (refine ak rfl (al_P rfl) I ?_; clear I; intro gb w1 I)
     | (refine gD 16 rfl ?_; refine ll rfl rfl rfl I mm1 ld_st3 ?_)
     | (refine gD 19 rfl ?_; refine ll rfl rfl rfl I mm1 ld_st0 ?_)
     | (refine gD 20 rfl ?_; refine ll rfl rfl rfl I mm0 ld_aR ?_)
     | (refine gD 25 rfl ?_; refine ll rfl rfl rfl I mm2 ld_stA5 ?_)
     | (refine gD 31 rfl ?_; refine ll rfl rfl rfl I mm0 ld_pk14 ?_)
     | (refine gD 38 rfl ?_; refine ll rfl rfl rfl I mm2 ld_st1 ?_)
     | (refine gD 49 rfl ?_; refine ll rfl rfl rfl I mm0 ld_pk14 ?_)
     | (refine gD 51 rfl ?_; refine ll rfl rfl rfl I mm2 ld_st1 ?_)
     | (refine gD 56 rfl ?_; refine ll rfl rfl rfl I mm0 ld_pk ?_)
     | ((with_reducible refine gate_dst (N := 57) rfl ?_); refine wl_val (v := .slice (some ⟨w1.heap.size, 0, none⟩) 1 1) rfl (bs_run (⟨ki, xid, psv, c, y, zA, zA, false, []⟩ : S38) (.slice none ((⟨ki, xid, psv, c, y, zA, zA, false, []⟩ : S38)).f8.length 0) rfl rfl) ?_; have I2 := Aside0.mk (I.out.build (⟨ki, xid, psv, c, y, zA, zA, false, []⟩ : S38) (A := none) (c := 0) (fun W _ => Kd.C_nil _ _) (Nat.le_refl _)); clear I; have I := I2; clear I2)
     | ((with_reducible refine gate_sr rfl ?_); refine wl_sr2 rfl rfl rfl rfl rfl I.out (.head _) (by first | exact sr_pk14 rfl rfl | exact sr_pk rfl) zu ?_; intro w1 hI; clear I; have I := Aside0.mk hI; clear hI)
     )
    go_ret
    exact ⟨_, rfl, (I.out.foot.imp (fun W hW => hW.2)).mono (fun k hk => hk.1.resolve_left id), I.out.below⟩
  have f1 : (h.toList == ([] : List UInt8)) = false := beq_eq_false_iff_ne.mpr hh
  have f2 : (h.toList != ([] : List UInt8)) = true := bne_iff_ne.mpr hh
  by_cases k1 : ki = 1
  · have g1 : (ki == 1) = true := beq_iff_eq.mpr k1
    have eH : hostF h ki [] = [⟨12, h⟩] := by unfold hostF; rw [if_pos ⟨hh, .inl k1⟩]; rfl
    rw [show (if (false : Bool) = true then [(⟨50, vw⟩ : S62)] else []) = [] from rfl, eH]
    clear hh eH k1
    go_enter Tryz.func62, Tryz.ntmps62
    go_wp2_with (first
     | (refine gB rfl ?_; refine bk rfl rfl rfl I ?_; clear I; intro gb w1 I)
     | (refine ak rfl (al_P rfl) I ?_; clear I; intro gb w1 I)
     | (refine gD 16 rfl ?_; refine ll rfl rfl rfl I mm1 ld_st3 ?_)
     | (refine gD 19 rfl ?_; refine ll rfl rfl rfl I mm1 ld_st0 ?_)
     | (refine gD 20 rfl ?_; refine ll rfl rfl rfl I mm0 ld_aR ?_)
     | (refine gD 25 rfl ?_; refine ll rfl rfl rfl I mm2 ld_stA5 ?_)
     | (refine gD 31 rfl ?_; refine ll rfl rfl rfl I mm0 ld_pk14 ?_)
     | (refine gD 38 rfl ?_; refine ll rfl rfl rfl I mm2 ld_st1 ?_)
     | (refine gD 49 rfl ?_; refine ll rfl rfl rfl I mm0 ld_pk14 ?_)
     | (refine gD 51 rfl ?_; refine ll rfl rfl rfl I mm2 ld_st1 ?_)
     | (refine gD 56 rfl ?_; refine ll rfl rfl rfl I mm0 ld_pk ?_)
     | ((with_reducible refine gate_dst (N := 53) rfl ?_); refine wl_val (v := .slice (some ⟨w1.heap.size, 0, none⟩) 1 1) (w1 := World.alloc w1 (.cells #[.int .i64 12, .string h] 62 (0, 0))) rfl (by first | (go_simp; done) | (go_simp; rfl)) ?_)
     | ((with_reducible refine gate_dst (N := 54) rfl ?_); refine Kd.R_append k62 (w0 := w1) (W := w1) w1.heap.size rfl (.tmp 49) (.tmp 53) 36 62 (.agg #[.int .i64 0, .string ⟨#[]⟩]) 24 rfl Tryz.underlying36 info62 (by rfl) (by decide) (by decide) (.slice none 0 0) [] (⟨12, h⟩ : S62) [.int .i64 12, .string h] (fun k => w1.heap.size ≤ k) (fun _ => False) rfl rfl (k62_mkM _ _ _ _) (fun k hk => hk.elim) (fun k hk => hk) (Kd.R_nil _ _ _ _ _) (Below.refl _ _) (Nat.le_refl _) (by simp) ?_; intro v1 w2 hR hb hg hat; have HL := Aside0.mk (lts I.out); have HA := Aside0.mk I.out.below.size; have h0_ := Aside0.mk hR.1; obtain ⟨A1, c1, rfl⟩ := Kd.R_slice hR; have hc1 := Aside0.mk (Kd.R_reads' hR).2.1; have I2 := Aside0.mk (I.out.addM hb hR); clear I hR hb hg hat; have I := I2; clear I2)
     | ((with_reducible refine gate_dst (N := 57) rfl ?_); refine wl_val (v := .slice (some ⟨w1.heap.size, 0, none⟩) 1 1) rfl (bs_run (⟨ki, xid, psv, c, y, zA, zA, false, [⟨12, h⟩]⟩ : S38) (.slice A1 ((⟨ki, xid, psv, c, y, zA, zA, false, [⟨12, h⟩]⟩ : S38)).f8.length c1) rfl rfl) ?_; have I2 := Aside0.mk (I.out.build (⟨ki, xid, psv, c, y, zA, zA, false, [⟨12, h⟩]⟩ : S38) (A := A1) (c := c1) (fun W hW => (Kd.R_reads' hW.2).2.2) hc1.out); clear I; have I := I2; clear I2)
     | ((with_reducible refine gate_sr rfl ?_); refine wl_sr2 rfl rfl rfl rfl rfl I.out (.head _) (by first | exact sr_pk14 rfl rfl | exact sr_pk rfl) zu ?_; intro w1 hI; clear I; have I := Aside0.mk hI; clear hI)
     )
    go_ret
    exact ⟨_, rfl, (I.out.foot.imp (fun W hW => hW.2)).mono (fun k hk => hk.1.resolve_left id), I.out.below⟩
  have g1 : (ki == 1) = false := beq_eq_false_iff_ne.mpr k1
  by_cases k3 : ki = 3
  · have g3 : (ki == 3) = true := beq_iff_eq.mpr k3
    have eH : hostF h ki [] = [⟨12, h⟩] := by unfold hostF; rw [if_pos ⟨hh, .inr k3⟩]; rfl
    rw [show (if (false : Bool) = true then [(⟨50, vw⟩ : S62)] else []) = [] from rfl, eH]
    clear hh eH k3 k1
    go_enter Tryz.func62, Tryz.ntmps62
    go_wp2_with (first
     | (refine gB rfl ?_; refine bk rfl rfl rfl I ?_; clear I; intro gb w1 I)
     | (refine ak rfl (al_P rfl) I ?_; clear I; intro gb w1 I)
     | (refine gD 16 rfl ?_; refine ll rfl rfl rfl I mm1 ld_st3 ?_)
     | (refine gD 19 rfl ?_; refine ll rfl rfl rfl I mm1 ld_st0 ?_)
     | (refine gD 20 rfl ?_; refine ll rfl rfl rfl I mm0 ld_aR ?_)
     | (refine gD 25 rfl ?_; refine ll rfl rfl rfl I mm2 ld_stA5 ?_)
     | (refine gD 31 rfl ?_; refine ll rfl rfl rfl I mm0 ld_pk14 ?_)
     | (refine gD 38 rfl ?_; refine ll rfl rfl rfl I mm2 ld_st1 ?_)
     | (refine gD 49 rfl ?_; refine ll rfl rfl rfl I mm0 ld_pk14 ?_)
     | (refine gD 51 rfl ?_; refine ll rfl rfl rfl I mm2 ld_st1 ?_)
     | (refine gD 56 rfl ?_; refine ll rfl rfl rfl I mm0 ld_pk ?_)
     | ((with_reducible refine gate_dst (N := 53) rfl ?_); refine wl_val (v := .slice (some ⟨w1.heap.size, 0, none⟩) 1 1) (w1 := World.alloc w1 (.cells #[.int .i64 12, .string h] 62 (0, 0))) rfl (by first | (go_simp; done) | (go_simp; rfl)) ?_)
     | ((with_reducible refine gate_dst (N := 54) rfl ?_); refine Kd.R_append k62 (w0 := w1) (W := w1) w1.heap.size rfl (.tmp 49) (.tmp 53) 36 62 (.agg #[.int .i64 0, .string ⟨#[]⟩]) 24 rfl Tryz.underlying36 info62 (by rfl) (by decide) (by decide) (.slice none 0 0) [] (⟨12, h⟩ : S62) [.int .i64 12, .string h] (fun k => w1.heap.size ≤ k) (fun _ => False) rfl rfl (k62_mkM _ _ _ _) (fun k hk => hk.elim) (fun k hk => hk) (Kd.R_nil _ _ _ _ _) (Below.refl _ _) (Nat.le_refl _) (by simp) ?_; intro v1 w2 hR hb hg hat; have HL := Aside0.mk (lts I.out); have HA := Aside0.mk I.out.below.size; have h0_ := Aside0.mk hR.1; obtain ⟨A1, c1, rfl⟩ := Kd.R_slice hR; have hc1 := Aside0.mk (Kd.R_reads' hR).2.1; have I2 := Aside0.mk (I.out.addM hb hR); clear I hR hb hg hat; have I := I2; clear I2)
     | ((with_reducible refine gate_dst (N := 57) rfl ?_); refine wl_val (v := .slice (some ⟨w1.heap.size, 0, none⟩) 1 1) rfl (bs_run (⟨ki, xid, psv, c, y, zA, zA, false, [⟨12, h⟩]⟩ : S38) (.slice A1 ((⟨ki, xid, psv, c, y, zA, zA, false, [⟨12, h⟩]⟩ : S38)).f8.length c1) rfl rfl) ?_; have I2 := Aside0.mk (I.out.build (⟨ki, xid, psv, c, y, zA, zA, false, [⟨12, h⟩]⟩ : S38) (A := A1) (c := c1) (fun W hW => (Kd.R_reads' hW.2).2.2) hc1.out); clear I; have I := I2; clear I2)
     | ((with_reducible refine gate_sr rfl ?_); refine wl_sr2 rfl rfl rfl rfl rfl I.out (.head _) (by first | exact sr_pk14 rfl rfl | exact sr_pk rfl) zu ?_; intro w1 hI; clear I; have I := Aside0.mk hI; clear hI)
     )
    go_ret
    exact ⟨_, rfl, (I.out.foot.imp (fun W hW => hW.2)).mono (fun k hk => hk.1.resolve_left id), I.out.below⟩
  have g3 : (ki == 3) = false := beq_eq_false_iff_ne.mpr k3
  have eH : hostF h ki [] = [] := by unfold hostF; rw [if_neg (fun hq => hq.2.elim k1 k3)]
  rw [show (if (false : Bool) = true then [(⟨50, vw⟩ : S62)] else []) = [] from rfl, eH]
  clear hh eH k1 k3
  go_enter Tryz.func62, Tryz.ntmps62
  go_wp2_with (first
   | (refine gB rfl ?_; refine bk rfl rfl rfl I ?_; clear I; intro gb w1 I)
   | (refine ak rfl (al_P rfl) I ?_; clear I; intro gb w1 I)
   | (refine gD 16 rfl ?_; refine ll rfl rfl rfl I mm1 ld_st3 ?_)
   | (refine gD 19 rfl ?_; refine ll rfl rfl rfl I mm1 ld_st0 ?_)
   | (refine gD 20 rfl ?_; refine ll rfl rfl rfl I mm0 ld_aR ?_)
   | (refine gD 25 rfl ?_; refine ll rfl rfl rfl I mm2 ld_stA5 ?_)
   | (refine gD 31 rfl ?_; refine ll rfl rfl rfl I mm0 ld_pk14 ?_)
   | (refine gD 38 rfl ?_; refine ll rfl rfl rfl I mm2 ld_st1 ?_)
   | (refine gD 49 rfl ?_; refine ll rfl rfl rfl I mm0 ld_pk14 ?_)
   | (refine gD 51 rfl ?_; refine ll rfl rfl rfl I mm2 ld_st1 ?_)
   | (refine gD 56 rfl ?_; refine ll rfl rfl rfl I mm0 ld_pk ?_)
   | ((with_reducible refine gate_dst (N := 57) rfl ?_); refine wl_val (v := .slice (some ⟨w1.heap.size, 0, none⟩) 1 1) rfl (bs_run (⟨ki, xid, psv, c, y, zA, zA, false, []⟩ : S38) (.slice none ((⟨ki, xid, psv, c, y, zA, zA, false, []⟩ : S38)).f8.length 0) rfl rfl) ?_; have I2 := Aside0.mk (I.out.build (⟨ki, xid, psv, c, y, zA, zA, false, []⟩ : S38) (A := none) (c := 0) (fun W _ => Kd.C_nil _ _) (Nat.le_refl _)); clear I; have I := I2; clear I2)
   | ((with_reducible refine gate_sr rfl ?_); refine wl_sr2 rfl rfl rfl rfl rfl I.out (.head _) (by first | exact sr_pk14 rfl rfl | exact sr_pk rfl) zu ?_; intro w1 hI; clear I; have I := Aside0.mk hI; clear hI)
   )
  go_ret
  exact ⟨_, rfl, (I.out.foot.imp (fun W hW => hW.2)).mono (fun k hk => hk.1.resolve_left id), I.out.below⟩
 ·
  by_cases hh : h.toList = []
  · have f1 : (h.toList == ([] : List UInt8)) = true := beq_iff_eq.mpr hh
    have f2 : (h.toList != ([] : List UInt8)) = false := bne_eq_false_iff_eq.mpr hh
    have eH : hostF h ki [⟨50, vw⟩] = [⟨50, vw⟩] := by unfold hostF; rw [if_neg (fun hq => hq.1 hh)]
    rw [show (if (true : Bool) = true then [(⟨50, vw⟩ : S62)] else []) = [⟨50, vw⟩] from rfl, eH]
    clear hh eH
    go_enter Tryz.func62, Tryz.ntmps62
    go_wp2_with (first
     | (refine gB rfl ?_; refine bk rfl rfl rfl I ?_; clear I; intro gb w1 I)
     | (refine ak rfl (al_P rfl) I ?_; clear I; intro gb w1 I)
     | (refine gD 16 rfl ?_; refine ll rfl rfl rfl I mm1 ld_st3 ?_)
     | (refine gD 19 rfl ?_; refine ll rfl rfl rfl I mm1 ld_st0 ?_)
     | (refine gD 20 rfl ?_; refine ll rfl rfl rfl I mm0 ld_aR ?_)
     | (refine gD 25 rfl ?_; refine ll rfl rfl rfl I mm2 ld_stA5 ?_)
     | (refine gD 31 rfl ?_; refine ll rfl rfl rfl I mm0 ld_pk14 ?_)
     | (refine gD 38 rfl ?_; refine ll rfl rfl rfl I mm2 ld_st1 ?_)
     | (refine gD 49 rfl ?_; refine ll rfl rfl rfl I mm0 ld_pk14 ?_)
     | (refine gD 51 rfl ?_; refine ll rfl rfl rfl I mm2 ld_st1 ?_)
     | (refine gD 56 rfl ?_; refine ll rfl rfl rfl I mm0 ld_pk ?_)
     | ((with_reducible refine gate_dst (N := 26) rfl ?_); refine wl_val (v := .slice (some ⟨w1.heap.size, 0, none⟩) 1 1) (w1 := World.alloc w1 (.cells #[.bool v6, .int .u64 hi, .int .u64 lo] 26 (0, 0))) rfl (by first | (go_simp; done) | (go_simp; rfl)) ?_; have I2 := Aside0.mk (I.out.buildK k26 (⟨v6, hi, lo⟩ : S26) #[.bool v6, .int .u64 hi, .int .u64 lo] 26 rfl (fun W _ => k26_mk W ⟨v6, hi, lo⟩)); clear I; have I := I2; clear I2)
     | ((with_reducible refine gate_callee (f := 77) rfl ?_); refine goesL_ (some 27) rfl rfl Tryz.func77 kk rfl #[.slice (some ⟨_, 0, none⟩) 1 1] rfl zh ?_; (refine (ddiref35_Value.calls 1000 _ 1 [(⟨v6, hi, lo⟩ : S26)] vw bw _ I.out.now.2 (Nat.le_refl _) hW.out).mono ?_); rintro e_ w1 ⟨rfl, hb⟩; refine ⟨_, rfl, ?_⟩; have I2 := Aside0.mk ((I.out.imp (fun _ _ => trivial)).call hb (F := fun _ => True)); clear I hb; have I := I2; clear I2)
     | ((with_reducible refine gate_dst (N := 34) rfl ?_); refine wl_val (v := .slice (some ⟨w1.heap.size, 0, none⟩) 1 1) (w1 := World.alloc w1 (.cells #[.int .i64 50, .string vw] 62 (0, 0))) rfl (by first | (go_simp; done) | (go_simp; rfl)) ?_)
     | ((with_reducible refine gate_dst (N := 35) rfl ?_); refine Kd.R_append k62 (w0 := w1) (W := w1) w1.heap.size rfl (.tmp 31) (.tmp 34) 36 62 (.agg #[.int .i64 0, .string ⟨#[]⟩]) 24 rfl Tryz.underlying36 info62 (by rfl) (by decide) (by decide) (.slice none 0 0) [] (⟨50, vw⟩ : S62) [.int .i64 50, .string vw] (fun k => w1.heap.size ≤ k) (fun _ => False) rfl rfl (k62_mkM _ _ _ _) (fun k hk => hk.elim) (fun k hk => hk) (Kd.R_nil _ _ _ _ _) (Below.refl _ _) (Nat.le_refl _) (by simp) ?_; intro v1 w2 hR hb hg hat; have HL := Aside0.mk (lts I.out); have HA := Aside0.mk I.out.below.size; have h0_ := Aside0.mk hR.1; obtain ⟨A1, c1, rfl⟩ := Kd.R_slice hR; have hc1 := Aside0.mk (Kd.R_reads' hR).2.1; have I2 := Aside0.mk (I.out.addM hb hR); clear I hR hb hg hat; have I := I2; clear I2)
     | ((with_reducible refine gate_dst (N := 57) rfl ?_); refine wl_val (v := .slice (some ⟨w1.heap.size, 0, none⟩) 1 1) rfl (bs_run (⟨ki, xid, psv, c, y, zA, zA, false, [⟨50, vw⟩]⟩ : S38) (.slice A1 ((⟨ki, xid, psv, c, y, zA, zA, false, [⟨50, vw⟩]⟩ : S38)).f8.length c1) rfl rfl) ?_; have I2 := Aside0.mk (I.out.build (⟨ki, xid, psv, c, y, zA, zA, false, [⟨50, vw⟩]⟩ : S38) (A := A1) (c := c1) (fun W hW => (Kd.R_reads' hW.2).2.2) hc1.out); clear I; have I := I2; clear I2)
     | ((with_reducible refine gate_sr rfl ?_); refine wl_sr2 rfl rfl rfl rfl rfl I.out (.head _) (by first | exact sr_pk14 rfl rfl | exact sr_pk rfl) zu ?_; intro w1 hI; clear I; have I := Aside0.mk hI; clear hI)
     )
    go_ret
    exact ⟨_, rfl, (I.out.foot.imp (fun W hW => hW.2)).mono (fun k hk => hk.1.resolve_left id), I.out.below⟩
  have f1 : (h.toList == ([] : List UInt8)) = false := beq_eq_false_iff_ne.mpr hh
  have f2 : (h.toList != ([] : List UInt8)) = true := bne_iff_ne.mpr hh
  by_cases k1 : ki = 1
  · have g1 : (ki == 1) = true := beq_iff_eq.mpr k1
    have eH : hostF h ki [⟨50, vw⟩] = [⟨50, vw⟩, ⟨12, h⟩] := by unfold hostF; rw [if_pos ⟨hh, .inl k1⟩]; rfl
    rw [show (if (true : Bool) = true then [(⟨50, vw⟩ : S62)] else []) = [⟨50, vw⟩] from rfl, eH]
    clear hh eH k1
    go_enter Tryz.func62, Tryz.ntmps62
    go_wp2_with (first
     | (refine gB rfl ?_; refine bk rfl rfl rfl I ?_; clear I; intro gb w1 I)
     | (refine ak rfl (al_P rfl) I ?_; clear I; intro gb w1 I)
     | (refine gD 16 rfl ?_; refine ll rfl rfl rfl I mm1 ld_st3 ?_)
     | (refine gD 19 rfl ?_; refine ll rfl rfl rfl I mm1 ld_st0 ?_)
     | (refine gD 20 rfl ?_; refine ll rfl rfl rfl I mm0 ld_aR ?_)
     | (refine gD 25 rfl ?_; refine ll rfl rfl rfl I mm2 ld_stA5 ?_)
     | (refine gD 31 rfl ?_; refine ll rfl rfl rfl I mm0 ld_pk14 ?_)
     | (refine gD 38 rfl ?_; refine ll rfl rfl rfl I mm2 ld_st1 ?_)
     | (refine gD 49 rfl ?_; refine ll rfl rfl rfl I mm0 ld_pk14 ?_)
     | (refine gD 51 rfl ?_; refine ll rfl rfl rfl I mm2 ld_st1 ?_)
     | (refine gD 56 rfl ?_; refine ll rfl rfl rfl I mm0 ld_pk ?_)
     | ((with_reducible refine gate_dst (N := 26) rfl ?_); refine wl_val (v := .slice (some ⟨w1.heap.size, 0, none⟩) 1 1) (w1 := World.alloc w1 (.cells #[.bool v6, .int .u64 hi, .int .u64 lo] 26 (0, 0))) rfl (by first | (go_simp; done) | (go_simp; rfl)) ?_; have I2 := Aside0.mk (I.out.buildK k26 (⟨v6, hi, lo⟩ : S26) #[.bool v6, .int .u64 hi, .int .u64 lo] 26 rfl (fun W _ => k26_mk W ⟨v6, hi, lo⟩)); clear I; have I := I2; clear I2)
     | ((with_reducible refine gate_callee (f := 77) rfl ?_); refine goesL_ (some 27) rfl rfl Tryz.func77 kk rfl #[.slice (some ⟨_, 0, none⟩) 1 1] rfl zh ?_; (refine (ddiref35_Value.calls 1000 _ 1 [(⟨v6, hi, lo⟩ : S26)] vw bw _ I.out.now.2 (Nat.le_refl _) hW.out).mono ?_); rintro e_ w1 ⟨rfl, hb⟩; refine ⟨_, rfl, ?_⟩; have I2 := Aside0.mk ((I.out.imp (fun _ _ => trivial)).call hb (F := fun _ => True)); clear I hb; have I := I2; clear I2)
     | ((with_reducible refine gate_dst (N := 34) rfl ?_); refine wl_val (v := .slice (some ⟨w1.heap.size, 0, none⟩) 1 1) (w1 := World.alloc w1 (.cells #[.int .i64 50, .string vw] 62 (0, 0))) rfl (by first | (go_simp; done) | (go_simp; rfl)) ?_)
     | ((with_reducible refine gate_dst (N := 35) rfl ?_); refine Kd.R_append k62 (w0 := w1) (W := w1) w1.heap.size rfl (.tmp 31) (.tmp 34) 36 62 (.agg #[.int .i64 0, .string ⟨#[]⟩]) 24 rfl Tryz.underlying36 info62 (by rfl) (by decide) (by decide) (.slice none 0 0) [] (⟨50, vw⟩ : S62) [.int .i64 50, .string vw] (fun k => w1.heap.size ≤ k) (fun _ => False) rfl rfl (k62_mkM _ _ _ _) (fun k hk => hk.elim) (fun k hk => hk) (Kd.R_nil _ _ _ _ _) (Below.refl _ _) (Nat.le_refl _) (by simp) ?_; intro v1 w2 hR hb hg hat; have HL := Aside0.mk (lts I.out); have HA := Aside0.mk I.out.below.size; have h0_ := Aside0.mk hR.1; obtain ⟨A1, c1, rfl⟩ := Kd.R_slice hR; have hc1 := Aside0.mk (Kd.R_reads' hR).2.1; have I2 := Aside0.mk (I.out.addM hb hR); clear I hR hb hg hat; have I := I2; clear I2)
     | ((with_reducible refine gate_dst (N := 53) rfl ?_); refine wl_val (v := .slice (some ⟨w1.heap.size, 0, none⟩) 1 1) (w1 := World.alloc w1 (.cells #[.int .i64 12, .string h] 62 (0, 0))) rfl (by first | (go_simp; done) | (go_simp; rfl)) ?_)
     | ((with_reducible refine gate_dst (N := 54) rfl ?_); refine Kd.R_append k62 (w0 := w) (W := w1) w.heap.size rfl (.tmp 49) (.tmp 53) 36 62 (.agg #[.int .i64 0, .string ⟨#[]⟩]) 24 rfl Tryz.underlying36 info62 (by rfl) (by decide) (by decide) (.slice A1 1 c1) [(⟨50, vw⟩ : S62)] (⟨12, h⟩ : S62) [.int .i64 12, .string h] _ (fun _ => False) rfl rfl (k62_mkM _ _ _ _) (fun k hk => hk.elim) (fun k hk => Or.inr hk) (R_or I.out.now.2 w1.heap.size) I.out.below I.out.below.size (by simp) ?_; intro v1 w2 hR hb hg hat; obtain ⟨A2, c2, rfl, hc2, I2⟩ := I.out.regrown (fun k hk => hk) (R_or I.out.now.2 w1.heap.size).1 hg HA.out HL.out hb hR; clear I hR hb hg hat; have I := Aside0.mk I2; clear I2)
     | ((with_reducible refine gate_dst (N := 57) rfl ?_); refine wl_val (v := .slice (some ⟨w1.heap.size, 0, none⟩) 1 1) rfl (bs_run (⟨ki, xid, psv, c, y, zA, zA, false, [⟨50, vw⟩, ⟨12, h⟩]⟩ : S38) (.slice A2 ((⟨ki, xid, psv, c, y, zA, zA, false, [⟨50, vw⟩, ⟨12, h⟩]⟩ : S38)).f8.length c2) rfl rfl) ?_; have I2 := Aside0.mk (I.out.build (⟨ki, xid, psv, c, y, zA, zA, false, [⟨50, vw⟩, ⟨12, h⟩]⟩ : S38) (A := A2) (c := c2) (fun W hW => hW.2) hc2); clear I; have I := I2; clear I2)
     | ((with_reducible refine gate_sr rfl ?_); refine wl_sr2 rfl rfl rfl rfl rfl I.out (.head _) (by first | exact sr_pk14 rfl rfl | exact sr_pk rfl) zu ?_; intro w1 hI; clear I; have I := Aside0.mk hI; clear hI)
     )
    go_ret
    exact ⟨_, rfl, (I.out.foot.imp (fun W hW => hW.2)).mono (fun k hk => hk.1.resolve_left id), I.out.below⟩
  have g1 : (ki == 1) = false := beq_eq_false_iff_ne.mpr k1
  by_cases k3 : ki = 3
  · have g3 : (ki == 3) = true := beq_iff_eq.mpr k3
    have eH : hostF h ki [⟨50, vw⟩] = [⟨50, vw⟩, ⟨12, h⟩] := by unfold hostF; rw [if_pos ⟨hh, .inr k3⟩]; rfl
    rw [show (if (true : Bool) = true then [(⟨50, vw⟩ : S62)] else []) = [⟨50, vw⟩] from rfl, eH]
    clear hh eH k3 k1
    go_enter Tryz.func62, Tryz.ntmps62
    go_wp2_with (first
     | (refine gB rfl ?_; refine bk rfl rfl rfl I ?_; clear I; intro gb w1 I)
     | (refine ak rfl (al_P rfl) I ?_; clear I; intro gb w1 I)
     | (refine gD 16 rfl ?_; refine ll rfl rfl rfl I mm1 ld_st3 ?_)
     | (refine gD 19 rfl ?_; refine ll rfl rfl rfl I mm1 ld_st0 ?_)
     | (refine gD 20 rfl ?_; refine ll rfl rfl rfl I mm0 ld_aR ?_)
     | (refine gD 25 rfl ?_; refine ll rfl rfl rfl I mm2 ld_stA5 ?_)
     | (refine gD 31 rfl ?_; refine ll rfl rfl rfl I mm0 ld_pk14 ?_)
     | (refine gD 38 rfl ?_; refine ll rfl rfl rfl I mm2 ld_st1 ?_)
     | (refine gD 49 rfl ?_; refine ll rfl rfl rfl I mm0 ld_pk14 ?_)
     | (refine gD 51 rfl ?_; refine ll rfl rfl rfl I mm2 ld_st1 ?_)
     | (refine gD 56 rfl ?_; refine ll rfl rfl rfl I mm0 ld_pk ?_)
     | ((with_reducible refine gate_dst (N := 26) rfl ?_); refine wl_val (v := .slice (some ⟨w1.heap.size, 0, none⟩) 1 1) (w1 := World.alloc w1 (.cells #[.bool v6, .int .u64 hi, .int .u64 lo] 26 (0, 0))) rfl (by first | (go_simp; done) | (go_simp; rfl)) ?_; have I2 := Aside0.mk (I.out.buildK k26 (⟨v6, hi, lo⟩ : S26) #[.bool v6, .int .u64 hi, .int .u64 lo] 26 rfl (fun W _ => k26_mk W ⟨v6, hi, lo⟩)); clear I; have I := I2; clear I2)
     | ((with_reducible refine gate_callee (f := 77) rfl ?_); refine goesL_ (some 27) rfl rfl Tryz.func77 kk rfl #[.slice (some ⟨_, 0, none⟩) 1 1] rfl zh ?_; (refine (ddiref35_Value.calls 1000 _ 1 [(⟨v6, hi, lo⟩ : S26)] vw bw _ I.out.now.2 (Nat.le_refl _) hW.out).mono ?_); rintro e_ w1 ⟨rfl, hb⟩; refine ⟨_, rfl, ?_⟩; have I2 := Aside0.mk ((I.out.imp (fun _ _ => trivial)).call hb (F := fun _ => True)); clear I hb; have I := I2; clear I2)
     | ((with_reducible refine gate_dst (N := 34) rfl ?_); refine wl_val (v := .slice (some ⟨w1.heap.size, 0, none⟩) 1 1) (w1 := World.alloc w1 (.cells #[.int .i64 50, .string vw] 62 (0, 0))) rfl (by first | (go_simp; done) | (go_simp; rfl)) ?_)
     | ((with_reducible refine gate_dst (N := 35) rfl ?_); refine Kd.R_append k62 (w0 := w1) (W := w1) w1.heap.size rfl (.tmp 31) (.tmp 34) 36 62 (.agg #[.int .i64 0, .string ⟨#[]⟩]) 24 rfl Tryz.underlying36 info62 (by rfl) (by decide) (by decide) (.slice none 0 0) [] (⟨50, vw⟩ : S62) [.int .i64 50, .string vw] (fun k => w1.heap.size ≤ k) (fun _ => False) rfl rfl (k62_mkM _ _ _ _) (fun k hk => hk.elim) (fun k hk => hk) (Kd.R_nil _ _ _ _ _) (Below.refl _ _) (Nat.le_refl _) (by simp) ?_; intro v1 w2 hR hb hg hat; have HL := Aside0.mk (lts I.out); have HA := Aside0.mk I.out.below.size; have h0_ := Aside0.mk hR.1; obtain ⟨A1, c1, rfl⟩ := Kd.R_slice hR; have hc1 := Aside0.mk (Kd.R_reads' hR).2.1; have I2 := Aside0.mk (I.out.addM hb hR); clear I hR hb hg hat; have I := I2; clear I2)
     | ((with_reducible refine gate_dst (N := 53) rfl ?_); refine wl_val (v := .slice (some ⟨w1.heap.size, 0, none⟩) 1 1) (w1 := World.alloc w1 (.cells #[.int .i64 12, .string h] 62 (0, 0))) rfl (by first | (go_simp; done) | (go_simp; rfl)) ?_)
     | ((with_reducible refine gate_dst (N := 54) rfl ?_); refine Kd.R_append k62 (w0 := w) (W := w1) w.heap.size rfl (.tmp 49) (.tmp 53) 36 62 (.agg #[.int .i64 0, .string ⟨#[]⟩]) 24 rfl Tryz.underlying36 info62 (by rfl) (by decide) (by decide) (.slice A1 1 c1) [(⟨50, vw⟩ : S62)] (⟨12, h⟩ : S62) [.int .i64 12, .string h] _ (fun _ => False) rfl rfl (k62_mkM _ _ _ _) (fun k hk => hk.elim) (fun k hk => Or.inr hk) (R_or I.out.now.2 w1.heap.size) I.out.below I.out.below.size (by simp) ?_; intro v1 w2 hR hb hg hat; obtain ⟨A2, c2, rfl, hc2, I2⟩ := I.out.regrown (fun k hk => hk) (R_or I.out.now.2 w1.heap.size).1 hg HA.out HL.out hb hR; clear I hR hb hg hat; have I := Aside0.mk I2; clear I2)
     | ((with_reducible refine gate_dst (N := 57) rfl ?_); refine wl_val (v := .slice (some ⟨w1.heap.size, 0, none⟩) 1 1) rfl (bs_run (⟨ki, xid, psv, c, y, zA, zA, false, [⟨50, vw⟩, ⟨12, h⟩]⟩ : S38) (.slice A2 ((⟨ki, xid, psv, c, y, zA, zA, false, [⟨50, vw⟩, ⟨12, h⟩]⟩ : S38)).f8.length c2) rfl rfl) ?_; have I2 := Aside0.mk (I.out.build (⟨ki, xid, psv, c, y, zA, zA, false, [⟨50, vw⟩, ⟨12, h⟩]⟩ : S38) (A := A2) (c := c2) (fun W hW => hW.2) hc2); clear I; have I := I2; clear I2)
     | ((with_reducible refine gate_sr rfl ?_); refine wl_sr2 rfl rfl rfl rfl rfl I.out (.head _) (by first | exact sr_pk14 rfl rfl | exact sr_pk rfl) zu ?_; intro w1 hI; clear I; have I := Aside0.mk hI; clear hI)
     )
    go_ret
    exact ⟨_, rfl, (I.out.foot.imp (fun W hW => hW.2)).mono (fun k hk => hk.1.resolve_left id), I.out.below⟩
  have g3 : (ki == 3) = false := beq_eq_false_iff_ne.mpr k3
  have eH : hostF h ki [⟨50, vw⟩] = [⟨50, vw⟩] := by unfold hostF; rw [if_neg (fun hq => hq.2.elim k1 k3)]
  rw [show (if (true : Bool) = true then [(⟨50, vw⟩ : S62)] else []) = [⟨50, vw⟩] from rfl, eH]
  clear hh eH k1 k3
  go_enter Tryz.func62, Tryz.ntmps62
  go_wp2_with (first
   | (refine gB rfl ?_; refine bk rfl rfl rfl I ?_; clear I; intro gb w1 I)
   | (refine ak rfl (al_P rfl) I ?_; clear I; intro gb w1 I)
   | (refine gD 16 rfl ?_; refine ll rfl rfl rfl I mm1 ld_st3 ?_)
   | (refine gD 19 rfl ?_; refine ll rfl rfl rfl I mm1 ld_st0 ?_)
   | (refine gD 20 rfl ?_; refine ll rfl rfl rfl I mm0 ld_aR ?_)
   | (refine gD 25 rfl ?_; refine ll rfl rfl rfl I mm2 ld_stA5 ?_)
   | (refine gD 31 rfl ?_; refine ll rfl rfl rfl I mm0 ld_pk14 ?_)
   | (refine gD 38 rfl ?_; refine ll rfl rfl rfl I mm2 ld_st1 ?_)
   | (refine gD 49 rfl ?_; refine ll rfl rfl rfl I mm0 ld_pk14 ?_)
   | (refine gD 51 rfl ?_; refine ll rfl rfl rfl I mm2 ld_st1 ?_)
   | (refine gD 56 rfl ?_; refine ll rfl rfl rfl I mm0 ld_pk ?_)
   | ((with_reducible refine gate_dst (N := 26) rfl ?_); refine wl_val (v := .slice (some ⟨w1.heap.size, 0, none⟩) 1 1) (w1 := World.alloc w1 (.cells #[.bool v6, .int .u64 hi, .int .u64 lo] 26 (0, 0))) rfl (by first | (go_simp; done) | (go_simp; rfl)) ?_; have I2 := Aside0.mk (I.out.buildK k26 (⟨v6, hi, lo⟩ : S26) #[.bool v6, .int .u64 hi, .int .u64 lo] 26 rfl (fun W _ => k26_mk W ⟨v6, hi, lo⟩)); clear I; have I := I2; clear I2)
   | ((with_reducible refine gate_callee (f := 77) rfl ?_); refine goesL_ (some 27) rfl rfl Tryz.func77 kk rfl #[.slice (some ⟨_, 0, none⟩) 1 1] rfl zh ?_; (refine (ddiref35_Value.calls 1000 _ 1 [(⟨v6, hi, lo⟩ : S26)] vw bw _ I.out.now.2 (Nat.le_refl _) hW.out).mono ?_); rintro e_ w1 ⟨rfl, hb⟩; refine ⟨_, rfl, ?_⟩; have I2 := Aside0.mk ((I.out.imp (fun _ _ => trivial)).call hb (F := fun _ => True)); clear I hb; have I := I2; clear I2)
   | ((with_reducible refine gate_dst (N := 34) rfl ?_); refine wl_val (v := .slice (some ⟨w1.heap.size, 0, none⟩) 1 1) (w1 := World.alloc w1 (.cells #[.int .i64 50, .string vw] 62 (0, 0))) rfl (by first | (go_simp; done) | (go_simp; rfl)) ?_)
   | ((with_reducible refine gate_dst (N := 35) rfl ?_); refine Kd.R_append k62 (w0 := w1) (W := w1) w1.heap.size rfl (.tmp 31) (.tmp 34) 36 62 (.agg #[.int .i64 0, .string ⟨#[]⟩]) 24 rfl Tryz.underlying36 info62 (by rfl) (by decide) (by decide) (.slice none 0 0) [] (⟨50, vw⟩ : S62) [.int .i64 50, .string vw] (fun k => w1.heap.size ≤ k) (fun _ => False) rfl rfl (k62_mkM _ _ _ _) (fun k hk => hk.elim) (fun k hk => hk) (Kd.R_nil _ _ _ _ _) (Below.refl _ _) (Nat.le_refl _) (by simp) ?_; intro v1 w2 hR hb hg hat; have HL := Aside0.mk (lts I.out); have HA := Aside0.mk I.out.below.size; have h0_ := Aside0.mk hR.1; obtain ⟨A1, c1, rfl⟩ := Kd.R_slice hR; have hc1 := Aside0.mk (Kd.R_reads' hR).2.1; have I2 := Aside0.mk (I.out.addM hb hR); clear I hR hb hg hat; have I := I2; clear I2)
   | ((with_reducible refine gate_dst (N := 57) rfl ?_); refine wl_val (v := .slice (some ⟨w1.heap.size, 0, none⟩) 1 1) rfl (bs_run (⟨ki, xid, psv, c, y, zA, zA, false, [⟨50, vw⟩]⟩ : S38) (.slice A1 ((⟨ki, xid, psv, c, y, zA, zA, false, [⟨50, vw⟩]⟩ : S38)).f8.length c1) rfl rfl) ?_; have I2 := Aside0.mk (I.out.build (⟨ki, xid, psv, c, y, zA, zA, false, [⟨50, vw⟩]⟩ : S38) (A := A1) (c := c1) (fun W hW => (Kd.R_reads' hW.2).2.2) hc1.out); clear I; have I := I2; clear I2)
   | ((with_reducible refine gate_sr rfl ?_); refine wl_sr2 rfl rfl rfl rfl rfl I.out (.head _) (by first | exact sr_pk14 rfl rfl | exact sr_pk rfl) zu ?_; intro w1 hI; clear I; have I := Aside0.mk hI; clear hI)
   )
  go_ret
  exact ⟨_, rfl, (I.out.foot.imp (fun W hW => hW.2)).mono (fun k hk => hk.1.resolve_left id), I.out.below⟩
theorem foot_nw {F : World → Prop} {w w' : World} {L : Bxs} (h : Foot F w' (fun k => ((fun _ : Nat => False) k ∨ w.heap.size ≤ k) ∧ Out L k)) : Foot F w' (fun k => w.heap.size ≤ k) := h.mono (fun k hk => hk.1.resolve_left id)
theorem again_c1 (c h : ByteArray) (xid sv : Int) (v6 : Bool) (hi lo t1 t2 un se at_ : Int) (now : Int) (vw : ByteArray) (bw : Bool) (w : World) (hx : 0 ≤ xid ∧ xid < 4294967295) (hW : ddiref35_Value.f 1000 [(⟨v6, hi, lo⟩ : S26)] = some (vw, bw)) :
  Calls Tryz.prog 55 #[.agg (stC c h 1 xid sv v6 hi lo t1 t2 un se at_), .int .i64 now] w fun e w' => ∃ g, e = .returned (.tuple #[.agg (stC c h 1 (xid + 1) sv v6 hi lo t1 t2 un now at_), .slice (some ⟨g, 0, none⟩) 1 1]) ∧ Foot (fun W => Kd.C k38 W (some ⟨g, 0, none⟩) 1 [(⟨1, xid + 1, 0, c, zA, zA, zA, false, hostF h 1 []⟩ : S38)]) w' (fun k => w.heap.size ≤ k) ∧ Below w.heap.size w w' := by
 have hu32 := Tryz.underlying32
 have hu26 := Tryz.underlying28
 have hu39 := Tryz.underlying38
 have hu24 := Tryz.underlying26
 have hW := Aside0.mk hW
 have I := Aside0.mk (Inv.start0 (w0 := w))
 go_enter Tryz.func55, Tryz.ntmps55
 go_wp2_with (first
  | (refine gB rfl ?_; refine bk rfl rfl rfl I ?_; clear I; intro gb w1 I)
  | (refine ak rfl (al_R rfl) I ?_; clear I; intro gb w1 I)
  | (refine gD 7 rfl ?_; refine ll rfl rfl rfl I mm1 ld_st3 ?_)
  | (refine gD 13 rfl ?_; refine ll rfl rfl rfl I mm1 ld_st2 ?_)
  | (refine gS rfl ?_; refine sk rfl rfl rfl rfl rfl I zm (by first | exact sr_st3 | exact sr_st11) zu ?_; clear I; intro w1 I)
  )
 have IS := Aside0.mk ((I.out.imp (fun _ _ => trivial)).sub (.cons _ (.cons_cons _ .slnil))).drew
 refine draw_ (Inv _ w [_] (fun _ => True)) [4] kk rfl IS.out ?_
 have I2 := Aside0.mk I.out.drew
 clear I
 have I := I2
 clear I2
 refine ta1 (i := 0) rfl rfl kk rfl rfl IS.out zm (by exact ld_stR) ?_ (ha := by (go_simp; rfl))
 refine ta1 (i := 1) rfl rfl kk rfl rfl IS.out zm (by exact ld_stR) ?_ (ha := by (go_simp; rfl))
 refine pu1 (i := 2) rfl rfl kk ?_ (ha := by (go_simp; rfl))
 refine ca1 (i := 3) rfl rfl kk (by decide) Tryz.func62 kk rfl #[.agg (stC c h 1 (xid + 1) sv v6 hi lo t1 t2 un now at_), .int .i64 1, .int .i64 0, .agg #[.bool false, .int .u64 0, .int .u64 0], .bool false] rfl zh ?_
 refine (rmsg_c c h 1 (xid + 1) sv v6 hi lo t1 t2 un now at_ 1 0 zA false vw bw _ hW.out).mono ?_
 rintro e_ w1 ⟨g, rfl, hf, hb⟩
 have I2 := Aside0.mk (I.out.addNew hb hf (fun k hk _ => I.out.new_out k hk))
 clear I IS hb hf
 have I := I2
 clear I2
 have IS := Aside0.mk ((I.out.imp (fun _ _ => trivial)).sub (.cons _ (.cons_cons _ .slnil)))
 refine ⟨_, rfl, IS.out, ?_⟩
 refine sl1 (i := 4) rfl rfl kk (by decide) rfl rfl rfl I.out zm (by first | exact sr_stR) zu (fun w1 hI => ?_)
 clear I
 have I := Aside0.mk hI
 clear hI
 refine pu1 (i := 5) rfl rfl kk ?_ (ha := by (go_simp; rfl))
 refine do1 kk ?_
 try go_wp2
 refine bodyPost_ret (ret_ct rfl _ I.out _ rfl zm Tryz.underlying32 rfl kk) rfl ?_
 exact ⟨_, rfl, foot_nw (I.out.foot.imp (fun W hW => hW.2)), I.out.below⟩
theorem again_c2 (c h : ByteArray) (xid sv : Int) (v6 : Bool) (hi lo t1 t2 un se at_ : Int) (now : Int) (vw : ByteArray) (bw : Bool) (w : World) (hx : 0 ≤ xid ∧ xid < 4294967295) (hW : ddiref35_Value.f 1000 [(⟨v6, hi, lo⟩ : S26)] = some (vw, bw)) :
  Calls Tryz.prog 55 #[.agg (stC c h 2 xid sv v6 hi lo t1 t2 un se at_), .int .i64 now] w fun e w' => ∃ g, e = .returned (.tuple #[.agg (stC c h 2 (xid + 1) sv v6 hi lo t1 t2 un now at_), .slice (some ⟨g, 0, none⟩) 1 1]) ∧ Foot (fun W => Kd.C k38 W (some ⟨g, 0, none⟩) 1 [(⟨3, xid + 1, sv, c, zA, zA, zA, false, hostF h 3 [⟨50, vw⟩]⟩ : S38)]) w' (fun k => w.heap.size ≤ k) ∧ Below w.heap.size w w' := by
 have hu32 := Tryz.underlying32
 have hu26 := Tryz.underlying28
 have hu39 := Tryz.underlying38
 have hu24 := Tryz.underlying26
 have hW := Aside0.mk hW
 have I := Aside0.mk (Inv.start0 (w0 := w))
 go_enter Tryz.func55, Tryz.ntmps55
 go_wp2_with (first
  | (refine gB rfl ?_; refine bk rfl rfl rfl I ?_; clear I; intro gb w1 I)
  | (refine ak rfl (al_R rfl) I ?_; clear I; intro gb w1 I)
  | (refine gD 7 rfl ?_; refine ll rfl rfl rfl I mm1 ld_st3 ?_)
  | (refine gD 13 rfl ?_; refine ll rfl rfl rfl I mm1 ld_st2 ?_)
  | (refine gS rfl ?_; refine sk rfl rfl rfl rfl rfl I zm (by first | exact sr_st3 | exact sr_st11) zu ?_; clear I; intro w1 I)
  )
 have IS := Aside0.mk ((I.out.imp (fun _ _ => trivial)).sub (.cons _ (.cons_cons _ .slnil))).drew
 refine draw_ (Inv _ w [_] (fun _ => True)) [6] kk rfl IS.out ?_
 have I2 := Aside0.mk I.out.drew
 clear I
 have I := I2
 clear I2
 refine ta1 (i := 0) rfl rfl kk rfl rfl IS.out zm (by exact ld_stR) ?_ (ha := by (go_simp; rfl))
 refine ta1 (i := 1) rfl rfl kk rfl rfl IS.out zm (by exact ld_stR) ?_ (ha := by (go_simp; rfl))
 refine pu1 (i := 2) rfl rfl kk ?_ (ha := by (go_simp; rfl))
 refine ta1 (i := 3) rfl rfl kk rfl rfl IS.out zm (by exact ld_st4) ?_ (ha := by (go_simp; rfl))
 refine pu1 (i := 4) rfl rfl kk ?_ (ha := by (go_simp; rfl))
 refine ca1 (i := 5) rfl rfl kk (by decide) Tryz.func62 kk rfl #[.agg (stC c h 2 (xid + 1) sv v6 hi lo t1 t2 un now at_), .int .i64 3, .int .i64 sv, .agg #[.bool false, .int .u64 0, .int .u64 0], .bool true] rfl zh ?_
 refine (rmsg_c c h 2 (xid + 1) sv v6 hi lo t1 t2 un now at_ 3 sv zA true vw bw _ hW.out).mono ?_
 rintro e_ w1 ⟨g, rfl, hf, hb⟩
 have I2 := Aside0.mk (I.out.addNew hb hf (fun k hk _ => I.out.new_out k hk))
 clear I IS hb hf
 have I := I2
 clear I2
 have IS := Aside0.mk ((I.out.imp (fun _ _ => trivial)).sub (.cons _ (.cons_cons _ .slnil)))
 refine ⟨_, rfl, IS.out, ?_⟩
 refine sl1 (i := 6) rfl rfl kk (by decide) rfl rfl rfl I.out zm (by first | exact sr_stR) zu (fun w1 hI => ?_)
 clear I
 have I := Aside0.mk hI
 clear hI
 refine pu1 (i := 7) rfl rfl kk ?_ (ha := by (go_simp; rfl))
 refine do1 kk ?_
 try go_wp2
 refine bodyPost_ret (ret_ct rfl _ I.out _ rfl zm Tryz.underlying32 rfl kk) rfl ?_
 exact ⟨_, rfl, foot_nw (I.out.foot.imp (fun W hW => hW.2)), I.out.below⟩
theorem again_c4 (c h : ByteArray) (xid sv : Int) (v6 : Bool) (hi lo t1 t2 un se at_ : Int) (now : Int) (vw : ByteArray) (bw : Bool) (w : World) (hx : 0 ≤ xid ∧ xid < 4294967295) (hW : ddiref35_Value.f 1000 [(⟨v6, hi, lo⟩ : S26)] = some (vw, bw)) :
  Calls Tryz.prog 55 #[.agg (stC c h 4 xid sv v6 hi lo t1 t2 un se at_), .int .i64 now] w fun e w' => ∃ g, e = .returned (.tuple #[.agg (stC c h 4 (xid + 1) sv v6 hi lo t1 t2 un now at_), .slice (some ⟨g, 0, none⟩) 1 1]) ∧ Foot (fun W => Kd.C k38 W (some ⟨g, 0, none⟩) 1 [(⟨3, xid + 1, sv, c, ⟨v6, hi, lo⟩, zA, zA, false, hostF h 3 []⟩ : S38)]) w' (fun k => w.heap.size ≤ k) ∧ Below w.heap.size w w' := by
 have hu32 := Tryz.underlying32
 have hu26 := Tryz.underlying28
 have hu39 := Tryz.underlying38
 have hu24 := Tryz.underlying26
 have hW := Aside0.mk hW
 have I := Aside0.mk (Inv.start0 (w0 := w))
 go_enter Tryz.func55, Tryz.ntmps55
 go_wp2_with (first
  | (refine gB rfl ?_; refine bk rfl rfl rfl I ?_; clear I; intro gb w1 I)
  | (refine ak rfl (al_R rfl) I ?_; clear I; intro gb w1 I)
  | (refine gD 7 rfl ?_; refine ll rfl rfl rfl I mm1 ld_st3 ?_)
  | (refine gD 13 rfl ?_; refine ll rfl rfl rfl I mm1 ld_st2 ?_)
  | (refine gS rfl ?_; refine sk rfl rfl rfl rfl rfl I zm (by first | exact sr_st3 | exact sr_st11) zu ?_; clear I; intro w1 I)
  )
 have IS := Aside0.mk ((I.out.imp (fun _ _ => trivial)).sub (.cons _ (.cons_cons _ .slnil))).drew
 refine draw_ (Inv _ w [_] (fun _ => True)) [7] kk rfl IS.out ?_
 have I2 := Aside0.mk I.out.drew
 clear I
 have I := I2
 clear I2
 refine ta1 (i := 0) rfl rfl kk rfl rfl IS.out zm (by exact ld_stR) ?_ (ha := by (go_simp; rfl))
 refine ta1 (i := 1) rfl rfl kk rfl rfl IS.out zm (by exact ld_stR) ?_ (ha := by (go_simp; rfl))
 refine pu1 (i := 2) rfl rfl kk ?_ (ha := by (go_simp; rfl))
 refine ta1 (i := 3) rfl rfl kk rfl rfl IS.out zm (by exact ld_st4) ?_ (ha := by (go_simp; rfl))
 refine pu1 (i := 4) rfl rfl kk ?_ (ha := by (go_simp; rfl))
 refine ta1 (i := 5) rfl rfl kk rfl rfl IS.out zm (by exact ld_stA5) ?_ (ha := by (go_simp; rfl))
 refine ca1 (i := 6) rfl rfl kk (by decide) Tryz.func62 kk rfl #[.agg (stC c h 4 (xid + 1) sv v6 hi lo t1 t2 un now at_), .int .i64 3, .int .i64 sv, .agg #[.bool v6, .int .u64 hi, .int .u64 lo], .bool false] rfl zh ?_
 refine (rmsg_c c h 4 (xid + 1) sv v6 hi lo t1 t2 un now at_ 3 sv (⟨v6, hi, lo⟩ : S26) false vw bw _ hW.out).mono ?_
 rintro e_ w1 ⟨g, rfl, hf, hb⟩
 have I2 := Aside0.mk (I.out.addNew hb hf (fun k hk _ => I.out.new_out k hk))
 clear I IS hb hf
 have I := I2
 clear I2
 have IS := Aside0.mk ((I.out.imp (fun _ _ => trivial)).sub (.cons _ (.cons_cons _ .slnil)))
 refine ⟨_, rfl, IS.out, ?_⟩
 refine sl1 (i := 7) rfl rfl kk (by decide) rfl rfl rfl I.out zm (by first | exact sr_stR) zu (fun w1 hI => ?_)
 clear I
 have I := Aside0.mk hI
 clear hI
 refine pu1 (i := 8) rfl rfl kk ?_ (ha := by (go_simp; rfl))
 refine do1 kk ?_
 try go_wp2
 refine bodyPost_ret (ret_ct rfl _ I.out _ rfl zm Tryz.underlying32 rfl kk) rfl ?_
 exact ⟨_, rfl, foot_nw (I.out.foot.imp (fun W hW => hW.2)), I.out.below⟩
theorem again_c5 (c h : ByteArray) (xid sv : Int) (v6 : Bool) (hi lo t1 t2 un se at_ : Int) (now : Int) (vw : ByteArray) (bw : Bool) (w : World) (hx : 0 ≤ xid ∧ xid < 4294967295) (hW : ddiref35_Value.f 1000 [(⟨v6, hi, lo⟩ : S26)] = some (vw, bw)) :
  Calls Tryz.prog 55 #[.agg (stC c h 5 xid sv v6 hi lo t1 t2 un se at_), .int .i64 now] w fun e w' => ∃ g, e = .returned (.tuple #[.agg (stC c h 5 (xid + 1) sv v6 hi lo t1 t2 un now at_), .slice (some ⟨g, 0, none⟩) 1 1]) ∧ Foot (fun W => Kd.C k38 W (some ⟨g, 0, none⟩) 1 [(⟨3, xid + 1, 0, c, ⟨v6, hi, lo⟩, zA, zA, false, hostF h 3 []⟩ : S38)]) w' (fun k => w.heap.size ≤ k) ∧ Below w.heap.size w w' := by
 have hu32 := Tryz.underlying32
 have hu26 := Tryz.underlying28
 have hu39 := Tryz.underlying38
 have hu24 := Tryz.underlying26
 have hW := Aside0.mk hW
 have I := Aside0.mk (Inv.start0 (w0 := w))
 go_enter Tryz.func55, Tryz.ntmps55
 go_wp2_with (first
  | (refine gB rfl ?_; refine bk rfl rfl rfl I ?_; clear I; intro gb w1 I)
  | (refine ak rfl (al_R rfl) I ?_; clear I; intro gb w1 I)
  | (refine gD 7 rfl ?_; refine ll rfl rfl rfl I mm1 ld_st3 ?_)
  | (refine gD 13 rfl ?_; refine ll rfl rfl rfl I mm1 ld_st2 ?_)
  | (refine gS rfl ?_; refine sk rfl rfl rfl rfl rfl I zm (by first | exact sr_st3 | exact sr_st11) zu ?_; clear I; intro w1 I)
  )
 have IS := Aside0.mk ((I.out.imp (fun _ _ => trivial)).sub (.cons _ (.cons_cons _ .slnil))).drew
 refine draw_ (Inv _ w [_] (fun _ => True)) [5] kk rfl IS.out ?_
 have I2 := Aside0.mk I.out.drew
 clear I
 have I := I2
 clear I2
 refine ta1 (i := 0) rfl rfl kk rfl rfl IS.out zm (by exact ld_stR) ?_ (ha := by (go_simp; rfl))
 refine ta1 (i := 1) rfl rfl kk rfl rfl IS.out zm (by exact ld_stR) ?_ (ha := by (go_simp; rfl))
 refine pu1 (i := 2) rfl rfl kk ?_ (ha := by (go_simp; rfl))
 refine ta1 (i := 3) rfl rfl kk rfl rfl IS.out zm (by exact ld_stA5) ?_ (ha := by (go_simp; rfl))
 refine ca1 (i := 4) rfl rfl kk (by decide) Tryz.func62 kk rfl #[.agg (stC c h 5 (xid + 1) sv v6 hi lo t1 t2 un now at_), .int .i64 3, .int .i64 0, .agg #[.bool v6, .int .u64 hi, .int .u64 lo], .bool false] rfl zh ?_
 refine (rmsg_c c h 5 (xid + 1) sv v6 hi lo t1 t2 un now at_ 3 0 (⟨v6, hi, lo⟩ : S26) false vw bw _ hW.out).mono ?_
 rintro e_ w1 ⟨g, rfl, hf, hb⟩
 have I2 := Aside0.mk (I.out.addNew hb hf (fun k hk _ => I.out.new_out k hk))
 clear I IS hb hf
 have I := I2
 clear I2
 have IS := Aside0.mk ((I.out.imp (fun _ _ => trivial)).sub (.cons _ (.cons_cons _ .slnil)))
 refine ⟨_, rfl, IS.out, ?_⟩
 refine sl1 (i := 5) rfl rfl kk (by decide) rfl rfl rfl I.out zm (by first | exact sr_stR) zu (fun w1 hI => ?_)
 clear I
 have I := Aside0.mk hI
 clear hI
 refine pu1 (i := 6) rfl rfl kk ?_ (ha := by (go_simp; rfl))
 refine do1 kk ?_
 try go_wp2
 refine bodyPost_ret (ret_ct rfl _ I.out _ rfl zm Tryz.underlying32 rfl kk) rfl ?_
 exact ⟨_, rfl, foot_nw (I.out.foot.imp (fun W hW => hW.2)), I.out.below⟩
def turnF (s : Stn) (state tr now : Int) : Stn × List S38 := if state = 1 then stepF s 1 0 zA [] 1 tr now else if state = 2 then stepF s 3 s.sv zA [⟨50, wantF s.a⟩] 2 tr now else if state = 4 then stepF s 3 s.sv s.a [] 4 tr now else stepF s 3 0 s.a [] 5 tr now
theorem turned_no (s : Stn) (state tr now : Int) (w : World) (hx : 4294967295 ≤ s.xid) : Calls Tryz.prog 32 #[.agg (stA s), .int .i64 state, .int .i64 tr, .int .i64 now] w (Ret (s, []) w) := by
 have hu32 := Tryz.underlying32
 have hu26 := Tryz.underlying28
 have hu39 := Tryz.underlying38
 have hu24 := Tryz.underlying26
 obtain ⟨c, h, st, xid, sv, ⟨v6, hi, lo⟩, t1, t2, un, se, at_⟩ := s
 replace hx : 4294967295 ≤ xid := hx
 have e1 : decide (xid < 4294967295) = false := decide_eq_false (by omega)
 clear hx
 have I := Aside0.mk (Inv.start0 (w0 := w))
 show Calls Tryz.prog 32 #[.agg (stC c h st xid sv v6 hi lo t1 t2 un se at_), .int .i64 state, .int .i64 tr, .int .i64 now] w _
 go_enter Tryz.func32, Tryz.ntmps32
 go_wp2_with (first
  | (refine gB rfl ?_; refine bk rfl rfl rfl I ?_; clear I; intro gb w1 I)
  | (refine ak rfl (al_R rfl) I ?_; clear I; intro gb w1 I)
  | (refine gD 12 rfl ?_; refine ll rfl rfl rfl I mm1 ld_stR ?_)
  | (refine gD 15 rfl ?_; refine ll rfl rfl rfl I mm1 ld_stR ?_)
  | (refine gD 13 rfl ?_; refine ck rfl Tryz.func41 kk rfl #[.agg (stC c h st xid sv v6 hi lo t1 t2 un se at_)] rfl zh (can_c c h st xid sv v6 hi lo t1 t2 un se at_ _) ?_; rintro e_ w1 ⟨rfl, hb⟩; refine ⟨_, rfl, ?_⟩; replace I := callK I hb; clear hb)
  | (refine gS rfl ?_; refine sk rfl rfl rfl rfl rfl I zm (by first | exact sr_stR) zu ?_; clear I; intro w1 I)
  )
 refine bodyPost_ret (ret_ct rfl _ I.out _ rfl zm Tryz.underlying32 rfl kk) rfl ?_
 exact ⟨_, rfl, Pks_nil _ _, I.out.below⟩
theorem turned_1 (s : Stn) (tr now : Int) (bw : Bool) (w : World) (hx0 : 0 ≤ s.xid) (hx : s.xid < 4294967295) (hW : ddiref35_Value.f 1000 [s.a] = some (wantF s.a, bw)) : Calls Tryz.prog 32 #[.agg (stA s), .int .i64 1, .int .i64 tr, .int .i64 now] w (Ret (turnF s 1 tr now) w) := by
 have hu32 := Tryz.underlying32
 have hu26 := Tryz.underlying28
 have hu39 := Tryz.underlying38
 have hu24 := Tryz.underlying26
 have eF : turnF s 1 tr now = (⟨s.c, s.h, 1, s.xid + 1, s.sv, s.a, s.t1, s.t2, s.un, now, tr⟩, [⟨1, s.xid + 1, 0, s.c, zA, zA, zA, false, hostF s.h 1 []⟩]) := by
  unfold turnF; rw [if_pos rfl]; unfold stepF; rw [if_neg (by omega)]; rfl
 rw [eF]
 clear eF
 obtain ⟨c, h, st, xid, sv, ⟨v6, hi, lo⟩, t1, t2, un, se, at_⟩ := s
 replace hx0 : 0 ≤ xid := hx0
 replace hx : xid < 4294967295 := hx
 replace hW : ddiref35_Value.f 1000 [(⟨v6, hi, lo⟩ : S26)] = some (wantF ⟨v6, hi, lo⟩, bw) := hW
 have hW := Aside0.mk hW
 have e1 : decide (xid < 4294967295) = true := decide_eq_true hx
 have I := Aside0.mk (Inv.start0 (w0 := w))
 show Calls Tryz.prog 32 #[.agg (stC c h st xid sv v6 hi lo t1 t2 un se at_), .int .i64 1, .int .i64 tr, .int .i64 now] w _
 go_enter Tryz.func32, Tryz.ntmps32
 go_wp2_with (first
  | (refine gB rfl ?_; refine bk rfl rfl rfl I ?_; clear I; intro gb w1 I)
  | (refine ak rfl (al_R rfl) I ?_; clear I; intro gb w1 I)
  | (refine gD 12 rfl ?_; refine ll rfl rfl rfl I mm1 ld_stR ?_)
  | (refine gD 21 rfl ?_; refine ll rfl rfl rfl I mm1 ld_stR ?_)
  | (refine gD 26 rfl ?_; refine ll rfl rfl rfl I mm0 ld_stR ?_)
  | (refine gD 13 rfl ?_; refine ck rfl Tryz.func41 kk rfl #[.agg (stC c h st xid sv v6 hi lo t1 t2 un se at_)] rfl zh (can_c c h st xid sv v6 hi lo t1 t2 un se at_ _) ?_; rintro e_ w1 ⟨rfl, hb⟩; refine ⟨_, rfl, ?_⟩; replace I := callK I hb; clear hb)
  | (refine gD 23 rfl ?_; refine ck rfl Tryz.func55 kk rfl #[.agg (stC c h 1 xid sv v6 hi lo t1 t2 un se tr), .int .i64 now] rfl zh (again_c1 c h xid sv v6 hi lo t1 t2 un se tr now (wantF ⟨v6, hi, lo⟩) bw _ ⟨hx0, hx⟩ hW.out) ?_; rintro e_ w1 ⟨g, rfl, hf, hb⟩; refine ⟨_, rfl, ?_⟩; replace I := addK I hb hf; clear hb hf)
  | (refine gS rfl ?_; refine sk rfl rfl rfl rfl rfl I zm (by first | exact sr_st2 | exact sr_st12 | exact sr_stR) zu ?_; clear I; intro w1 I)
  )
 refine bodyPost_ret (ret_ct rfl _ I.out _ rfl zm Tryz.underlying32 rfl kk) rfl ?_
 exact ⟨_, rfl, Pks_one (foot_new (I.out.foot.imp (fun W hW => hW.2))), I.out.below⟩
theorem turned_2 (s : Stn) (tr now : Int) (bw : Bool) (w : World) (hx0 : 0 ≤ s.xid) (hx : s.xid < 4294967295) (hW : ddiref35_Value.f 1000 [s.a] = some (wantF s.a, bw)) : Calls Tryz.prog 32 #[.agg (stA s), .int .i64 2, .int .i64 tr, .int .i64 now] w (Ret (turnF s 2 tr now) w) := by
 have hu32 := Tryz.underlying32
 have hu26 := Tryz.underlying28
 have hu39 := Tryz.underlying38
 have hu24 := Tryz.underlying26
 have eF : turnF s 2 tr now = (⟨s.c, s.h, 2, s.xid + 1, s.sv, s.a, s.t1, s.t2, s.un, now, tr⟩, [⟨3, s.xid + 1, s.sv, s.c, zA, zA, zA, false, hostF s.h 3 [⟨50, wantF s.a⟩]⟩]) := by
  unfold turnF; rw [if_neg (by decide)]; rw [if_pos rfl]; unfold stepF; rw [if_neg (by omega)]; rfl
 rw [eF]
 clear eF
 obtain ⟨c, h, st, xid, sv, ⟨v6, hi, lo⟩, t1, t2, un, se, at_⟩ := s
 replace hx0 : 0 ≤ xid := hx0
 replace hx : xid < 4294967295 := hx
 replace hW : ddiref35_Value.f 1000 [(⟨v6, hi, lo⟩ : S26)] = some (wantF ⟨v6, hi, lo⟩, bw) := hW
 have hW := Aside0.mk hW
 have e1 : decide (xid < 4294967295) = true := decide_eq_true hx
 have I := Aside0.mk (Inv.start0 (w0 := w))
 show Calls Tryz.prog 32 #[.agg (stC c h st xid sv v6 hi lo t1 t2 un se at_), .int .i64 2, .int .i64 tr, .int .i64 now] w _
 go_enter Tryz.func32, Tryz.ntmps32
 go_wp2_with (first
  | (refine gB rfl ?_; refine bk rfl rfl rfl I ?_; clear I; intro gb w1 I)
  | (refine ak rfl (al_R rfl) I ?_; clear I; intro gb w1 I)
  | (refine gD 12 rfl ?_; refine ll rfl rfl rfl I mm1 ld_stR ?_)
  | (refine gD 21 rfl ?_; refine ll rfl rfl rfl I mm1 ld_stR ?_)
  | (refine gD 26 rfl ?_; refine ll rfl rfl rfl I mm0 ld_stR ?_)
  | (refine gD 13 rfl ?_; refine ck rfl Tryz.func41 kk rfl #[.agg (stC c h st xid sv v6 hi lo t1 t2 un se at_)] rfl zh (can_c c h st xid sv v6 hi lo t1 t2 un se at_ _) ?_; rintro e_ w1 ⟨rfl, hb⟩; refine ⟨_, rfl, ?_⟩; replace I := callK I hb; clear hb)
  | (refine gD 23 rfl ?_; refine ck rfl Tryz.func55 kk rfl #[.agg (stC c h 2 xid sv v6 hi lo t1 t2 un se tr), .int .i64 now] rfl zh (again_c2 c h xid sv v6 hi lo t1 t2 un se tr now (wantF ⟨v6, hi, lo⟩) bw _ ⟨hx0, hx⟩ hW.out) ?_; rintro e_ w1 ⟨g, rfl, hf, hb⟩; refine ⟨_, rfl, ?_⟩; replace I := addK I hb hf; clear hb hf)
  | (refine gS rfl ?_; refine sk rfl rfl rfl rfl rfl I zm (by first | exact sr_st2 | exact sr_st12 | exact sr_stR) zu ?_; clear I; intro w1 I)
  )
 refine bodyPost_ret (ret_ct rfl _ I.out _ rfl zm Tryz.underlying32 rfl kk) rfl ?_
 exact ⟨_, rfl, Pks_one (foot_new (I.out.foot.imp (fun W hW => hW.2))), I.out.below⟩
theorem turned_4 (s : Stn) (tr now : Int) (bw : Bool) (w : World) (hx0 : 0 ≤ s.xid) (hx : s.xid < 4294967295) (hW : ddiref35_Value.f 1000 [s.a] = some (wantF s.a, bw)) : Calls Tryz.prog 32 #[.agg (stA s), .int .i64 4, .int .i64 tr, .int .i64 now] w (Ret (turnF s 4 tr now) w) := by
 have hu32 := Tryz.underlying32
 have hu26 := Tryz.underlying28
 have hu39 := Tryz.underlying38
 have hu24 := Tryz.underlying26
 have eF : turnF s 4 tr now = (⟨s.c, s.h, 4, s.xid + 1, s.sv, s.a, s.t1, s.t2, s.un, now, tr⟩, [⟨3, s.xid + 1, s.sv, s.c, s.a, zA, zA, false, hostF s.h 3 []⟩]) := by
  unfold turnF; rw [if_neg (by decide)]; rw [if_neg (by decide)]; rw [if_pos rfl]; unfold stepF; rw [if_neg (by omega)]; rfl
 rw [eF]
 clear eF
 obtain ⟨c, h, st, xid, sv, ⟨v6, hi, lo⟩, t1, t2, un, se, at_⟩ := s
 replace hx0 : 0 ≤ xid := hx0
 replace hx : xid < 4294967295 := hx
 replace hW : ddiref35_Value.f 1000 [(⟨v6, hi, lo⟩ : S26)] = some (wantF ⟨v6, hi, lo⟩, bw) := hW
 have hW := Aside0.mk hW
 have e1 : decide (xid < 4294967295) = true := decide_eq_true hx
 have I := Aside0.mk (Inv.start0 (w0 := w))
 show Calls Tryz.prog 32 #[.agg (stC c h st xid sv v6 hi lo t1 t2 un se at_), .int .i64 4, .int .i64 tr, .int .i64 now] w _
 go_enter Tryz.func32, Tryz.ntmps32
 go_wp2_with (first
  | (refine gB rfl ?_; refine bk rfl rfl rfl I ?_; clear I; intro gb w1 I)
  | (refine ak rfl (al_R rfl) I ?_; clear I; intro gb w1 I)
  | (refine gD 12 rfl ?_; refine ll rfl rfl rfl I mm1 ld_stR ?_)
  | (refine gD 21 rfl ?_; refine ll rfl rfl rfl I mm1 ld_stR ?_)
  | (refine gD 26 rfl ?_; refine ll rfl rfl rfl I mm0 ld_stR ?_)
  | (refine gD 13 rfl ?_; refine ck rfl Tryz.func41 kk rfl #[.agg (stC c h st xid sv v6 hi lo t1 t2 un se at_)] rfl zh (can_c c h st xid sv v6 hi lo t1 t2 un se at_ _) ?_; rintro e_ w1 ⟨rfl, hb⟩; refine ⟨_, rfl, ?_⟩; replace I := callK I hb; clear hb)
  | (refine gD 23 rfl ?_; refine ck rfl Tryz.func55 kk rfl #[.agg (stC c h 4 xid sv v6 hi lo t1 t2 un se tr), .int .i64 now] rfl zh (again_c4 c h xid sv v6 hi lo t1 t2 un se tr now (wantF ⟨v6, hi, lo⟩) bw _ ⟨hx0, hx⟩ hW.out) ?_; rintro e_ w1 ⟨g, rfl, hf, hb⟩; refine ⟨_, rfl, ?_⟩; replace I := addK I hb hf; clear hb hf)
  | (refine gS rfl ?_; refine sk rfl rfl rfl rfl rfl I zm (by first | exact sr_st2 | exact sr_st12 | exact sr_stR) zu ?_; clear I; intro w1 I)
  )
 refine bodyPost_ret (ret_ct rfl _ I.out _ rfl zm Tryz.underlying32 rfl kk) rfl ?_
 exact ⟨_, rfl, Pks_one (foot_new (I.out.foot.imp (fun W hW => hW.2))), I.out.below⟩
theorem turned_5 (s : Stn) (tr now : Int) (bw : Bool) (w : World) (hx0 : 0 ≤ s.xid) (hx : s.xid < 4294967295) (hW : ddiref35_Value.f 1000 [s.a] = some (wantF s.a, bw)) : Calls Tryz.prog 32 #[.agg (stA s), .int .i64 5, .int .i64 tr, .int .i64 now] w (Ret (turnF s 5 tr now) w) := by
 have hu32 := Tryz.underlying32
 have hu26 := Tryz.underlying28
 have hu39 := Tryz.underlying38
 have hu24 := Tryz.underlying26
 have eF : turnF s 5 tr now = (⟨s.c, s.h, 5, s.xid + 1, s.sv, s.a, s.t1, s.t2, s.un, now, tr⟩, [⟨3, s.xid + 1, 0, s.c, s.a, zA, zA, false, hostF s.h 3 []⟩]) := by
  unfold turnF; rw [if_neg (by decide)]; rw [if_neg (by decide)]; rw [if_neg (by decide)]; unfold stepF; rw [if_neg (by omega)]; rfl
 rw [eF]
 clear eF
 obtain ⟨c, h, st, xid, sv, ⟨v6, hi, lo⟩, t1, t2, un, se, at_⟩ := s
 replace hx0 : 0 ≤ xid := hx0
 replace hx : xid < 4294967295 := hx
 replace hW : ddiref35_Value.f 1000 [(⟨v6, hi, lo⟩ : S26)] = some (wantF ⟨v6, hi, lo⟩, bw) := hW
 have hW := Aside0.mk hW
 have e1 : decide (xid < 4294967295) = true := decide_eq_true hx
 have I := Aside0.mk (Inv.start0 (w0 := w))
 show Calls Tryz.prog 32 #[.agg (stC c h st xid sv v6 hi lo t1 t2 un se at_), .int .i64 5, .int .i64 tr, .int .i64 now] w _
 go_enter Tryz.func32, Tryz.ntmps32
 go_wp2_with (first
  | (refine gB rfl ?_; refine bk rfl rfl rfl I ?_; clear I; intro gb w1 I)
  | (refine ak rfl (al_R rfl) I ?_; clear I; intro gb w1 I)
  | (refine gD 12 rfl ?_; refine ll rfl rfl rfl I mm1 ld_stR ?_)
  | (refine gD 21 rfl ?_; refine ll rfl rfl rfl I mm1 ld_stR ?_)
  | (refine gD 26 rfl ?_; refine ll rfl rfl rfl I mm0 ld_stR ?_)
  | (refine gD 13 rfl ?_; refine ck rfl Tryz.func41 kk rfl #[.agg (stC c h st xid sv v6 hi lo t1 t2 un se at_)] rfl zh (can_c c h st xid sv v6 hi lo t1 t2 un se at_ _) ?_; rintro e_ w1 ⟨rfl, hb⟩; refine ⟨_, rfl, ?_⟩; replace I := callK I hb; clear hb)
  | (refine gD 23 rfl ?_; refine ck rfl Tryz.func55 kk rfl #[.agg (stC c h 5 xid sv v6 hi lo t1 t2 un se tr), .int .i64 now] rfl zh (again_c5 c h xid sv v6 hi lo t1 t2 un se tr now (wantF ⟨v6, hi, lo⟩) bw _ ⟨hx0, hx⟩ hW.out) ?_; rintro e_ w1 ⟨g, rfl, hf, hb⟩; refine ⟨_, rfl, ?_⟩; replace I := addK I hb hf; clear hb hf)
  | (refine gS rfl ?_; refine sk rfl rfl rfl rfl rfl I zm (by first | exact sr_st2 | exact sr_st12 | exact sr_stR) zu ?_; clear I; intro w1 I)
  )
 refine bodyPost_ret (ret_ct rfl _ I.out _ rfl zm Tryz.underlying32 rfl kk) rfl ?_
 exact ⟨_, rfl, Pks_one (foot_new (I.out.foot.imp (fun W hW => hW.2))), I.out.below⟩
theorem sr_stAR {s' : Stn} {cs : Array Value} (hs : cs.size = 13 := by rfl) : Sr Tryz.prog 32 cs 0 (.agg (stA s')) (stA s') := sr_row kk (by rw [hs]; rfl) (by simp [stA, stC, Value.oneCell'])
theorem ld_stAR {s' : Stn} : Ld Tryz.prog 32 (stA s') 0 (.agg (stA s')) := ld_row _ Tryz.underlying32 rfl kk
theorem later_f (a b : Int) (ha : 0 ≤ a) (ha2 : a ≤ 4294967295) (hb : 0 ≤ b) (hb2 : b ≤ 4294967295) : ddiref38_Later.f a b = some (later a b) := by
  unfold ddiref38_Later.f later
  rw [DN.wrap_id (by omega) (by omega), DN.wrap_id (by omega) (by omega)]
  by_cases h : b > 4294967295 - a
  · rw [if_pos h]; congr 1; omega
  · rw [if_neg h]; congr 1; omega
theorem later_c (a b : Int) (w : World) (ha : 0 ≤ a) (ha2 : a ≤ 4294967295) (hb : 0 ≤ b) (hb2 : b ≤ 4294967295) : Calls Tryz.prog 56 #[.int .i64 a, .int .i64 b] w fun e w' => e = .returned (.int .i64 (later a b)) ∧ Below w.heap.size w w' :=
  (ddiref38_Later.calls a b _ w (later_f a b ha ha2 hb hb2)).mono (fun e w' ⟨he, hd⟩ => ⟨he, hd.below⟩)
theorem wait_f (tr : Int) (h : 1 ≤ tr ∧ tr ≤ 4) : ddiref42_wait.f 20 tr = some (waitF tr) := by
  have h4 : tr = 1 ∨ tr = 2 ∨ tr = 3 ∨ tr = 4 := by omega
  rcases h4 with rfl | rfl | rfl | rfl <;> decide +kernel
theorem wait_c (tr : Int) (w : World) (h : 1 ≤ tr ∧ tr ≤ 4) : Calls Tryz.prog 57 #[.int .i64 tr] w fun e w' => e = .returned (.int .i64 (waitF tr)) ∧ Below w.heap.size w w' :=
  (ddiref42_wait.calls 20 tr _ w (wait_f tr h)).mono (fun e w' ⟨he, hd⟩ => ⟨he, hd.below⟩)
theorem waitF_le (tr : Int) : 0 ≤ waitF tr ∧ waitF tr ≤ 32 := by unfold waitF; repeat' split <;> omega
theorem turned_c (s : Stn) (state tr now : Int) (bw : Bool) (w : World) (hst : state = 1 ∨ state = 2 ∨ state = 4 ∨ state = 5) (hx0 : 0 ≤ s.xid) (hW : ddiref35_Value.f 1000 [s.a] = some (wantF s.a, bw)) : Calls Tryz.prog 32 #[.agg (stA s), .int .i64 state, .int .i64 tr, .int .i64 now] w (Ret (turnF s state tr now) w) := by
  by_cases hx : 4294967295 ≤ s.xid
  · have e : turnF s state tr now = (s, []) := by unfold turnF stepF; simp only [if_pos hx, ite_self]
    rw [e]; exact turned_no s state tr now w hx
  · rcases hst with rfl | rfl | rfl | rfl
    · exact turned_1 s tr now bw w hx0 (by omega) hW
    · exact turned_2 s tr now bw w hx0 (by omega) hW
    · exact turned_4 s tr now bw w hx0 (by omega) hW
    · exact turned_5 s tr now bw w hx0 (by omega) hW
theorem trying_c (s : Stn) (now : Int) (bw : Bool) (w : World) (hx0 : 0 ≤ s.xid) (hs : 0 ≤ s.se ∧ s.se ≤ 4294967295) (ht : 1 ≤ s.tr ∧ s.tr ≤ 4) (hst : s.st = 1 ∨ s.st = 2) (hW : ddiref35_Value.f 1000 [s.a] = some (wantF s.a, bw)) : Calls Tryz.prog 33 #[.agg (stA s), .int .i64 now] w (Ret (askF s now) w) := by
 have hu32 := Tryz.underlying32
 have hu26 := Tryz.underlying28
 have hu39 := Tryz.underlying38
 have hu24 := Tryz.underlying26
 obtain ⟨c, h, st, xid, sv, ⟨v6, hi, lo⟩, t1, t2, un, se, at_⟩ := s
 replace hx0 : 0 ≤ xid := hx0
 replace hs : 0 ≤ se ∧ se ≤ 4294967295 := hs
 replace ht : 1 ≤ at_ ∧ at_ ≤ 4 := ht
 replace hst : st = 1 ∨ st = 2 := hst
 replace hW : ddiref35_Value.f 1000 [(⟨v6, hi, lo⟩ : S26)] = some (wantF ⟨v6, hi, lo⟩, bw) := hW
 have hW := Aside0.mk hW
 have hw4 := waitF_le at_
 show Calls Tryz.prog 33 #[.agg (stC c h st xid sv v6 hi lo t1 t2 un se at_), .int .i64 now] w _
 by_cases hn : now < later se (waitF at_)
 · have d1 : decide (now < later se (waitF at_)) = true := decide_eq_true hn
   have eF : askF ⟨c, h, st, xid, sv, ⟨v6, hi, lo⟩, t1, t2, un, se, at_⟩ now = (⟨c, h, st, xid, sv, ⟨v6, hi, lo⟩, t1, t2, un, se, at_⟩, []) := by unfold askF; rw [if_pos hn]
   rw [eF]
   clear eF
   have I := Aside0.mk (Inv.start0 (w0 := w))
   go_enter Tryz.func33, Tryz.ntmps33
   go_wp2_with (first
    | (refine gB rfl ?_; refine bk rfl rfl rfl I ?_; clear I; intro gb w1 I)
    | (refine ak rfl (al_R rfl) I ?_; clear I; intro gb w1 I)
    )
   have IS := Aside0.mk ((I.out.imp (fun _ _ => trivial)).sub (.cons _ (.cons_cons _ .slnil))).drew
   refine draw_ (Inv _ w [_] (fun _ => True)) [] kk rfl IS.out ?_
   have I2 := Aside0.mk I.out.drew
   clear I
   have I := I2
   clear I2
   refine pu1 (i := 0) rfl rfl kk ?_ (ha := by (go_simp; rfl))
   refine pu1 (i := 1) rfl rfl kk ?_ (ha := by (go_simp; rfl))
   refine ta1 (i := 2) rfl rfl kk rfl rfl IS.out zm (by exact ld_st11) ?_ (ha := by (go_simp; rfl))
   refine pu1 (i := 3) rfl rfl kk ?_ (ha := by (go_simp; rfl))
   refine ta1 (i := 4) rfl rfl kk rfl rfl IS.out zm (by exact ld_st12) ?_ (ha := by (go_simp; rfl))
   refine ca1 (i := 5) rfl rfl kk (by decide) Tryz.func57 kk rfl #[.int .i64 at_] rfl zh ?_
   refine (wait_c at_ _ ht).mono ?_
   rintro e_ w1 ⟨rfl, hb⟩
   have I2 := Aside0.mk (I.out.call hb)
   clear I IS hb
   have I := I2
   clear I2
   have IS := Aside0.mk ((I.out.imp (fun _ _ => trivial)).sub (.cons _ (.cons_cons _ .slnil)))
   refine ⟨_, rfl, IS.out, ?_⟩
   refine ca1 (i := 6) rfl rfl kk (by decide) Tryz.func56 kk rfl #[.int .i64 se, .int .i64 (waitF at_)] rfl zh ?_
   refine (later_c se (waitF at_) _ hs.1 hs.2 hw4.1 (by omega)).mono ?_
   rintro e_ w1 ⟨rfl, hb⟩
   have I2 := Aside0.mk (I.out.call hb)
   clear I IS hb
   have I := I2
   clear I2
   have IS := Aside0.mk ((I.out.imp (fun _ _ => trivial)).sub (.cons _ (.cons_cons _ .slnil)))
   refine ⟨_, rfl, IS.out, ?_⟩
   refine pu1 (i := 7) rfl rfl kk ?_ (ha := by (go_simp; rfl))
   refine do1 kk ?_
   clear IS
   go_wp2_with (first
    | (refine gD 16 rfl ?_; refine ll rfl rfl rfl I mm1 ld_stR ?_)
    | (refine gS rfl ?_; refine sk rfl rfl rfl rfl rfl I zm (by first | exact sr_stR) zu ?_; clear I; intro w1 I)
    )
   refine bodyPost_ret (ret_ct rfl _ I.out _ rfl zm Tryz.underlying32 rfl kk) rfl ?_
   exact ⟨_, rfl, Pks_nil _ _, I.out.below⟩
 have d1 : decide (now < later se (waitF at_)) = false := decide_eq_false hn
 by_cases h4 : 4 ≤ at_
 · have d2 : decide (4 ≤ at_) = true := decide_eq_true h4
   have eF : askF ⟨c, h, st, xid, sv, ⟨v6, hi, lo⟩, t1, t2, un, se, at_⟩ now = (initF ⟨c, h, st, xid, sv, ⟨v6, hi, lo⟩, t1, t2, un, se, at_⟩, []) := by unfold askF; rw [if_neg hn, if_pos h4]
   rw [eF]
   clear eF
   have I := Aside0.mk (Inv.start0 (w0 := w))
   go_enter Tryz.func33, Tryz.ntmps33
   go_wp2_with (first
    | (refine gB rfl ?_; refine bk rfl rfl rfl I ?_; clear I; intro gb w1 I)
    | (refine ak rfl (al_R rfl) I ?_; clear I; intro gb w1 I)
    )
   have IS := Aside0.mk ((I.out.imp (fun _ _ => trivial)).sub (.cons _ (.cons_cons _ .slnil))).drew
   refine draw_ (Inv _ w [_] (fun _ => True)) [] kk rfl IS.out ?_
   have I2 := Aside0.mk I.out.drew
   clear I
   have I := I2
   clear I2
   refine pu1 (i := 0) rfl rfl kk ?_ (ha := by (go_simp; rfl))
   refine pu1 (i := 1) rfl rfl kk ?_ (ha := by (go_simp; rfl))
   refine ta1 (i := 2) rfl rfl kk rfl rfl IS.out zm (by exact ld_st11) ?_ (ha := by (go_simp; rfl))
   refine pu1 (i := 3) rfl rfl kk ?_ (ha := by (go_simp; rfl))
   refine ta1 (i := 4) rfl rfl kk rfl rfl IS.out zm (by exact ld_st12) ?_ (ha := by (go_simp; rfl))
   refine ca1 (i := 5) rfl rfl kk (by decide) Tryz.func57 kk rfl #[.int .i64 at_] rfl zh ?_
   refine (wait_c at_ _ ht).mono ?_
   rintro e_ w1 ⟨rfl, hb⟩
   have I2 := Aside0.mk (I.out.call hb)
   clear I IS hb
   have I := I2
   clear I2
   have IS := Aside0.mk ((I.out.imp (fun _ _ => trivial)).sub (.cons _ (.cons_cons _ .slnil)))
   refine ⟨_, rfl, IS.out, ?_⟩
   refine ca1 (i := 6) rfl rfl kk (by decide) Tryz.func56 kk rfl #[.int .i64 se, .int .i64 (waitF at_)] rfl zh ?_
   refine (later_c se (waitF at_) _ hs.1 hs.2 hw4.1 (by omega)).mono ?_
   rintro e_ w1 ⟨rfl, hb⟩
   have I2 := Aside0.mk (I.out.call hb)
   clear I IS hb
   have I := I2
   clear I2
   have IS := Aside0.mk ((I.out.imp (fun _ _ => trivial)).sub (.cons _ (.cons_cons _ .slnil)))
   refine ⟨_, rfl, IS.out, ?_⟩
   refine pu1 (i := 7) rfl rfl kk ?_ (ha := by (go_simp; rfl))
   refine do1 kk ?_
   clear IS
   go_wp2_with (first
    | (refine gD 18 rfl ?_; refine ll rfl rfl rfl I mm1 ld_st12 ?_)
    | (refine gD 20 rfl ?_; refine ll rfl rfl rfl I mm1 ld_stR ?_)
    | (refine gD 21 rfl ?_; refine ck rfl Tryz.func43 kk rfl #[.agg (stC c h st xid sv v6 hi lo t1 t2 un se at_)] rfl zh (rinit_c c h st xid sv v6 hi lo t1 t2 un se at_ _) ?_; rintro e_ w1 ⟨rfl, hb⟩; refine ⟨_, rfl, ?_⟩; replace I := callK I hb; clear hb)
    | (refine gS rfl ?_; refine sk rfl rfl rfl rfl rfl I zm (by first | exact sr_stR) zu ?_; clear I; intro w1 I)
    )
   refine bodyPost_ret (ret_ct rfl _ I.out _ rfl zm Tryz.underlying32 rfl kk) rfl ?_
   exact ⟨_, rfl, Pks_nil _ _, I.out.below⟩
 have d2 : decide (4 ≤ at_) = false := decide_eq_false h4
 rcases hst with rfl | rfl
 ·
   have eF : askF ⟨c, h, 1, xid, sv, ⟨v6, hi, lo⟩, t1, t2, un, se, at_⟩ now = turnF ⟨c, h, 1, xid, sv, ⟨v6, hi, lo⟩, t1, t2, un, se, at_⟩ 1 (at_ + 1) now := by unfold askF; rw [if_neg hn, if_neg h4, if_pos rfl]; unfold turnF; rw [if_pos rfl]
   rw [eF]
   clear eF
   have I := Aside0.mk (Inv.start0 (w0 := w))
   go_enter Tryz.func33, Tryz.ntmps33
   go_wp2_with (first
    | (refine gB rfl ?_; refine bk rfl rfl rfl I ?_; clear I; intro gb w1 I)
    | (refine ak rfl (al_R rfl) I ?_; clear I; intro gb w1 I)
    )
   have IS := Aside0.mk ((I.out.imp (fun _ _ => trivial)).sub (.cons _ (.cons_cons _ .slnil))).drew
   refine draw_ (Inv _ w [_] (fun _ => True)) [] kk rfl IS.out ?_
   have I2 := Aside0.mk I.out.drew
   clear I
   have I := I2
   clear I2
   refine pu1 (i := 0) rfl rfl kk ?_ (ha := by (go_simp; rfl))
   refine pu1 (i := 1) rfl rfl kk ?_ (ha := by (go_simp; rfl))
   refine ta1 (i := 2) rfl rfl kk rfl rfl IS.out zm (by exact ld_st11) ?_ (ha := by (go_simp; rfl))
   refine pu1 (i := 3) rfl rfl kk ?_ (ha := by (go_simp; rfl))
   refine ta1 (i := 4) rfl rfl kk rfl rfl IS.out zm (by exact ld_st12) ?_ (ha := by (go_simp; rfl))
   refine ca1 (i := 5) rfl rfl kk (by decide) Tryz.func57 kk rfl #[.int .i64 at_] rfl zh ?_
   refine (wait_c at_ _ ht).mono ?_
   rintro e_ w1 ⟨rfl, hb⟩
   have I2 := Aside0.mk (I.out.call hb)
   clear I IS hb
   have I := I2
   clear I2
   have IS := Aside0.mk ((I.out.imp (fun _ _ => trivial)).sub (.cons _ (.cons_cons _ .slnil)))
   refine ⟨_, rfl, IS.out, ?_⟩
   refine ca1 (i := 6) rfl rfl kk (by decide) Tryz.func56 kk rfl #[.int .i64 se, .int .i64 (waitF at_)] rfl zh ?_
   refine (later_c se (waitF at_) _ hs.1 hs.2 hw4.1 (by omega)).mono ?_
   rintro e_ w1 ⟨rfl, hb⟩
   have I2 := Aside0.mk (I.out.call hb)
   clear I IS hb
   have I := I2
   clear I2
   have IS := Aside0.mk ((I.out.imp (fun _ _ => trivial)).sub (.cons _ (.cons_cons _ .slnil)))
   refine ⟨_, rfl, IS.out, ?_⟩
   refine pu1 (i := 7) rfl rfl kk ?_ (ha := by (go_simp; rfl))
   refine do1 kk ?_
   clear IS
   go_wp2_with (first
    | (refine ak rfl (al_R rfl) I ?_; clear I; intro gb w1 I)
    | (refine gD 18 rfl ?_; refine ll rfl rfl rfl I mm1 ld_st12 ?_)
    | (refine gD 23 rfl ?_; refine ll rfl rfl rfl I mm1 ld_stR ?_)
    | (refine gD 25 rfl ?_; refine ll rfl rfl rfl I mm1 ld_st2 ?_)
    | (refine gD 27 rfl ?_; refine ll rfl rfl rfl I mm1 ld_st12 ?_)
    | (refine gD 30 rfl ?_; refine ck rfl Tryz.func32 kk rfl #[.agg (stC c h 1 xid sv v6 hi lo t1 t2 un se at_), .int .i64 1, .int .i64 (at_ + 1), .int .i64 now] rfl zh (turned_c ⟨c, h, 1, xid, sv, ⟨v6, hi, lo⟩, t1, t2, un, se, at_⟩ 1 (at_ + 1) now bw _ (by omega) hx0 hW.out) ?_; rintro e_ w1 ⟨v, rfl, hf, hb⟩; refine ⟨_, rfl, ?_⟩; replace I := addK I hb hf; clear hb hf)
    | (refine gD 33 rfl ?_; refine ll rfl rfl rfl I mm0 ld_stAR ?_)
    | (refine gS rfl ?_; refine sk rfl rfl rfl rfl rfl I zm (by first | exact sr_stAR) zu ?_; clear I; intro w1 I)
    )
   refine bodyPost_ret (ret_ct rfl _ I.out _ rfl zm Tryz.underlying32 rfl kk) rfl ?_
   exact ⟨_, rfl, foot_new (I.out.foot.imp (fun W hW => hW.2)), I.out.below⟩
 ·
   have eF : askF ⟨c, h, 2, xid, sv, ⟨v6, hi, lo⟩, t1, t2, un, se, at_⟩ now = turnF ⟨c, h, 2, xid, sv, ⟨v6, hi, lo⟩, t1, t2, un, se, at_⟩ 2 (at_ + 1) now := by unfold askF; rw [if_neg hn, if_neg h4, if_neg (by show ¬ ((2 : Int) = 1); decide)]; unfold turnF; rw [if_neg (by decide), if_pos rfl]
   rw [eF]
   clear eF
   have I := Aside0.mk (Inv.start0 (w0 := w))
   go_enter Tryz.func33, Tryz.ntmps33
   go_wp2_with (first
    | (refine gB rfl ?_; refine bk rfl rfl rfl I ?_; clear I; intro gb w1 I)
    | (refine ak rfl (al_R rfl) I ?_; clear I; intro gb w1 I)
    )
   have IS := Aside0.mk ((I.out.imp (fun _ _ => trivial)).sub (.cons _ (.cons_cons _ .slnil))).drew
   refine draw_ (Inv _ w [_] (fun _ => True)) [] kk rfl IS.out ?_
   have I2 := Aside0.mk I.out.drew
   clear I
   have I := I2
   clear I2
   refine pu1 (i := 0) rfl rfl kk ?_ (ha := by (go_simp; rfl))
   refine pu1 (i := 1) rfl rfl kk ?_ (ha := by (go_simp; rfl))
   refine ta1 (i := 2) rfl rfl kk rfl rfl IS.out zm (by exact ld_st11) ?_ (ha := by (go_simp; rfl))
   refine pu1 (i := 3) rfl rfl kk ?_ (ha := by (go_simp; rfl))
   refine ta1 (i := 4) rfl rfl kk rfl rfl IS.out zm (by exact ld_st12) ?_ (ha := by (go_simp; rfl))
   refine ca1 (i := 5) rfl rfl kk (by decide) Tryz.func57 kk rfl #[.int .i64 at_] rfl zh ?_
   refine (wait_c at_ _ ht).mono ?_
   rintro e_ w1 ⟨rfl, hb⟩
   have I2 := Aside0.mk (I.out.call hb)
   clear I IS hb
   have I := I2
   clear I2
   have IS := Aside0.mk ((I.out.imp (fun _ _ => trivial)).sub (.cons _ (.cons_cons _ .slnil)))
   refine ⟨_, rfl, IS.out, ?_⟩
   refine ca1 (i := 6) rfl rfl kk (by decide) Tryz.func56 kk rfl #[.int .i64 se, .int .i64 (waitF at_)] rfl zh ?_
   refine (later_c se (waitF at_) _ hs.1 hs.2 hw4.1 (by omega)).mono ?_
   rintro e_ w1 ⟨rfl, hb⟩
   have I2 := Aside0.mk (I.out.call hb)
   clear I IS hb
   have I := I2
   clear I2
   have IS := Aside0.mk ((I.out.imp (fun _ _ => trivial)).sub (.cons _ (.cons_cons _ .slnil)))
   refine ⟨_, rfl, IS.out, ?_⟩
   refine pu1 (i := 7) rfl rfl kk ?_ (ha := by (go_simp; rfl))
   refine do1 kk ?_
   clear IS
   go_wp2_with (first
    | (refine ak rfl (al_R rfl) I ?_; clear I; intro gb w1 I)
    | (refine gD 18 rfl ?_; refine ll rfl rfl rfl I mm1 ld_st12 ?_)
    | (refine gD 23 rfl ?_; refine ll rfl rfl rfl I mm1 ld_stR ?_)
    | (refine gD 25 rfl ?_; refine ll rfl rfl rfl I mm1 ld_st2 ?_)
    | (refine gD 27 rfl ?_; refine ll rfl rfl rfl I mm1 ld_st12 ?_)
    | (refine gD 30 rfl ?_; refine ck rfl Tryz.func32 kk rfl #[.agg (stC c h 2 xid sv v6 hi lo t1 t2 un se at_), .int .i64 2, .int .i64 (at_ + 1), .int .i64 now] rfl zh (turned_c ⟨c, h, 2, xid, sv, ⟨v6, hi, lo⟩, t1, t2, un, se, at_⟩ 2 (at_ + 1) now bw _ (by omega) hx0 hW.out) ?_; rintro e_ w1 ⟨v, rfl, hf, hb⟩; refine ⟨_, rfl, ?_⟩; replace I := addK I hb hf; clear hb hf)
    | (refine gD 33 rfl ?_; refine ll rfl rfl rfl I mm0 ld_stAR ?_)
    | (refine gS rfl ?_; refine sk rfl rfl rfl rfl rfl I zm (by first | exact sr_stAR) zu ?_; clear I; intro w1 I)
    )
   refine bodyPost_ret (ret_ct rfl _ I.out _ rfl zm Tryz.underlying32 rfl kk) rfl ?_
   exact ⟨_, rfl, foot_new (I.out.foot.imp (fun W hW => hW.2)), I.out.below⟩
attribute [local go_sem] max2_int min2_int max_two min_two
theorem td2R {x : Int} (h : -4294967296 ≤ x) (h2 : x ≤ 4294967296) : -4294967296 ≤ x.tdiv 2 ∧ x.tdiv 2 ≤ 2147483648 := by
  have hs2 : Int.sign 2 = 1 := rfl
  rw [Int.tdiv_eq_ediv]; split <;> omega
theorem leased_c (s : Stn) (now : Int) (bw : Bool) (w : World) (hst : s.st = 3 ∨ s.st = 4 ∨ s.st = 5) (htr : s.tr = 0) (hx0 : 0 ≤ s.xid) (hs : (0 ≤ s.se ∧ s.se ≤ 4294967295)) (h2 : (0 ≤ s.t2 ∧ s.t2 ≤ 4294967295)) (hu : (0 ≤ s.un ∧ s.un ≤ 4294967295)) (hW : ddiref35_Value.f 1000 [s.a] = some (wantF s.a, bw)) : Calls Tryz.prog 34 #[.agg (stA s), .int .i64 now] w (Ret (tickF s now) w) := by
 have hu32 := Tryz.underlying32
 have hu26 := Tryz.underlying28
 have hu39 := Tryz.underlying38
 have hu24 := Tryz.underlying26
 obtain ⟨c, h, st, xid, sv, ⟨v6, hi, lo⟩, t1, t2, un, se, at_⟩ := s
 replace hst : st = 3 ∨ st = 4 ∨ st = 5 := hst
 obtain rfl : at_ = 0 := htr
 replace hx0 : 0 ≤ xid := hx0
 replace hs : (0 ≤ se ∧ se ≤ 4294967295) := hs
 replace h2 : (0 ≤ t2 ∧ t2 ≤ 4294967295) := h2
 replace hu : (0 ≤ un ∧ un ≤ 4294967295) := hu
 replace hW : ddiref35_Value.f 1000 [(⟨v6, hi, lo⟩ : S26)] = some (wantF ⟨v6, hi, lo⟩, bw) := hW
 have hW := Aside0.mk hW
 by_cases hn : un ≤ now
 · have e1 : decide (un ≤ now) = true := decide_eq_true hn
   rcases hst with rfl | rfl | rfl
   ·
     have eF : tickF (⟨c, h, 3, xid, sv, ⟨v6, hi, lo⟩, t1, t2, un, se, 0⟩ : Stn) now = (initF (⟨c, h, 3, xid, sv, ⟨v6, hi, lo⟩, t1, t2, un, se, 0⟩ : Stn), []) := by unfold tickF renewF; simp [hn]
     show Calls Tryz.prog 34 #[.agg (stC c h 3 xid sv v6 hi lo t1 t2 un se 0), .int .i64 now] w (Ret (tickF (⟨c, h, 3, xid, sv, ⟨v6, hi, lo⟩, t1, t2, un, se, 0⟩ : Stn) now) w)
     rw [eF]
     clear eF
     have I := Aside0.mk (Inv.start0 (w0 := w))
     go_enter Tryz.func34, Tryz.ntmps34
     go_wp2_with (first
      | (refine gB rfl ?_; refine bk rfl rfl rfl I ?_; clear I; intro gb w1 I)
      | (refine ak rfl (al_R rfl) I ?_; clear I; intro gb w1 I)
      | (refine gD 12 rfl ?_; refine ll rfl rfl rfl I mm1 ld_st10 ?_)
      | (refine gD 14 rfl ?_; refine ll rfl rfl rfl I mm1 ld_stR ?_)
      | (refine gD 15 rfl ?_; refine ck rfl Tryz.func43 kk rfl #[.agg (stC c h 3 xid sv v6 hi lo t1 t2 un se 0)] rfl zh (rinit_c c h 3 xid sv v6 hi lo t1 t2 un se 0 _) ?_; rintro e_ w1 ⟨rfl, hb⟩; refine ⟨_, rfl, ?_⟩; replace I := callK I hb; clear hb)
      | (refine gS rfl ?_; refine sk rfl rfl rfl rfl rfl I zm (by first | exact sr_stR) zu ?_; clear I; intro w1 I)
      )
     refine bodyPost_ret (ret_ct rfl _ I.out _ rfl zm Tryz.underlying32 rfl kk) rfl ?_
     exact ⟨_, rfl, Pks_nil _ _, I.out.below⟩
   ·
     have eF : tickF (⟨c, h, 4, xid, sv, ⟨v6, hi, lo⟩, t1, t2, un, se, 0⟩ : Stn) now = (initF (⟨c, h, 4, xid, sv, ⟨v6, hi, lo⟩, t1, t2, un, se, 0⟩ : Stn), []) := by unfold tickF renewF; simp [hn]
     show Calls Tryz.prog 34 #[.agg (stC c h 4 xid sv v6 hi lo t1 t2 un se 0), .int .i64 now] w (Ret (tickF (⟨c, h, 4, xid, sv, ⟨v6, hi, lo⟩, t1, t2, un, se, 0⟩ : Stn) now) w)
     rw [eF]
     clear eF
     have I := Aside0.mk (Inv.start0 (w0 := w))
     go_enter Tryz.func34, Tryz.ntmps34
     go_wp2_with (first
      | (refine gB rfl ?_; refine bk rfl rfl rfl I ?_; clear I; intro gb w1 I)
      | (refine ak rfl (al_R rfl) I ?_; clear I; intro gb w1 I)
      | (refine gD 12 rfl ?_; refine ll rfl rfl rfl I mm1 ld_st10 ?_)
      | (refine gD 14 rfl ?_; refine ll rfl rfl rfl I mm1 ld_stR ?_)
      | (refine gD 15 rfl ?_; refine ck rfl Tryz.func43 kk rfl #[.agg (stC c h 4 xid sv v6 hi lo t1 t2 un se 0)] rfl zh (rinit_c c h 4 xid sv v6 hi lo t1 t2 un se 0 _) ?_; rintro e_ w1 ⟨rfl, hb⟩; refine ⟨_, rfl, ?_⟩; replace I := callK I hb; clear hb)
      | (refine gS rfl ?_; refine sk rfl rfl rfl rfl rfl I zm (by first | exact sr_stR) zu ?_; clear I; intro w1 I)
      )
     refine bodyPost_ret (ret_ct rfl _ I.out _ rfl zm Tryz.underlying32 rfl kk) rfl ?_
     exact ⟨_, rfl, Pks_nil _ _, I.out.below⟩
   ·
     have eF : tickF (⟨c, h, 5, xid, sv, ⟨v6, hi, lo⟩, t1, t2, un, se, 0⟩ : Stn) now = (initF (⟨c, h, 5, xid, sv, ⟨v6, hi, lo⟩, t1, t2, un, se, 0⟩ : Stn), []) := by unfold tickF renewF; simp [hn]
     show Calls Tryz.prog 34 #[.agg (stC c h 5 xid sv v6 hi lo t1 t2 un se 0), .int .i64 now] w (Ret (tickF (⟨c, h, 5, xid, sv, ⟨v6, hi, lo⟩, t1, t2, un, se, 0⟩ : Stn) now) w)
     rw [eF]
     clear eF
     have I := Aside0.mk (Inv.start0 (w0 := w))
     go_enter Tryz.func34, Tryz.ntmps34
     go_wp2_with (first
      | (refine gB rfl ?_; refine bk rfl rfl rfl I ?_; clear I; intro gb w1 I)
      | (refine ak rfl (al_R rfl) I ?_; clear I; intro gb w1 I)
      | (refine gD 12 rfl ?_; refine ll rfl rfl rfl I mm1 ld_st10 ?_)
      | (refine gD 14 rfl ?_; refine ll rfl rfl rfl I mm1 ld_stR ?_)
      | (refine gD 15 rfl ?_; refine ck rfl Tryz.func43 kk rfl #[.agg (stC c h 5 xid sv v6 hi lo t1 t2 un se 0)] rfl zh (rinit_c c h 5 xid sv v6 hi lo t1 t2 un se 0 _) ?_; rintro e_ w1 ⟨rfl, hb⟩; refine ⟨_, rfl, ?_⟩; replace I := callK I hb; clear hb)
      | (refine gS rfl ?_; refine sk rfl rfl rfl rfl rfl I zm (by first | exact sr_stR) zu ?_; clear I; intro w1 I)
      )
     refine bodyPost_ret (ret_ct rfl _ I.out _ rfl zm Tryz.underlying32 rfl kk) rfl ?_
     exact ⟨_, rfl, Pks_nil _ _, I.out.below⟩
 have e1 : decide (un ≤ now) = false := decide_eq_false hn
 rcases hst with rfl | rfl | rfl
 ·
   by_cases h22 : t2 ≤ now
   ·
     have e2 : decide (t2 ≤ now) = true := decide_eq_true h22
     have eF : tickF (⟨c, h, 3, xid, sv, ⟨v6, hi, lo⟩, t1, t2, un, se, 0⟩ : Stn) now = turnF (⟨c, h, 3, xid, sv, ⟨v6, hi, lo⟩, t1, t2, un, se, 0⟩ : Stn) 5 0 now := by unfold tickF renewF turnF; simp [hn, h22]
     show Calls Tryz.prog 34 #[.agg (stC c h 3 xid sv v6 hi lo t1 t2 un se 0), .int .i64 now] w (Ret (tickF (⟨c, h, 3, xid, sv, ⟨v6, hi, lo⟩, t1, t2, un, se, 0⟩ : Stn) now) w)
     rw [eF]
     clear eF
     have I := Aside0.mk (Inv.start0 (w0 := w))
     go_enter Tryz.func34, Tryz.ntmps34
     go_wp2_with (first
      | (refine gB rfl ?_; refine bk rfl rfl rfl I ?_; clear I; intro gb w1 I)
      | (refine ak rfl (al_R rfl) I ?_; clear I; intro gb w1 I)
      | (refine gD 12 rfl ?_; refine ll rfl rfl rfl I mm1 ld_st10 ?_)
      )
     have IS := Aside0.mk ((I.out.imp (fun _ _ => trivial)).sub (.cons _ (.cons_cons _ .slnil))).drew
     refine draw_ (Inv _ w [_] (fun _ => True)) [] kk rfl IS.out ?_
     have I2 := Aside0.mk I.out.drew
     clear I
     have I := I2
     clear I2
     refine pu1 (i := 0) rfl rfl kk ?_ (ha := by (go_simp; rfl))
     refine ta1 (i := 1) rfl rfl kk rfl rfl IS.out zm (by exact ld_st2) ?_ (ha := by (go_simp; rfl))
     refine pu1 (i := 2) rfl rfl kk ?_ (ha := by (go_simp; rfl))
     refine ta1 (i := 3) rfl rfl kk rfl rfl IS.out zm (by exact ld_st9) ?_ (ha := by (go_simp; rfl))
     refine pu1 (i := 4) rfl rfl kk ?_ (ha := by (go_simp; rfl))
     refine pu1 (i := 5) rfl rfl kk ?_ (ha := by (go_simp; rfl))
     refine do1 kk ?_
     clear IS
     go_wp2_with (first
      | (refine gD 21 rfl ?_; refine ll rfl rfl rfl I mm1 ld_st2 ?_)
      | (refine gD 26 rfl ?_; refine ll rfl rfl rfl I mm1 ld_st9 ?_)
      | (refine gD 39 rfl ?_; refine ll rfl rfl rfl I mm1 ld_st2 ?_)
      | (refine gD 45 rfl ?_; refine ll rfl rfl rfl I mm1 ld_st2 ?_)
      | (refine gD 66 rfl ?_; refine ll rfl rfl rfl I mm1 ld_stR ?_)
      | (refine gD 72 rfl ?_; refine ll rfl rfl rfl I mm0 ld_stAR ?_)
      | (refine ak rfl (al_R rfl) I ?_; clear I; intro gb w1 I)
      | (refine gD 69 rfl ?_; refine ck rfl Tryz.func32 kk rfl #[.agg (stC c h 3 xid sv v6 hi lo t1 t2 un se 0), .int .i64 5, .int .i64 0, .int .i64 now] rfl zh (turned_c (⟨c, h, 3, xid, sv, ⟨v6, hi, lo⟩, t1, t2, un, se, 0⟩ : Stn) 5 0 now bw _ (by omega) hx0 hW.out) ?_; rintro e_ w1 ⟨v, rfl, hf, hb⟩; refine ⟨_, rfl, ?_⟩; replace I := addK I hb hf; clear hb hf)
      | (refine gS rfl ?_; refine sk rfl rfl rfl rfl rfl I zm (by first | exact sr_stAR) zu ?_; clear I; intro w1 I)
      )
     refine bodyPost_ret (ret_ct rfl _ I.out _ rfl zm Tryz.underlying32 rfl kk) rfl ?_
     exact ⟨_, rfl, foot_new (I.out.foot.imp (fun W hW => hW.2)), I.out.below⟩
   have e2 : decide (t2 ≤ now) = false := decide_eq_false h22
   by_cases h11 : t1 ≤ now
   · have e3 : decide (t1 ≤ now) = true := decide_eq_true h11
     have eF : tickF (⟨c, h, 3, xid, sv, ⟨v6, hi, lo⟩, t1, t2, un, se, 0⟩ : Stn) now = turnF (⟨c, h, 3, xid, sv, ⟨v6, hi, lo⟩, t1, t2, un, se, 0⟩ : Stn) 4 0 now := by unfold tickF renewF turnF; simp [hn, h22, h11]
     show Calls Tryz.prog 34 #[.agg (stC c h 3 xid sv v6 hi lo t1 t2 un se 0), .int .i64 now] w (Ret (tickF (⟨c, h, 3, xid, sv, ⟨v6, hi, lo⟩, t1, t2, un, se, 0⟩ : Stn) now) w)
     rw [eF]
     clear eF
     have I := Aside0.mk (Inv.start0 (w0 := w))
     go_enter Tryz.func34, Tryz.ntmps34
     go_wp2_with (first
      | (refine gB rfl ?_; refine bk rfl rfl rfl I ?_; clear I; intro gb w1 I)
      | (refine ak rfl (al_R rfl) I ?_; clear I; intro gb w1 I)
      | (refine gD 12 rfl ?_; refine ll rfl rfl rfl I mm1 ld_st10 ?_)
      )
     have IS := Aside0.mk ((I.out.imp (fun _ _ => trivial)).sub (.cons _ (.cons_cons _ .slnil))).drew
     refine draw_ (Inv _ w [_] (fun _ => True)) [] kk rfl IS.out ?_
     have I2 := Aside0.mk I.out.drew
     clear I
     have I := I2
     clear I2
     refine pu1 (i := 0) rfl rfl kk ?_ (ha := by (go_simp; rfl))
     refine ta1 (i := 1) rfl rfl kk rfl rfl IS.out zm (by exact ld_st2) ?_ (ha := by (go_simp; rfl))
     refine pu1 (i := 2) rfl rfl kk ?_ (ha := by (go_simp; rfl))
     refine ta1 (i := 3) rfl rfl kk rfl rfl IS.out zm (by exact ld_st9) ?_ (ha := by (go_simp; rfl))
     refine pu1 (i := 4) rfl rfl kk ?_ (ha := by (go_simp; rfl))
     refine pu1 (i := 5) rfl rfl kk ?_ (ha := by (go_simp; rfl))
     refine do1 kk ?_
     clear IS
     go_wp2_with (first
      | (refine gD 21 rfl ?_; refine ll rfl rfl rfl I mm1 ld_st2 ?_)
      | (refine gD 26 rfl ?_; refine ll rfl rfl rfl I mm1 ld_st9 ?_)
      | (refine gD 30 rfl ?_; refine ll rfl rfl rfl I mm1 ld_st2 ?_)
      | (refine gD 35 rfl ?_; refine ll rfl rfl rfl I mm1 ld_st8 ?_)
      | (refine gD 39 rfl ?_; refine ll rfl rfl rfl I mm1 ld_st2 ?_)
      | (refine gD 45 rfl ?_; refine ll rfl rfl rfl I mm1 ld_st2 ?_)
      | (refine gD 66 rfl ?_; refine ll rfl rfl rfl I mm1 ld_stR ?_)
      | (refine gD 72 rfl ?_; refine ll rfl rfl rfl I mm0 ld_stAR ?_)
      | (refine ak rfl (al_R rfl) I ?_; clear I; intro gb w1 I)
      | (refine gD 69 rfl ?_; refine ck rfl Tryz.func32 kk rfl #[.agg (stC c h 3 xid sv v6 hi lo t1 t2 un se 0), .int .i64 4, .int .i64 0, .int .i64 now] rfl zh (turned_c (⟨c, h, 3, xid, sv, ⟨v6, hi, lo⟩, t1, t2, un, se, 0⟩ : Stn) 4 0 now bw _ (by omega) hx0 hW.out) ?_; rintro e_ w1 ⟨v, rfl, hf, hb⟩; refine ⟨_, rfl, ?_⟩; replace I := addK I hb hf; clear hb hf)
      | (refine gS rfl ?_; refine sk rfl rfl rfl rfl rfl I zm (by first | exact sr_stAR) zu ?_; clear I; intro w1 I)
      )
     refine bodyPost_ret (ret_ct rfl _ I.out _ rfl zm Tryz.underlying32 rfl kk) rfl ?_
     exact ⟨_, rfl, foot_new (I.out.foot.imp (fun W hW => hW.2)), I.out.below⟩
   have e3 : decide (t1 ≤ now) = false := decide_eq_false h11
   have eF : tickF (⟨c, h, 3, xid, sv, ⟨v6, hi, lo⟩, t1, t2, un, se, 0⟩ : Stn) now = ((⟨c, h, 3, xid, sv, ⟨v6, hi, lo⟩, t1, t2, un, se, 0⟩ : Stn), []) := by unfold tickF renewF; simp [hn, h22, h11]
   show Calls Tryz.prog 34 #[.agg (stC c h 3 xid sv v6 hi lo t1 t2 un se 0), .int .i64 now] w (Ret (tickF (⟨c, h, 3, xid, sv, ⟨v6, hi, lo⟩, t1, t2, un, se, 0⟩ : Stn) now) w)
   rw [eF]
   clear eF
   have I := Aside0.mk (Inv.start0 (w0 := w))
   go_enter Tryz.func34, Tryz.ntmps34
   go_wp2_with (first
    | (refine gB rfl ?_; refine bk rfl rfl rfl I ?_; clear I; intro gb w1 I)
    | (refine ak rfl (al_R rfl) I ?_; clear I; intro gb w1 I)
    | (refine gD 12 rfl ?_; refine ll rfl rfl rfl I mm1 ld_st10 ?_)
    )
   have IS := Aside0.mk ((I.out.imp (fun _ _ => trivial)).sub (.cons _ (.cons_cons _ .slnil))).drew
   refine draw_ (Inv _ w [_] (fun _ => True)) [] kk rfl IS.out ?_
   have I2 := Aside0.mk I.out.drew
   clear I
   have I := I2
   clear I2
   refine pu1 (i := 0) rfl rfl kk ?_ (ha := by (go_simp; rfl))
   refine ta1 (i := 1) rfl rfl kk rfl rfl IS.out zm (by exact ld_st2) ?_ (ha := by (go_simp; rfl))
   refine pu1 (i := 2) rfl rfl kk ?_ (ha := by (go_simp; rfl))
   refine ta1 (i := 3) rfl rfl kk rfl rfl IS.out zm (by exact ld_st9) ?_ (ha := by (go_simp; rfl))
   refine pu1 (i := 4) rfl rfl kk ?_ (ha := by (go_simp; rfl))
   refine pu1 (i := 5) rfl rfl kk ?_ (ha := by (go_simp; rfl))
   refine do1 kk ?_
   clear IS
   go_wp2_with (first
    | (refine gD 21 rfl ?_; refine ll rfl rfl rfl I mm1 ld_st2 ?_)
    | (refine gD 26 rfl ?_; refine ll rfl rfl rfl I mm1 ld_st9 ?_)
    | (refine gD 30 rfl ?_; refine ll rfl rfl rfl I mm1 ld_st2 ?_)
    | (refine gD 35 rfl ?_; refine ll rfl rfl rfl I mm1 ld_st8 ?_)
    | (refine gD 39 rfl ?_; refine ll rfl rfl rfl I mm1 ld_st2 ?_)
    | (refine gD 45 rfl ?_; refine ll rfl rfl rfl I mm1 ld_st2 ?_)
    | (refine gD 64 rfl ?_; refine ll rfl rfl rfl I mm1 ld_stR ?_)
    | (refine gS rfl ?_; refine sk rfl rfl rfl rfl rfl I zm (by first | exact sr_stR) zu ?_; clear I; intro w1 I)
    )
   refine bodyPost_ret (ret_ct rfl _ I.out _ rfl zm Tryz.underlying32 rfl kk) rfl ?_
   exact ⟨_, rfl, Pks_nil _ _, I.out.below⟩
 ·
   by_cases h22 : t2 ≤ now
   ·
     have e2 : decide (t2 ≤ now) = true := decide_eq_true h22
     have eF : tickF (⟨c, h, 4, xid, sv, ⟨v6, hi, lo⟩, t1, t2, un, se, 0⟩ : Stn) now = turnF (⟨c, h, 4, xid, sv, ⟨v6, hi, lo⟩, t1, t2, un, se, 0⟩ : Stn) 5 0 now := by unfold tickF renewF turnF; simp [hn, h22]
     show Calls Tryz.prog 34 #[.agg (stC c h 4 xid sv v6 hi lo t1 t2 un se 0), .int .i64 now] w (Ret (tickF (⟨c, h, 4, xid, sv, ⟨v6, hi, lo⟩, t1, t2, un, se, 0⟩ : Stn) now) w)
     rw [eF]
     clear eF
     have I := Aside0.mk (Inv.start0 (w0 := w))
     go_enter Tryz.func34, Tryz.ntmps34
     go_wp2_with (first
      | (refine gB rfl ?_; refine bk rfl rfl rfl I ?_; clear I; intro gb w1 I)
      | (refine ak rfl (al_R rfl) I ?_; clear I; intro gb w1 I)
      | (refine gD 12 rfl ?_; refine ll rfl rfl rfl I mm1 ld_st10 ?_)
      )
     have IS := Aside0.mk ((I.out.imp (fun _ _ => trivial)).sub (.cons _ (.cons_cons _ .slnil))).drew
     refine draw_ (Inv _ w [_] (fun _ => True)) [] kk rfl IS.out ?_
     have I2 := Aside0.mk I.out.drew
     clear I
     have I := I2
     clear I2
     refine pu1 (i := 0) rfl rfl kk ?_ (ha := by (go_simp; rfl))
     refine ta1 (i := 1) rfl rfl kk rfl rfl IS.out zm (by exact ld_st2) ?_ (ha := by (go_simp; rfl))
     refine pu1 (i := 2) rfl rfl kk ?_ (ha := by (go_simp; rfl))
     refine ta1 (i := 3) rfl rfl kk rfl rfl IS.out zm (by exact ld_st9) ?_ (ha := by (go_simp; rfl))
     refine pu1 (i := 4) rfl rfl kk ?_ (ha := by (go_simp; rfl))
     refine pu1 (i := 5) rfl rfl kk ?_ (ha := by (go_simp; rfl))
     refine do1 kk ?_
     clear IS
     go_wp2_with (first
      | (refine gD 21 rfl ?_; refine ll rfl rfl rfl I mm1 ld_st2 ?_)
      | (refine gD 26 rfl ?_; refine ll rfl rfl rfl I mm1 ld_st9 ?_)
      | (refine gD 39 rfl ?_; refine ll rfl rfl rfl I mm1 ld_st2 ?_)
      | (refine gD 45 rfl ?_; refine ll rfl rfl rfl I mm1 ld_st2 ?_)
      | (refine gD 66 rfl ?_; refine ll rfl rfl rfl I mm1 ld_stR ?_)
      | (refine gD 72 rfl ?_; refine ll rfl rfl rfl I mm0 ld_stAR ?_)
      | (refine ak rfl (al_R rfl) I ?_; clear I; intro gb w1 I)
      | (refine gD 69 rfl ?_; refine ck rfl Tryz.func32 kk rfl #[.agg (stC c h 4 xid sv v6 hi lo t1 t2 un se 0), .int .i64 5, .int .i64 0, .int .i64 now] rfl zh (turned_c (⟨c, h, 4, xid, sv, ⟨v6, hi, lo⟩, t1, t2, un, se, 0⟩ : Stn) 5 0 now bw _ (by omega) hx0 hW.out) ?_; rintro e_ w1 ⟨v, rfl, hf, hb⟩; refine ⟨_, rfl, ?_⟩; replace I := addK I hb hf; clear hb hf)
      | (refine gS rfl ?_; refine sk rfl rfl rfl rfl rfl I zm (by first | exact sr_stAR) zu ?_; clear I; intro w1 I)
      )
     refine bodyPost_ret (ret_ct rfl _ I.out _ rfl zm Tryz.underlying32 rfl kk) rfl ?_
     exact ⟨_, rfl, foot_new (I.out.foot.imp (fun W hW => hW.2)), I.out.below⟩
   have e2 : decide (t2 ≤ now) = false := decide_eq_false h22
   by_cases hm : 60 < (t2 - se).tdiv 2
   · have m1 : decide (60 < (t2 - se).tdiv 2) = true := decide_eq_true hm
     have em : max 60 ((t2 - se).tdiv 2) = (t2 - se).tdiv 2 := by omega
     have hd := td2R (x := t2 - se) (by omega) (by omega)
     by_cases ha : now < later se ((t2 - se).tdiv 2)
     ·
       have dl : decide (now < later se ((t2 - se).tdiv 2)) = true := decide_eq_true ha
       have eF : tickF (⟨c, h, 4, xid, sv, ⟨v6, hi, lo⟩, t1, t2, un, se, 0⟩ : Stn) now = ((⟨c, h, 4, xid, sv, ⟨v6, hi, lo⟩, t1, t2, un, se, 0⟩ : Stn), []) := by unfold tickF renewF; simp [hn, em, h22, show ¬ later se ((t2 - se).tdiv 2) ≤ now by omega]
       show Calls Tryz.prog 34 #[.agg (stC c h 4 xid sv v6 hi lo t1 t2 un se 0), .int .i64 now] w (Ret (tickF (⟨c, h, 4, xid, sv, ⟨v6, hi, lo⟩, t1, t2, un, se, 0⟩ : Stn) now) w)
       rw [eF]
       clear eF
       have I := Aside0.mk (Inv.start0 (w0 := w))
       go_enter Tryz.func34, Tryz.ntmps34
       go_wp2_with (first
        | (refine gB rfl ?_; refine bk rfl rfl rfl I ?_; clear I; intro gb w1 I)
        | (refine ak rfl (al_R rfl) I ?_; clear I; intro gb w1 I)
        | (refine gD 12 rfl ?_; refine ll rfl rfl rfl I mm1 ld_st10 ?_)
        )
       have IS := Aside0.mk ((I.out.imp (fun _ _ => trivial)).sub (.cons _ (.cons_cons _ .slnil))).drew
       refine draw_ (Inv _ w [_] (fun _ => True)) [] kk rfl IS.out ?_
       have I2 := Aside0.mk I.out.drew
       clear I
       have I := I2
       clear I2
       refine pu1 (i := 0) rfl rfl kk ?_ (ha := by (go_simp; rfl))
       refine ta1 (i := 1) rfl rfl kk rfl rfl IS.out zm (by exact ld_st2) ?_ (ha := by (go_simp; rfl))
       refine pu1 (i := 2) rfl rfl kk ?_ (ha := by (go_simp; rfl))
       refine ta1 (i := 3) rfl rfl kk rfl rfl IS.out zm (by exact ld_st9) ?_ (ha := by (go_simp; rfl))
       refine pu1 (i := 4) rfl rfl kk ?_ (ha := by (go_simp; rfl))
       refine pu1 (i := 5) rfl rfl kk ?_ (ha := by (go_simp; rfl))
       refine do1 kk ?_
       clear IS
       go_wp2_with (first
        | (refine gD 21 rfl ?_; refine ll rfl rfl rfl I mm1 ld_st2 ?_)
        | (refine gD 26 rfl ?_; refine ll rfl rfl rfl I mm1 ld_st9 ?_)
        | (refine gD 30 rfl ?_; refine ll rfl rfl rfl I mm1 ld_st2 ?_)
        | (refine gD 39 rfl ?_; refine ll rfl rfl rfl I mm1 ld_st2 ?_)
        | (refine gD 45 rfl ?_; refine ll rfl rfl rfl I mm1 ld_st2 ?_)
        | (refine gD 53 rfl ?_; refine ll rfl rfl rfl I mm1 ld_st11 ?_)
        | (refine gD 56 rfl ?_; refine ll rfl rfl rfl I mm1 ld_st11 ?_)
        | (refine gD 64 rfl ?_; refine ll rfl rfl rfl I mm1 ld_stR ?_)
        | (refine gD 60 rfl ?_; refine ck rfl Tryz.func56 kk rfl #[.int .i64 se, .int .i64 ((t2 - se).tdiv 2)] rfl zh (later_c se ((t2 - se).tdiv 2) _ hs.1 hs.2 (by omega) (by omega)) ?_; rintro e_ w1 ⟨rfl, hb⟩; refine ⟨_, rfl, ?_⟩; replace I := callK I hb; clear hb)
        | (refine gS rfl ?_; refine sk rfl rfl rfl rfl rfl I zm (by first | exact sr_stR) zu ?_; clear I; intro w1 I)
        )
       refine bodyPost_ret (ret_ct rfl _ I.out _ rfl zm Tryz.underlying32 rfl kk) rfl ?_
       exact ⟨_, rfl, Pks_nil _ _, I.out.below⟩
     have dl : decide (now < later se ((t2 - se).tdiv 2)) = false := decide_eq_false ha
     have eF : tickF (⟨c, h, 4, xid, sv, ⟨v6, hi, lo⟩, t1, t2, un, se, 0⟩ : Stn) now = turnF (⟨c, h, 4, xid, sv, ⟨v6, hi, lo⟩, t1, t2, un, se, 0⟩ : Stn) 4 0 now := by unfold tickF renewF turnF; simp [hn, em, h22, show later se ((t2 - se).tdiv 2) ≤ now by omega]
     show Calls Tryz.prog 34 #[.agg (stC c h 4 xid sv v6 hi lo t1 t2 un se 0), .int .i64 now] w (Ret (tickF (⟨c, h, 4, xid, sv, ⟨v6, hi, lo⟩, t1, t2, un, se, 0⟩ : Stn) now) w)
     rw [eF]
     clear eF
     have I := Aside0.mk (Inv.start0 (w0 := w))
     go_enter Tryz.func34, Tryz.ntmps34
     go_wp2_with (first
      | (refine gB rfl ?_; refine bk rfl rfl rfl I ?_; clear I; intro gb w1 I)
      | (refine ak rfl (al_R rfl) I ?_; clear I; intro gb w1 I)
      | (refine gD 12 rfl ?_; refine ll rfl rfl rfl I mm1 ld_st10 ?_)
      )
     have IS := Aside0.mk ((I.out.imp (fun _ _ => trivial)).sub (.cons _ (.cons_cons _ .slnil))).drew
     refine draw_ (Inv _ w [_] (fun _ => True)) [] kk rfl IS.out ?_
     have I2 := Aside0.mk I.out.drew
     clear I
     have I := I2
     clear I2
     refine pu1 (i := 0) rfl rfl kk ?_ (ha := by (go_simp; rfl))
     refine ta1 (i := 1) rfl rfl kk rfl rfl IS.out zm (by exact ld_st2) ?_ (ha := by (go_simp; rfl))
     refine pu1 (i := 2) rfl rfl kk ?_ (ha := by (go_simp; rfl))
     refine ta1 (i := 3) rfl rfl kk rfl rfl IS.out zm (by exact ld_st9) ?_ (ha := by (go_simp; rfl))
     refine pu1 (i := 4) rfl rfl kk ?_ (ha := by (go_simp; rfl))
     refine pu1 (i := 5) rfl rfl kk ?_ (ha := by (go_simp; rfl))
     refine do1 kk ?_
     clear IS
     go_wp2_with (first
      | (refine gD 21 rfl ?_; refine ll rfl rfl rfl I mm1 ld_st2 ?_)
      | (refine gD 26 rfl ?_; refine ll rfl rfl rfl I mm1 ld_st9 ?_)
      | (refine gD 30 rfl ?_; refine ll rfl rfl rfl I mm1 ld_st2 ?_)
      | (refine gD 39 rfl ?_; refine ll rfl rfl rfl I mm1 ld_st2 ?_)
      | (refine gD 45 rfl ?_; refine ll rfl rfl rfl I mm1 ld_st2 ?_)
      | (refine gD 53 rfl ?_; refine ll rfl rfl rfl I mm1 ld_st11 ?_)
      | (refine gD 56 rfl ?_; refine ll rfl rfl rfl I mm1 ld_st11 ?_)
      | (refine gD 66 rfl ?_; refine ll rfl rfl rfl I mm1 ld_stR ?_)
      | (refine gD 60 rfl ?_; refine ck rfl Tryz.func56 kk rfl #[.int .i64 se, .int .i64 ((t2 - se).tdiv 2)] rfl zh (later_c se ((t2 - se).tdiv 2) _ hs.1 hs.2 (by omega) (by omega)) ?_; rintro e_ w1 ⟨rfl, hb⟩; refine ⟨_, rfl, ?_⟩; replace I := callK I hb; clear hb)
      | (refine gD 72 rfl ?_; refine ll rfl rfl rfl I mm0 ld_stAR ?_)
      | (refine ak rfl (al_R rfl) I ?_; clear I; intro gb w1 I)
      | (refine gD 69 rfl ?_; refine ck rfl Tryz.func32 kk rfl #[.agg (stC c h 4 xid sv v6 hi lo t1 t2 un se 0), .int .i64 4, .int .i64 0, .int .i64 now] rfl zh (turned_c (⟨c, h, 4, xid, sv, ⟨v6, hi, lo⟩, t1, t2, un, se, 0⟩ : Stn) 4 0 now bw _ (by omega) hx0 hW.out) ?_; rintro e_ w1 ⟨v, rfl, hf, hb⟩; refine ⟨_, rfl, ?_⟩; replace I := addK I hb hf; clear hb hf)
      | (refine gS rfl ?_; refine sk rfl rfl rfl rfl rfl I zm (by first | exact sr_stAR) zu ?_; clear I; intro w1 I)
      )
     refine bodyPost_ret (ret_ct rfl _ I.out _ rfl zm Tryz.underlying32 rfl kk) rfl ?_
     exact ⟨_, rfl, foot_new (I.out.foot.imp (fun W hW => hW.2)), I.out.below⟩
   have m1 : decide (60 < (t2 - se).tdiv 2) = false := decide_eq_false hm
   replace hm : (t2 - se).tdiv 2 ≤ 60 := by omega
   have em : max 60 ((t2 - se).tdiv 2) = 60 := by omega
   by_cases ha : now < later se (60)
   ·
     have dl : decide (now < later se (60)) = true := decide_eq_true ha
     have eF : tickF (⟨c, h, 4, xid, sv, ⟨v6, hi, lo⟩, t1, t2, un, se, 0⟩ : Stn) now = ((⟨c, h, 4, xid, sv, ⟨v6, hi, lo⟩, t1, t2, un, se, 0⟩ : Stn), []) := by unfold tickF renewF; simp [hn, em, h22, show ¬ later se (60) ≤ now by omega]
     show Calls Tryz.prog 34 #[.agg (stC c h 4 xid sv v6 hi lo t1 t2 un se 0), .int .i64 now] w (Ret (tickF (⟨c, h, 4, xid, sv, ⟨v6, hi, lo⟩, t1, t2, un, se, 0⟩ : Stn) now) w)
     rw [eF]
     clear eF
     have I := Aside0.mk (Inv.start0 (w0 := w))
     go_enter Tryz.func34, Tryz.ntmps34
     go_wp2_with (first
      | (refine gB rfl ?_; refine bk rfl rfl rfl I ?_; clear I; intro gb w1 I)
      | (refine ak rfl (al_R rfl) I ?_; clear I; intro gb w1 I)
      | (refine gD 12 rfl ?_; refine ll rfl rfl rfl I mm1 ld_st10 ?_)
      )
     have IS := Aside0.mk ((I.out.imp (fun _ _ => trivial)).sub (.cons _ (.cons_cons _ .slnil))).drew
     refine draw_ (Inv _ w [_] (fun _ => True)) [] kk rfl IS.out ?_
     have I2 := Aside0.mk I.out.drew
     clear I
     have I := I2
     clear I2
     refine pu1 (i := 0) rfl rfl kk ?_ (ha := by (go_simp; rfl))
     refine ta1 (i := 1) rfl rfl kk rfl rfl IS.out zm (by exact ld_st2) ?_ (ha := by (go_simp; rfl))
     refine pu1 (i := 2) rfl rfl kk ?_ (ha := by (go_simp; rfl))
     refine ta1 (i := 3) rfl rfl kk rfl rfl IS.out zm (by exact ld_st9) ?_ (ha := by (go_simp; rfl))
     refine pu1 (i := 4) rfl rfl kk ?_ (ha := by (go_simp; rfl))
     refine pu1 (i := 5) rfl rfl kk ?_ (ha := by (go_simp; rfl))
     refine do1 kk ?_
     clear IS
     go_wp2_with (first
      | (refine gD 21 rfl ?_; refine ll rfl rfl rfl I mm1 ld_st2 ?_)
      | (refine gD 26 rfl ?_; refine ll rfl rfl rfl I mm1 ld_st9 ?_)
      | (refine gD 30 rfl ?_; refine ll rfl rfl rfl I mm1 ld_st2 ?_)
      | (refine gD 39 rfl ?_; refine ll rfl rfl rfl I mm1 ld_st2 ?_)
      | (refine gD 45 rfl ?_; refine ll rfl rfl rfl I mm1 ld_st2 ?_)
      | (refine gD 53 rfl ?_; refine ll rfl rfl rfl I mm1 ld_st11 ?_)
      | (refine gD 56 rfl ?_; refine ll rfl rfl rfl I mm1 ld_st11 ?_)
      | (refine gD 64 rfl ?_; refine ll rfl rfl rfl I mm1 ld_stR ?_)
      | (refine gD 60 rfl ?_; refine ck rfl Tryz.func56 kk rfl #[.int .i64 se, .int .i64 (60)] rfl zh (later_c se (60) _ hs.1 hs.2 (by omega) (by omega)) ?_; rintro e_ w1 ⟨rfl, hb⟩; refine ⟨_, rfl, ?_⟩; replace I := callK I hb; clear hb)
      | (refine gS rfl ?_; refine sk rfl rfl rfl rfl rfl I zm (by first | exact sr_stR) zu ?_; clear I; intro w1 I)
      )
     refine bodyPost_ret (ret_ct rfl _ I.out _ rfl zm Tryz.underlying32 rfl kk) rfl ?_
     exact ⟨_, rfl, Pks_nil _ _, I.out.below⟩
   have dl : decide (now < later se (60)) = false := decide_eq_false ha
   have eF : tickF (⟨c, h, 4, xid, sv, ⟨v6, hi, lo⟩, t1, t2, un, se, 0⟩ : Stn) now = turnF (⟨c, h, 4, xid, sv, ⟨v6, hi, lo⟩, t1, t2, un, se, 0⟩ : Stn) 4 0 now := by unfold tickF renewF turnF; simp [hn, em, h22, show later se (60) ≤ now by omega]
   show Calls Tryz.prog 34 #[.agg (stC c h 4 xid sv v6 hi lo t1 t2 un se 0), .int .i64 now] w (Ret (tickF (⟨c, h, 4, xid, sv, ⟨v6, hi, lo⟩, t1, t2, un, se, 0⟩ : Stn) now) w)
   rw [eF]
   clear eF
   have I := Aside0.mk (Inv.start0 (w0 := w))
   go_enter Tryz.func34, Tryz.ntmps34
   go_wp2_with (first
    | (refine gB rfl ?_; refine bk rfl rfl rfl I ?_; clear I; intro gb w1 I)
    | (refine ak rfl (al_R rfl) I ?_; clear I; intro gb w1 I)
    | (refine gD 12 rfl ?_; refine ll rfl rfl rfl I mm1 ld_st10 ?_)
    )
   have IS := Aside0.mk ((I.out.imp (fun _ _ => trivial)).sub (.cons _ (.cons_cons _ .slnil))).drew
   refine draw_ (Inv _ w [_] (fun _ => True)) [] kk rfl IS.out ?_
   have I2 := Aside0.mk I.out.drew
   clear I
   have I := I2
   clear I2
   refine pu1 (i := 0) rfl rfl kk ?_ (ha := by (go_simp; rfl))
   refine ta1 (i := 1) rfl rfl kk rfl rfl IS.out zm (by exact ld_st2) ?_ (ha := by (go_simp; rfl))
   refine pu1 (i := 2) rfl rfl kk ?_ (ha := by (go_simp; rfl))
   refine ta1 (i := 3) rfl rfl kk rfl rfl IS.out zm (by exact ld_st9) ?_ (ha := by (go_simp; rfl))
   refine pu1 (i := 4) rfl rfl kk ?_ (ha := by (go_simp; rfl))
   refine pu1 (i := 5) rfl rfl kk ?_ (ha := by (go_simp; rfl))
   refine do1 kk ?_
   clear IS
   go_wp2_with (first
    | (refine gD 21 rfl ?_; refine ll rfl rfl rfl I mm1 ld_st2 ?_)
    | (refine gD 26 rfl ?_; refine ll rfl rfl rfl I mm1 ld_st9 ?_)
    | (refine gD 30 rfl ?_; refine ll rfl rfl rfl I mm1 ld_st2 ?_)
    | (refine gD 39 rfl ?_; refine ll rfl rfl rfl I mm1 ld_st2 ?_)
    | (refine gD 45 rfl ?_; refine ll rfl rfl rfl I mm1 ld_st2 ?_)
    | (refine gD 53 rfl ?_; refine ll rfl rfl rfl I mm1 ld_st11 ?_)
    | (refine gD 56 rfl ?_; refine ll rfl rfl rfl I mm1 ld_st11 ?_)
    | (refine gD 66 rfl ?_; refine ll rfl rfl rfl I mm1 ld_stR ?_)
    | (refine gD 60 rfl ?_; refine ck rfl Tryz.func56 kk rfl #[.int .i64 se, .int .i64 (60)] rfl zh (later_c se (60) _ hs.1 hs.2 (by omega) (by omega)) ?_; rintro e_ w1 ⟨rfl, hb⟩; refine ⟨_, rfl, ?_⟩; replace I := callK I hb; clear hb)
    | (refine gD 72 rfl ?_; refine ll rfl rfl rfl I mm0 ld_stAR ?_)
    | (refine ak rfl (al_R rfl) I ?_; clear I; intro gb w1 I)
    | (refine gD 69 rfl ?_; refine ck rfl Tryz.func32 kk rfl #[.agg (stC c h 4 xid sv v6 hi lo t1 t2 un se 0), .int .i64 4, .int .i64 0, .int .i64 now] rfl zh (turned_c (⟨c, h, 4, xid, sv, ⟨v6, hi, lo⟩, t1, t2, un, se, 0⟩ : Stn) 4 0 now bw _ (by omega) hx0 hW.out) ?_; rintro e_ w1 ⟨v, rfl, hf, hb⟩; refine ⟨_, rfl, ?_⟩; replace I := addK I hb hf; clear hb hf)
    | (refine gS rfl ?_; refine sk rfl rfl rfl rfl rfl I zm (by first | exact sr_stAR) zu ?_; clear I; intro w1 I)
    )
   refine bodyPost_ret (ret_ct rfl _ I.out _ rfl zm Tryz.underlying32 rfl kk) rfl ?_
   exact ⟨_, rfl, foot_new (I.out.foot.imp (fun W hW => hW.2)), I.out.below⟩
 ·
   by_cases hm : 60 < (un - se).tdiv 2
   · have m1 : decide (60 < (un - se).tdiv 2) = true := decide_eq_true hm
     have em : max 60 ((un - se).tdiv 2) = (un - se).tdiv 2 := by omega
     have hd := td2R (x := un - se) (by omega) (by omega)
     by_cases ha : now < later se ((un - se).tdiv 2)
     ·
       have dl : decide (now < later se ((un - se).tdiv 2)) = true := decide_eq_true ha
       have eF : tickF (⟨c, h, 5, xid, sv, ⟨v6, hi, lo⟩, t1, t2, un, se, 0⟩ : Stn) now = ((⟨c, h, 5, xid, sv, ⟨v6, hi, lo⟩, t1, t2, un, se, 0⟩ : Stn), []) := by unfold tickF renewF; simp [hn, em, show ¬ later se ((un - se).tdiv 2) ≤ now by omega]
       show Calls Tryz.prog 34 #[.agg (stC c h 5 xid sv v6 hi lo t1 t2 un se 0), .int .i64 now] w (Ret (tickF (⟨c, h, 5, xid, sv, ⟨v6, hi, lo⟩, t1, t2, un, se, 0⟩ : Stn) now) w)
       rw [eF]
       clear eF
       have I := Aside0.mk (Inv.start0 (w0 := w))
       go_enter Tryz.func34, Tryz.ntmps34
       go_wp2_with (first
        | (refine gB rfl ?_; refine bk rfl rfl rfl I ?_; clear I; intro gb w1 I)
        | (refine ak rfl (al_R rfl) I ?_; clear I; intro gb w1 I)
        | (refine gD 12 rfl ?_; refine ll rfl rfl rfl I mm1 ld_st10 ?_)
        )
       have IS := Aside0.mk ((I.out.imp (fun _ _ => trivial)).sub (.cons _ (.cons_cons _ .slnil))).drew
       refine draw_ (Inv _ w [_] (fun _ => True)) [] kk rfl IS.out ?_
       have I2 := Aside0.mk I.out.drew
       clear I
       have I := I2
       clear I2
       refine pu1 (i := 0) rfl rfl kk ?_ (ha := by (go_simp; rfl))
       refine ta1 (i := 1) rfl rfl kk rfl rfl IS.out zm (by exact ld_st2) ?_ (ha := by (go_simp; rfl))
       refine pu1 (i := 2) rfl rfl kk ?_ (ha := by (go_simp; rfl))
       refine ta1 (i := 3) rfl rfl kk rfl rfl IS.out zm (by exact ld_st9) ?_ (ha := by (go_simp; rfl))
       refine pu1 (i := 4) rfl rfl kk ?_ (ha := by (go_simp; rfl))
       refine pu1 (i := 5) rfl rfl kk ?_ (ha := by (go_simp; rfl))
       refine do1 kk ?_
       clear IS
       go_wp2_with (first
        | (refine gD 21 rfl ?_; refine ll rfl rfl rfl I mm1 ld_st2 ?_)
        | (refine gD 30 rfl ?_; refine ll rfl rfl rfl I mm1 ld_st2 ?_)
        | (refine gD 39 rfl ?_; refine ll rfl rfl rfl I mm1 ld_st2 ?_)
        | (refine gD 42 rfl ?_; refine ll rfl rfl rfl I mm1 ld_st10 ?_)
        | (refine gD 45 rfl ?_; refine ll rfl rfl rfl I mm1 ld_st2 ?_)
        | (refine gD 53 rfl ?_; refine ll rfl rfl rfl I mm1 ld_st11 ?_)
        | (refine gD 56 rfl ?_; refine ll rfl rfl rfl I mm1 ld_st11 ?_)
        | (refine gD 64 rfl ?_; refine ll rfl rfl rfl I mm1 ld_stR ?_)
        | (refine gD 60 rfl ?_; refine ck rfl Tryz.func56 kk rfl #[.int .i64 se, .int .i64 ((un - se).tdiv 2)] rfl zh (later_c se ((un - se).tdiv 2) _ hs.1 hs.2 (by omega) (by omega)) ?_; rintro e_ w1 ⟨rfl, hb⟩; refine ⟨_, rfl, ?_⟩; replace I := callK I hb; clear hb)
        | (refine gS rfl ?_; refine sk rfl rfl rfl rfl rfl I zm (by first | exact sr_stR) zu ?_; clear I; intro w1 I)
        )
       refine bodyPost_ret (ret_ct rfl _ I.out _ rfl zm Tryz.underlying32 rfl kk) rfl ?_
       exact ⟨_, rfl, Pks_nil _ _, I.out.below⟩
     have dl : decide (now < later se ((un - se).tdiv 2)) = false := decide_eq_false ha
     have eF : tickF (⟨c, h, 5, xid, sv, ⟨v6, hi, lo⟩, t1, t2, un, se, 0⟩ : Stn) now = turnF (⟨c, h, 5, xid, sv, ⟨v6, hi, lo⟩, t1, t2, un, se, 0⟩ : Stn) 5 0 now := by unfold tickF renewF turnF; simp [hn, em, show later se ((un - se).tdiv 2) ≤ now by omega]
     show Calls Tryz.prog 34 #[.agg (stC c h 5 xid sv v6 hi lo t1 t2 un se 0), .int .i64 now] w (Ret (tickF (⟨c, h, 5, xid, sv, ⟨v6, hi, lo⟩, t1, t2, un, se, 0⟩ : Stn) now) w)
     rw [eF]
     clear eF
     have I := Aside0.mk (Inv.start0 (w0 := w))
     go_enter Tryz.func34, Tryz.ntmps34
     go_wp2_with (first
      | (refine gB rfl ?_; refine bk rfl rfl rfl I ?_; clear I; intro gb w1 I)
      | (refine ak rfl (al_R rfl) I ?_; clear I; intro gb w1 I)
      | (refine gD 12 rfl ?_; refine ll rfl rfl rfl I mm1 ld_st10 ?_)
      )
     have IS := Aside0.mk ((I.out.imp (fun _ _ => trivial)).sub (.cons _ (.cons_cons _ .slnil))).drew
     refine draw_ (Inv _ w [_] (fun _ => True)) [] kk rfl IS.out ?_
     have I2 := Aside0.mk I.out.drew
     clear I
     have I := I2
     clear I2
     refine pu1 (i := 0) rfl rfl kk ?_ (ha := by (go_simp; rfl))
     refine ta1 (i := 1) rfl rfl kk rfl rfl IS.out zm (by exact ld_st2) ?_ (ha := by (go_simp; rfl))
     refine pu1 (i := 2) rfl rfl kk ?_ (ha := by (go_simp; rfl))
     refine ta1 (i := 3) rfl rfl kk rfl rfl IS.out zm (by exact ld_st9) ?_ (ha := by (go_simp; rfl))
     refine pu1 (i := 4) rfl rfl kk ?_ (ha := by (go_simp; rfl))
     refine pu1 (i := 5) rfl rfl kk ?_ (ha := by (go_simp; rfl))
     refine do1 kk ?_
     clear IS
     go_wp2_with (first
      | (refine gD 21 rfl ?_; refine ll rfl rfl rfl I mm1 ld_st2 ?_)
      | (refine gD 30 rfl ?_; refine ll rfl rfl rfl I mm1 ld_st2 ?_)
      | (refine gD 39 rfl ?_; refine ll rfl rfl rfl I mm1 ld_st2 ?_)
      | (refine gD 42 rfl ?_; refine ll rfl rfl rfl I mm1 ld_st10 ?_)
      | (refine gD 45 rfl ?_; refine ll rfl rfl rfl I mm1 ld_st2 ?_)
      | (refine gD 53 rfl ?_; refine ll rfl rfl rfl I mm1 ld_st11 ?_)
      | (refine gD 56 rfl ?_; refine ll rfl rfl rfl I mm1 ld_st11 ?_)
      | (refine gD 66 rfl ?_; refine ll rfl rfl rfl I mm1 ld_stR ?_)
      | (refine gD 60 rfl ?_; refine ck rfl Tryz.func56 kk rfl #[.int .i64 se, .int .i64 ((un - se).tdiv 2)] rfl zh (later_c se ((un - se).tdiv 2) _ hs.1 hs.2 (by omega) (by omega)) ?_; rintro e_ w1 ⟨rfl, hb⟩; refine ⟨_, rfl, ?_⟩; replace I := callK I hb; clear hb)
      | (refine gD 72 rfl ?_; refine ll rfl rfl rfl I mm0 ld_stAR ?_)
      | (refine ak rfl (al_R rfl) I ?_; clear I; intro gb w1 I)
      | (refine gD 69 rfl ?_; refine ck rfl Tryz.func32 kk rfl #[.agg (stC c h 5 xid sv v6 hi lo t1 t2 un se 0), .int .i64 5, .int .i64 0, .int .i64 now] rfl zh (turned_c (⟨c, h, 5, xid, sv, ⟨v6, hi, lo⟩, t1, t2, un, se, 0⟩ : Stn) 5 0 now bw _ (by omega) hx0 hW.out) ?_; rintro e_ w1 ⟨v, rfl, hf, hb⟩; refine ⟨_, rfl, ?_⟩; replace I := addK I hb hf; clear hb hf)
      | (refine gS rfl ?_; refine sk rfl rfl rfl rfl rfl I zm (by first | exact sr_stAR) zu ?_; clear I; intro w1 I)
      )
     refine bodyPost_ret (ret_ct rfl _ I.out _ rfl zm Tryz.underlying32 rfl kk) rfl ?_
     exact ⟨_, rfl, foot_new (I.out.foot.imp (fun W hW => hW.2)), I.out.below⟩
   have m1 : decide (60 < (un - se).tdiv 2) = false := decide_eq_false hm
   replace hm : (un - se).tdiv 2 ≤ 60 := by omega
   have em : max 60 ((un - se).tdiv 2) = 60 := by omega
   by_cases ha : now < later se (60)
   ·
     have dl : decide (now < later se (60)) = true := decide_eq_true ha
     have eF : tickF (⟨c, h, 5, xid, sv, ⟨v6, hi, lo⟩, t1, t2, un, se, 0⟩ : Stn) now = ((⟨c, h, 5, xid, sv, ⟨v6, hi, lo⟩, t1, t2, un, se, 0⟩ : Stn), []) := by unfold tickF renewF; simp [hn, em, show ¬ later se (60) ≤ now by omega]
     show Calls Tryz.prog 34 #[.agg (stC c h 5 xid sv v6 hi lo t1 t2 un se 0), .int .i64 now] w (Ret (tickF (⟨c, h, 5, xid, sv, ⟨v6, hi, lo⟩, t1, t2, un, se, 0⟩ : Stn) now) w)
     rw [eF]
     clear eF
     have I := Aside0.mk (Inv.start0 (w0 := w))
     go_enter Tryz.func34, Tryz.ntmps34
     go_wp2_with (first
      | (refine gB rfl ?_; refine bk rfl rfl rfl I ?_; clear I; intro gb w1 I)
      | (refine ak rfl (al_R rfl) I ?_; clear I; intro gb w1 I)
      | (refine gD 12 rfl ?_; refine ll rfl rfl rfl I mm1 ld_st10 ?_)
      )
     have IS := Aside0.mk ((I.out.imp (fun _ _ => trivial)).sub (.cons _ (.cons_cons _ .slnil))).drew
     refine draw_ (Inv _ w [_] (fun _ => True)) [] kk rfl IS.out ?_
     have I2 := Aside0.mk I.out.drew
     clear I
     have I := I2
     clear I2
     refine pu1 (i := 0) rfl rfl kk ?_ (ha := by (go_simp; rfl))
     refine ta1 (i := 1) rfl rfl kk rfl rfl IS.out zm (by exact ld_st2) ?_ (ha := by (go_simp; rfl))
     refine pu1 (i := 2) rfl rfl kk ?_ (ha := by (go_simp; rfl))
     refine ta1 (i := 3) rfl rfl kk rfl rfl IS.out zm (by exact ld_st9) ?_ (ha := by (go_simp; rfl))
     refine pu1 (i := 4) rfl rfl kk ?_ (ha := by (go_simp; rfl))
     refine pu1 (i := 5) rfl rfl kk ?_ (ha := by (go_simp; rfl))
     refine do1 kk ?_
     clear IS
     go_wp2_with (first
      | (refine gD 21 rfl ?_; refine ll rfl rfl rfl I mm1 ld_st2 ?_)
      | (refine gD 30 rfl ?_; refine ll rfl rfl rfl I mm1 ld_st2 ?_)
      | (refine gD 39 rfl ?_; refine ll rfl rfl rfl I mm1 ld_st2 ?_)
      | (refine gD 42 rfl ?_; refine ll rfl rfl rfl I mm1 ld_st10 ?_)
      | (refine gD 45 rfl ?_; refine ll rfl rfl rfl I mm1 ld_st2 ?_)
      | (refine gD 53 rfl ?_; refine ll rfl rfl rfl I mm1 ld_st11 ?_)
      | (refine gD 56 rfl ?_; refine ll rfl rfl rfl I mm1 ld_st11 ?_)
      | (refine gD 64 rfl ?_; refine ll rfl rfl rfl I mm1 ld_stR ?_)
      | (refine gD 60 rfl ?_; refine ck rfl Tryz.func56 kk rfl #[.int .i64 se, .int .i64 (60)] rfl zh (later_c se (60) _ hs.1 hs.2 (by omega) (by omega)) ?_; rintro e_ w1 ⟨rfl, hb⟩; refine ⟨_, rfl, ?_⟩; replace I := callK I hb; clear hb)
      | (refine gS rfl ?_; refine sk rfl rfl rfl rfl rfl I zm (by first | exact sr_stR) zu ?_; clear I; intro w1 I)
      )
     refine bodyPost_ret (ret_ct rfl _ I.out _ rfl zm Tryz.underlying32 rfl kk) rfl ?_
     exact ⟨_, rfl, Pks_nil _ _, I.out.below⟩
   have dl : decide (now < later se (60)) = false := decide_eq_false ha
   have eF : tickF (⟨c, h, 5, xid, sv, ⟨v6, hi, lo⟩, t1, t2, un, se, 0⟩ : Stn) now = turnF (⟨c, h, 5, xid, sv, ⟨v6, hi, lo⟩, t1, t2, un, se, 0⟩ : Stn) 5 0 now := by unfold tickF renewF turnF; simp [hn, em, show later se (60) ≤ now by omega]
   show Calls Tryz.prog 34 #[.agg (stC c h 5 xid sv v6 hi lo t1 t2 un se 0), .int .i64 now] w (Ret (tickF (⟨c, h, 5, xid, sv, ⟨v6, hi, lo⟩, t1, t2, un, se, 0⟩ : Stn) now) w)
   rw [eF]
   clear eF
   have I := Aside0.mk (Inv.start0 (w0 := w))
   go_enter Tryz.func34, Tryz.ntmps34
   go_wp2_with (first
    | (refine gB rfl ?_; refine bk rfl rfl rfl I ?_; clear I; intro gb w1 I)
    | (refine ak rfl (al_R rfl) I ?_; clear I; intro gb w1 I)
    | (refine gD 12 rfl ?_; refine ll rfl rfl rfl I mm1 ld_st10 ?_)
    )
   have IS := Aside0.mk ((I.out.imp (fun _ _ => trivial)).sub (.cons _ (.cons_cons _ .slnil))).drew
   refine draw_ (Inv _ w [_] (fun _ => True)) [] kk rfl IS.out ?_
   have I2 := Aside0.mk I.out.drew
   clear I
   have I := I2
   clear I2
   refine pu1 (i := 0) rfl rfl kk ?_ (ha := by (go_simp; rfl))
   refine ta1 (i := 1) rfl rfl kk rfl rfl IS.out zm (by exact ld_st2) ?_ (ha := by (go_simp; rfl))
   refine pu1 (i := 2) rfl rfl kk ?_ (ha := by (go_simp; rfl))
   refine ta1 (i := 3) rfl rfl kk rfl rfl IS.out zm (by exact ld_st9) ?_ (ha := by (go_simp; rfl))
   refine pu1 (i := 4) rfl rfl kk ?_ (ha := by (go_simp; rfl))
   refine pu1 (i := 5) rfl rfl kk ?_ (ha := by (go_simp; rfl))
   refine do1 kk ?_
   clear IS
   go_wp2_with (first
    | (refine gD 21 rfl ?_; refine ll rfl rfl rfl I mm1 ld_st2 ?_)
    | (refine gD 30 rfl ?_; refine ll rfl rfl rfl I mm1 ld_st2 ?_)
    | (refine gD 39 rfl ?_; refine ll rfl rfl rfl I mm1 ld_st2 ?_)
    | (refine gD 42 rfl ?_; refine ll rfl rfl rfl I mm1 ld_st10 ?_)
    | (refine gD 45 rfl ?_; refine ll rfl rfl rfl I mm1 ld_st2 ?_)
    | (refine gD 53 rfl ?_; refine ll rfl rfl rfl I mm1 ld_st11 ?_)
    | (refine gD 56 rfl ?_; refine ll rfl rfl rfl I mm1 ld_st11 ?_)
    | (refine gD 66 rfl ?_; refine ll rfl rfl rfl I mm1 ld_stR ?_)
    | (refine gD 60 rfl ?_; refine ck rfl Tryz.func56 kk rfl #[.int .i64 se, .int .i64 (60)] rfl zh (later_c se (60) _ hs.1 hs.2 (by omega) (by omega)) ?_; rintro e_ w1 ⟨rfl, hb⟩; refine ⟨_, rfl, ?_⟩; replace I := callK I hb; clear hb)
    | (refine gD 72 rfl ?_; refine ll rfl rfl rfl I mm0 ld_stAR ?_)
    | (refine ak rfl (al_R rfl) I ?_; clear I; intro gb w1 I)
    | (refine gD 69 rfl ?_; refine ck rfl Tryz.func32 kk rfl #[.agg (stC c h 5 xid sv v6 hi lo t1 t2 un se 0), .int .i64 5, .int .i64 0, .int .i64 now] rfl zh (turned_c (⟨c, h, 5, xid, sv, ⟨v6, hi, lo⟩, t1, t2, un, se, 0⟩ : Stn) 5 0 now bw _ (by omega) hx0 hW.out) ?_; rintro e_ w1 ⟨v, rfl, hf, hb⟩; refine ⟨_, rfl, ?_⟩; replace I := addK I hb hf; clear hb hf)
    | (refine gS rfl ?_; refine sk rfl rfl rfl rfl rfl I zm (by first | exact sr_stAR) zu ?_; clear I; intro w1 I)
    )
   refine bodyPost_ret (ret_ct rfl _ I.out _ rfl zm Tryz.underlying32 rfl kk) rfl ?_
   exact ⟨_, rfl, foot_new (I.out.foot.imp (fun W hW => hW.2)), I.out.below⟩
end Go.Proofs.YtlabnocmmeciaaaGreatDoor.BQ
namespace Go.Proofs.YtlabnocmmeciaaaGreatDoor.BQ
open Go RowKit YtlabnocmmeciaaaGreatDoorW.PrintWords YtlabnocmmeciaaaGreatDoorW.PrintLast YtlabnocmmeciaaaGreatDoorW.PrintMore Pa STN
theorem rtick_c (s : Stn) (now : Int) (bw : Bool) (w : World) (hst : 0 ≤ s.st ∧ s.st ≤ 5) (ht : s.st = 1 ∨ s.st = 2 → 1 ≤ s.tr ∧ s.tr ≤ 4) (htr : s.st = 3 ∨ s.st = 4 ∨ s.st = 5 → s.tr = 0) (hx0 : 0 ≤ s.xid) (hs : (0 ≤ s.se ∧ s.se ≤ 4294967295)) (h2 : (0 ≤ s.t2 ∧ s.t2 ≤ 4294967295)) (hu : (0 ≤ s.un ∧ s.un ≤ 4294967295)) (hW : ddiref35_Value.f 1000 [s.a] = some (wantF s.a, bw)) : Calls Tryz.prog 8 #[.agg (stA s), .int .i64 now] w (Ret (tickF s now) w) := by
 have hu32 := Tryz.underlying32
 have hu26 := Tryz.underlying28
 have hu39 := Tryz.underlying38
 have hu24 := Tryz.underlying26
 obtain ⟨c, h, st, xid, sv, ⟨v6, hi, lo⟩, t1, t2, un, se, at_⟩ := s
 replace hst : 0 ≤ st ∧ st ≤ 5 := hst
 have h6 : st = 0 ∨ st = 1 ∨ st = 2 ∨ st = 3 ∨ st = 4 ∨ st = 5 := by omega
 clear hst
 have hW := Aside0.mk hW
 replace ht := Aside0.mk ht
 replace htr := Aside0.mk htr
 rcases h6 with rfl | rfl | rfl | rfl | rfl | rfl
 ·
   have eF : tickF (⟨c, h, 0, xid, sv, ⟨v6, hi, lo⟩, t1, t2, un, se, at_⟩ : Stn) now = turnF (⟨c, h, 0, xid, sv, ⟨v6, hi, lo⟩, t1, t2, un, se, at_⟩ : Stn) 1 1 now := by unfold tickF turnF; rw [if_pos rfl, if_pos rfl]
   show Calls Tryz.prog 8 #[.agg (stC c h 0 xid sv v6 hi lo t1 t2 un se at_), .int .i64 now] w (Ret (tickF (⟨c, h, 0, xid, sv, ⟨v6, hi, lo⟩, t1, t2, un, se, at_⟩ : Stn) now) w)
   rw [eF]
   clear eF
   have I := Aside0.mk (Inv.start0 (w0 := w))
   go_enter Tryz.func8, Tryz.ntmps8
   go_wp2_with (first
    | (refine gB rfl ?_; refine bk rfl rfl rfl I ?_; clear I; intro gb w1 I)
    | (refine ak rfl (al_R rfl) I ?_; clear I; intro gb w1 I)
    | (refine gD 13 rfl ?_; refine ll rfl rfl rfl I mm1 ld_st2 ?_)
    | (refine gD 16 rfl ?_; refine ll rfl rfl rfl I mm1 ld_stR ?_)
    | (refine gD 18 rfl ?_; refine ck rfl Tryz.func32 kk rfl #[.agg (stC c h 0 xid sv v6 hi lo t1 t2 un se at_), .int .i64 1, .int .i64 1, .int .i64 now] rfl zh (turned_c (⟨c, h, 0, xid, sv, ⟨v6, hi, lo⟩, t1, t2, un, se, at_⟩ : Stn) 1 1 now bw _ (by omega) hx0 hW.out) ?_; rintro e_ w1 ⟨v, rfl, hf, hb⟩; refine ⟨_, rfl, ?_⟩; replace I := addK I hb hf; clear hb hf)
    | (refine gD 21 rfl ?_; refine ll rfl rfl rfl I mm0 ld_stAR ?_)
    | (refine gS rfl ?_; refine sk rfl rfl rfl rfl rfl I zm (by first | exact sr_stAR) zu ?_; clear I; intro w1 I)
    )
   refine bodyPost_ret (ret_ct rfl _ I.out _ rfl zm Tryz.underlying32 rfl kk) rfl ?_
   exact ⟨_, rfl, foot_new (I.out.foot.imp (fun W hW => hW.2)), I.out.below⟩
 ·
   have eF : tickF (⟨c, h, 1, xid, sv, ⟨v6, hi, lo⟩, t1, t2, un, se, at_⟩ : Stn) now = askF (⟨c, h, 1, xid, sv, ⟨v6, hi, lo⟩, t1, t2, un, se, at_⟩ : Stn) now := by unfold tickF; rw [if_neg (by show ¬ (1 : Int) = 0; decide), if_pos (by show (1 : Int) = 1 ∨ (1 : Int) = 2; decide)]
   show Calls Tryz.prog 8 #[.agg (stC c h 1 xid sv v6 hi lo t1 t2 un se at_), .int .i64 now] w (Ret (tickF (⟨c, h, 1, xid, sv, ⟨v6, hi, lo⟩, t1, t2, un, se, at_⟩ : Stn) now) w)
   rw [eF]
   clear eF
   have I := Aside0.mk (Inv.start0 (w0 := w))
   go_enter Tryz.func8, Tryz.ntmps8
   go_wp2_with (first
    | (refine gB rfl ?_; refine bk rfl rfl rfl I ?_; clear I; intro gb w1 I)
    | (refine ak rfl (al_R rfl) I ?_; clear I; intro gb w1 I)
    | (refine gD 13 rfl ?_; refine ll rfl rfl rfl I mm1 ld_st2 ?_)
    | (refine gD 24 rfl ?_; refine ll rfl rfl rfl I mm1 ld_st2 ?_)
    | (refine gD 32 rfl ?_; refine ll rfl rfl rfl I mm1 ld_stR ?_)
    | (refine gD 34 rfl ?_; refine ck rfl Tryz.func33 kk rfl #[.agg (stC c h 1 xid sv v6 hi lo t1 t2 un se at_), .int .i64 now] rfl zh (trying_c (⟨c, h, 1, xid, sv, ⟨v6, hi, lo⟩, t1, t2, un, se, at_⟩ : Stn) now bw _ hx0 hs (ht.out (by show (1 : Int) = 1 ∨ (1 : Int) = 2; decide)) (by show (1 : Int) = 1 ∨ (1 : Int) = 2; decide) hW.out) ?_; rintro e_ w1 ⟨v, rfl, hf, hb⟩; refine ⟨_, rfl, ?_⟩; replace I := addK I hb hf; clear hb hf)
    | (refine gD 37 rfl ?_; refine ll rfl rfl rfl I mm0 ld_stAR ?_)
    | (refine gS rfl ?_; refine sk rfl rfl rfl rfl rfl I zm (by first | exact sr_stAR) zu ?_; clear I; intro w1 I)
    )
   refine bodyPost_ret (ret_ct rfl _ I.out _ rfl zm Tryz.underlying32 rfl kk) rfl ?_
   exact ⟨_, rfl, foot_new (I.out.foot.imp (fun W hW => hW.2)), I.out.below⟩
 ·
   have eF : tickF (⟨c, h, 2, xid, sv, ⟨v6, hi, lo⟩, t1, t2, un, se, at_⟩ : Stn) now = askF (⟨c, h, 2, xid, sv, ⟨v6, hi, lo⟩, t1, t2, un, se, at_⟩ : Stn) now := by unfold tickF; rw [if_neg (by show ¬ (2 : Int) = 0; decide), if_pos (by show (2 : Int) = 1 ∨ (2 : Int) = 2; decide)]
   show Calls Tryz.prog 8 #[.agg (stC c h 2 xid sv v6 hi lo t1 t2 un se at_), .int .i64 now] w (Ret (tickF (⟨c, h, 2, xid, sv, ⟨v6, hi, lo⟩, t1, t2, un, se, at_⟩ : Stn) now) w)
   rw [eF]
   clear eF
   have I := Aside0.mk (Inv.start0 (w0 := w))
   go_enter Tryz.func8, Tryz.ntmps8
   go_wp2_with (first
    | (refine gB rfl ?_; refine bk rfl rfl rfl I ?_; clear I; intro gb w1 I)
    | (refine ak rfl (al_R rfl) I ?_; clear I; intro gb w1 I)
    | (refine gD 13 rfl ?_; refine ll rfl rfl rfl I mm1 ld_st2 ?_)
    | (refine gD 24 rfl ?_; refine ll rfl rfl rfl I mm1 ld_st2 ?_)
    | (refine gD 28 rfl ?_; refine ll rfl rfl rfl I mm1 ld_st2 ?_)
    | (refine gD 32 rfl ?_; refine ll rfl rfl rfl I mm1 ld_stR ?_)
    | (refine gD 34 rfl ?_; refine ck rfl Tryz.func33 kk rfl #[.agg (stC c h 2 xid sv v6 hi lo t1 t2 un se at_), .int .i64 now] rfl zh (trying_c (⟨c, h, 2, xid, sv, ⟨v6, hi, lo⟩, t1, t2, un, se, at_⟩ : Stn) now bw _ hx0 hs (ht.out (by show (2 : Int) = 1 ∨ (2 : Int) = 2; decide)) (by show (2 : Int) = 1 ∨ (2 : Int) = 2; decide) hW.out) ?_; rintro e_ w1 ⟨v, rfl, hf, hb⟩; refine ⟨_, rfl, ?_⟩; replace I := addK I hb hf; clear hb hf)
    | (refine gD 37 rfl ?_; refine ll rfl rfl rfl I mm0 ld_stAR ?_)
    | (refine gS rfl ?_; refine sk rfl rfl rfl rfl rfl I zm (by first | exact sr_stAR) zu ?_; clear I; intro w1 I)
    )
   refine bodyPost_ret (ret_ct rfl _ I.out _ rfl zm Tryz.underlying32 rfl kk) rfl ?_
   exact ⟨_, rfl, foot_new (I.out.foot.imp (fun W hW => hW.2)), I.out.below⟩
 ·
   show Calls Tryz.prog 8 #[.agg (stC c h 3 xid sv v6 hi lo t1 t2 un se at_), .int .i64 now] w (Ret (tickF (⟨c, h, 3, xid, sv, ⟨v6, hi, lo⟩, t1, t2, un, se, at_⟩ : Stn) now) w)
   have I := Aside0.mk (Inv.start0 (w0 := w))
   go_enter Tryz.func8, Tryz.ntmps8
   go_wp2_with (first
    | (refine gB rfl ?_; refine bk rfl rfl rfl I ?_; clear I; intro gb w1 I)
    | (refine ak rfl (al_R rfl) I ?_; clear I; intro gb w1 I)
    | (refine gD 13 rfl ?_; refine ll rfl rfl rfl I mm1 ld_st2 ?_)
    | (refine gD 24 rfl ?_; refine ll rfl rfl rfl I mm1 ld_st2 ?_)
    | (refine gD 28 rfl ?_; refine ll rfl rfl rfl I mm1 ld_st2 ?_)
    | (refine gD 40 rfl ?_; refine ll rfl rfl rfl I mm1 ld_stR ?_)
    | (refine gD 42 rfl ?_; refine ck rfl Tryz.func34 kk rfl #[.agg (stC c h 3 xid sv v6 hi lo t1 t2 un se at_), .int .i64 now] rfl zh (leased_c (⟨c, h, 3, xid, sv, ⟨v6, hi, lo⟩, t1, t2, un, se, at_⟩ : Stn) now bw _ (by show (3 : Int) = 3 ∨ (3 : Int) = 4 ∨ (3 : Int) = 5; decide) (htr.out (by show (3 : Int) = 3 ∨ (3 : Int) = 4 ∨ (3 : Int) = 5; decide)) hx0 hs h2 hu hW.out) ?_; rintro e_ w1 ⟨v, rfl, hf, hb⟩; refine ⟨_, rfl, ?_⟩; replace I := addK I hb hf; clear hb hf)
    | (refine gD 45 rfl ?_; refine ll rfl rfl rfl I mm0 ld_stAR ?_)
    | (refine gS rfl ?_; refine sk rfl rfl rfl rfl rfl I zm (by first | exact sr_stAR) zu ?_; clear I; intro w1 I)
    )
   refine bodyPost_ret (ret_ct rfl _ I.out _ rfl zm Tryz.underlying32 rfl kk) rfl ?_
   exact ⟨_, rfl, foot_new (I.out.foot.imp (fun W hW => hW.2)), I.out.below⟩
 ·
   show Calls Tryz.prog 8 #[.agg (stC c h 4 xid sv v6 hi lo t1 t2 un se at_), .int .i64 now] w (Ret (tickF (⟨c, h, 4, xid, sv, ⟨v6, hi, lo⟩, t1, t2, un, se, at_⟩ : Stn) now) w)
   have I := Aside0.mk (Inv.start0 (w0 := w))
   go_enter Tryz.func8, Tryz.ntmps8
   go_wp2_with (first
    | (refine gB rfl ?_; refine bk rfl rfl rfl I ?_; clear I; intro gb w1 I)
    | (refine ak rfl (al_R rfl) I ?_; clear I; intro gb w1 I)
    | (refine gD 13 rfl ?_; refine ll rfl rfl rfl I mm1 ld_st2 ?_)
    | (refine gD 24 rfl ?_; refine ll rfl rfl rfl I mm1 ld_st2 ?_)
    | (refine gD 28 rfl ?_; refine ll rfl rfl rfl I mm1 ld_st2 ?_)
    | (refine gD 40 rfl ?_; refine ll rfl rfl rfl I mm1 ld_stR ?_)
    | (refine gD 42 rfl ?_; refine ck rfl Tryz.func34 kk rfl #[.agg (stC c h 4 xid sv v6 hi lo t1 t2 un se at_), .int .i64 now] rfl zh (leased_c (⟨c, h, 4, xid, sv, ⟨v6, hi, lo⟩, t1, t2, un, se, at_⟩ : Stn) now bw _ (by show (4 : Int) = 3 ∨ (4 : Int) = 4 ∨ (4 : Int) = 5; decide) (htr.out (by show (4 : Int) = 3 ∨ (4 : Int) = 4 ∨ (4 : Int) = 5; decide)) hx0 hs h2 hu hW.out) ?_; rintro e_ w1 ⟨v, rfl, hf, hb⟩; refine ⟨_, rfl, ?_⟩; replace I := addK I hb hf; clear hb hf)
    | (refine gD 45 rfl ?_; refine ll rfl rfl rfl I mm0 ld_stAR ?_)
    | (refine gS rfl ?_; refine sk rfl rfl rfl rfl rfl I zm (by first | exact sr_stAR) zu ?_; clear I; intro w1 I)
    )
   refine bodyPost_ret (ret_ct rfl _ I.out _ rfl zm Tryz.underlying32 rfl kk) rfl ?_
   exact ⟨_, rfl, foot_new (I.out.foot.imp (fun W hW => hW.2)), I.out.below⟩
 ·
   show Calls Tryz.prog 8 #[.agg (stC c h 5 xid sv v6 hi lo t1 t2 un se at_), .int .i64 now] w (Ret (tickF (⟨c, h, 5, xid, sv, ⟨v6, hi, lo⟩, t1, t2, un, se, at_⟩ : Stn) now) w)
   have I := Aside0.mk (Inv.start0 (w0 := w))
   go_enter Tryz.func8, Tryz.ntmps8
   go_wp2_with (first
    | (refine gB rfl ?_; refine bk rfl rfl rfl I ?_; clear I; intro gb w1 I)
    | (refine ak rfl (al_R rfl) I ?_; clear I; intro gb w1 I)
    | (refine gD 13 rfl ?_; refine ll rfl rfl rfl I mm1 ld_st2 ?_)
    | (refine gD 24 rfl ?_; refine ll rfl rfl rfl I mm1 ld_st2 ?_)
    | (refine gD 28 rfl ?_; refine ll rfl rfl rfl I mm1 ld_st2 ?_)
    | (refine gD 40 rfl ?_; refine ll rfl rfl rfl I mm1 ld_stR ?_)
    | (refine gD 42 rfl ?_; refine ck rfl Tryz.func34 kk rfl #[.agg (stC c h 5 xid sv v6 hi lo t1 t2 un se at_), .int .i64 now] rfl zh (leased_c (⟨c, h, 5, xid, sv, ⟨v6, hi, lo⟩, t1, t2, un, se, at_⟩ : Stn) now bw _ (by show (5 : Int) = 3 ∨ (5 : Int) = 4 ∨ (5 : Int) = 5; decide) (htr.out (by show (5 : Int) = 3 ∨ (5 : Int) = 4 ∨ (5 : Int) = 5; decide)) hx0 hs h2 hu hW.out) ?_; rintro e_ w1 ⟨v, rfl, hf, hb⟩; refine ⟨_, rfl, ?_⟩; replace I := addK I hb hf; clear hb hf)
    | (refine gD 45 rfl ?_; refine ll rfl rfl rfl I mm0 ld_stAR ?_)
    | (refine gS rfl ?_; refine sk rfl rfl rfl rfl rfl I zm (by first | exact sr_stAR) zu ?_; clear I; intro w1 I)
    )
   refine bodyPost_ret (ret_ct rfl _ I.out _ rfl zm Tryz.underlying32 rfl kk) rfl ?_
   exact ⟨_, rfl, foot_new (I.out.foot.imp (fun W hW => hW.2)), I.out.below⟩
theorem end_c (s : Stn) (ki : Int) (bw : Bool) (w : World) (hst : 0 ≤ s.st ∧ s.st ≤ 5) (hx0 : 0 ≤ s.xid) (hW : ddiref35_Value.f 1000 [s.a] = some (wantF s.a, bw)) : Calls Tryz.prog 45 #[.agg (stA s), .int .i64 ki] w (Ret (giveF s ki) w) := by
 have hu32 := Tryz.underlying32
 have hu26 := Tryz.underlying28
 have hu39 := Tryz.underlying38
 have hu24 := Tryz.underlying26
 obtain ⟨c, h, st, xid, sv, ⟨v6, hi, lo⟩, t1, t2, un, se, at_⟩ := s
 replace hst : 0 ≤ st ∧ st ≤ 5 := hst
 have h6 : st = 0 ∨ st = 1 ∨ st = 2 ∨ st = 3 ∨ st = 4 ∨ st = 5 := by omega
 clear hst
 replace hW : ddiref35_Value.f 1000 [(⟨v6, hi, lo⟩ : S26)] = some (wantF ⟨v6, hi, lo⟩, bw) := hW
 have hW := Aside0.mk hW
 replace hx0 : 0 ≤ xid := hx0
 by_cases hx : 4294967295 ≤ xid
 · have e1 : decide (xid < 4294967295) = false := decide_eq_false (by omega)
   rcases h6 with rfl | rfl | rfl | rfl | rfl | rfl
   ·
     have eF : giveF (⟨c, h, 0, xid, sv, ⟨v6, hi, lo⟩, t1, t2, un, se, at_⟩ : Stn) ki = ((⟨c, h, 0, xid, sv, ⟨v6, hi, lo⟩, t1, t2, un, se, at_⟩ : Stn), []) := by unfold giveF; rw [if_neg (by show ¬ has 0 = true; decide)]
     show Calls Tryz.prog 45 #[.agg (stC c h 0 xid sv v6 hi lo t1 t2 un se at_), .int .i64 ki] w (Ret (giveF (⟨c, h, 0, xid, sv, ⟨v6, hi, lo⟩, t1, t2, un, se, at_⟩ : Stn) ki) w)
     rw [eF]
     clear eF
     have I := Aside0.mk (Inv.start0 (w0 := w))
     go_enter Tryz.func45, Tryz.ntmps45
     go_wp2_with (first
      | (refine gB rfl ?_; refine bk rfl rfl rfl I ?_; clear I; intro gb w1 I)
      | (refine ak rfl (al_R rfl) I ?_; clear I; intro gb w1 I)
      | (refine gD 7 rfl ?_; refine ll rfl rfl rfl I mm1 ld_st2 ?_)
      | (refine gD 11 rfl ?_; refine ll rfl rfl rfl I mm1 ld_st2 ?_)
      | (refine gD 16 rfl ?_; refine ll rfl rfl rfl I mm1 ld_st2 ?_)
      | (refine gD 19 rfl ?_; refine ll rfl rfl rfl I mm1 ld_stR ?_)
      | (refine gS rfl ?_; refine sk rfl rfl rfl rfl rfl I zm (by first | exact sr_stR) zu ?_; clear I; intro w1 I)
      )
     refine bodyPost_ret (ret_ct rfl _ I.out _ rfl zm Tryz.underlying32 rfl kk) rfl ?_
     exact ⟨_, rfl, Pks_nil _ _, I.out.below⟩
   ·
     have eF : giveF (⟨c, h, 1, xid, sv, ⟨v6, hi, lo⟩, t1, t2, un, se, at_⟩ : Stn) ki = ((⟨c, h, 1, xid, sv, ⟨v6, hi, lo⟩, t1, t2, un, se, at_⟩ : Stn), []) := by unfold giveF; rw [if_neg (by show ¬ has 1 = true; decide)]
     show Calls Tryz.prog 45 #[.agg (stC c h 1 xid sv v6 hi lo t1 t2 un se at_), .int .i64 ki] w (Ret (giveF (⟨c, h, 1, xid, sv, ⟨v6, hi, lo⟩, t1, t2, un, se, at_⟩ : Stn) ki) w)
     rw [eF]
     clear eF
     have I := Aside0.mk (Inv.start0 (w0 := w))
     go_enter Tryz.func45, Tryz.ntmps45
     go_wp2_with (first
      | (refine gB rfl ?_; refine bk rfl rfl rfl I ?_; clear I; intro gb w1 I)
      | (refine ak rfl (al_R rfl) I ?_; clear I; intro gb w1 I)
      | (refine gD 7 rfl ?_; refine ll rfl rfl rfl I mm1 ld_st2 ?_)
      | (refine gD 11 rfl ?_; refine ll rfl rfl rfl I mm1 ld_st2 ?_)
      | (refine gD 16 rfl ?_; refine ll rfl rfl rfl I mm1 ld_st2 ?_)
      | (refine gD 19 rfl ?_; refine ll rfl rfl rfl I mm1 ld_stR ?_)
      | (refine gS rfl ?_; refine sk rfl rfl rfl rfl rfl I zm (by first | exact sr_stR) zu ?_; clear I; intro w1 I)
      )
     refine bodyPost_ret (ret_ct rfl _ I.out _ rfl zm Tryz.underlying32 rfl kk) rfl ?_
     exact ⟨_, rfl, Pks_nil _ _, I.out.below⟩
   ·
     have eF : giveF (⟨c, h, 2, xid, sv, ⟨v6, hi, lo⟩, t1, t2, un, se, at_⟩ : Stn) ki = ((⟨c, h, 2, xid, sv, ⟨v6, hi, lo⟩, t1, t2, un, se, at_⟩ : Stn), []) := by unfold giveF; rw [if_neg (by show ¬ has 2 = true; decide)]
     show Calls Tryz.prog 45 #[.agg (stC c h 2 xid sv v6 hi lo t1 t2 un se at_), .int .i64 ki] w (Ret (giveF (⟨c, h, 2, xid, sv, ⟨v6, hi, lo⟩, t1, t2, un, se, at_⟩ : Stn) ki) w)
     rw [eF]
     clear eF
     have I := Aside0.mk (Inv.start0 (w0 := w))
     go_enter Tryz.func45, Tryz.ntmps45
     go_wp2_with (first
      | (refine gB rfl ?_; refine bk rfl rfl rfl I ?_; clear I; intro gb w1 I)
      | (refine ak rfl (al_R rfl) I ?_; clear I; intro gb w1 I)
      | (refine gD 7 rfl ?_; refine ll rfl rfl rfl I mm1 ld_st2 ?_)
      | (refine gD 11 rfl ?_; refine ll rfl rfl rfl I mm1 ld_st2 ?_)
      | (refine gD 16 rfl ?_; refine ll rfl rfl rfl I mm1 ld_st2 ?_)
      | (refine gD 19 rfl ?_; refine ll rfl rfl rfl I mm1 ld_stR ?_)
      | (refine gS rfl ?_; refine sk rfl rfl rfl rfl rfl I zm (by first | exact sr_stR) zu ?_; clear I; intro w1 I)
      )
     refine bodyPost_ret (ret_ct rfl _ I.out _ rfl zm Tryz.underlying32 rfl kk) rfl ?_
     exact ⟨_, rfl, Pks_nil _ _, I.out.below⟩
   ·
     have eF : giveF (⟨c, h, 3, xid, sv, ⟨v6, hi, lo⟩, t1, t2, un, se, at_⟩ : Stn) ki = (initF (⟨c, h, 3, xid, sv, ⟨v6, hi, lo⟩, t1, t2, un, se, at_⟩ : Stn), []) := by unfold giveF; rw [if_pos (by show has 3 = true; decide), if_pos hx]
     show Calls Tryz.prog 45 #[.agg (stC c h 3 xid sv v6 hi lo t1 t2 un se at_), .int .i64 ki] w (Ret (giveF (⟨c, h, 3, xid, sv, ⟨v6, hi, lo⟩, t1, t2, un, se, at_⟩ : Stn) ki) w)
     rw [eF]
     clear eF
     have I := Aside0.mk (Inv.start0 (w0 := w))
     go_enter Tryz.func45, Tryz.ntmps45
     go_wp2_with (first
      | (refine gB rfl ?_; refine bk rfl rfl rfl I ?_; clear I; intro gb w1 I)
      | (refine ak rfl (al_R rfl) I ?_; clear I; intro gb w1 I)
      | (refine gD 7 rfl ?_; refine ll rfl rfl rfl I mm1 ld_st2 ?_)
      | (refine gD 20 rfl ?_; refine ll rfl rfl rfl I mm1 ld_stR ?_)
      | (refine gD 23 rfl ?_; refine ll rfl rfl rfl I mm1 ld_stR ?_)
      | (refine gD 21 rfl ?_; refine ck rfl Tryz.func41 kk rfl #[.agg (stC c h 3 xid sv v6 hi lo t1 t2 un se at_)] rfl zh (can_c c h 3 xid sv v6 hi lo t1 t2 un se at_ _) ?_; rintro e_ w1 ⟨rfl, hb⟩; refine ⟨_, rfl, ?_⟩; replace I := callK I hb; clear hb)
      | (refine gD 24 rfl ?_; refine ck rfl Tryz.func43 kk rfl #[.agg (stC c h 3 xid sv v6 hi lo t1 t2 un se at_)] rfl zh (rinit_c c h 3 xid sv v6 hi lo t1 t2 un se at_ _) ?_; rintro e_ w1 ⟨rfl, hb⟩; refine ⟨_, rfl, ?_⟩; replace I := callK I hb; clear hb)
      | (refine gS rfl ?_; refine sk rfl rfl rfl rfl rfl I zm (by first | exact sr_stR) zu ?_; clear I; intro w1 I)
      )
     refine bodyPost_ret (ret_ct rfl _ I.out _ rfl zm Tryz.underlying32 rfl kk) rfl ?_
     exact ⟨_, rfl, Pks_nil _ _, I.out.below⟩
   ·
     have eF : giveF (⟨c, h, 4, xid, sv, ⟨v6, hi, lo⟩, t1, t2, un, se, at_⟩ : Stn) ki = (initF (⟨c, h, 4, xid, sv, ⟨v6, hi, lo⟩, t1, t2, un, se, at_⟩ : Stn), []) := by unfold giveF; rw [if_pos (by show has 4 = true; decide), if_pos hx]
     show Calls Tryz.prog 45 #[.agg (stC c h 4 xid sv v6 hi lo t1 t2 un se at_), .int .i64 ki] w (Ret (giveF (⟨c, h, 4, xid, sv, ⟨v6, hi, lo⟩, t1, t2, un, se, at_⟩ : Stn) ki) w)
     rw [eF]
     clear eF
     have I := Aside0.mk (Inv.start0 (w0 := w))
     go_enter Tryz.func45, Tryz.ntmps45
     go_wp2_with (first
      | (refine gB rfl ?_; refine bk rfl rfl rfl I ?_; clear I; intro gb w1 I)
      | (refine ak rfl (al_R rfl) I ?_; clear I; intro gb w1 I)
      | (refine gD 7 rfl ?_; refine ll rfl rfl rfl I mm1 ld_st2 ?_)
      | (refine gD 11 rfl ?_; refine ll rfl rfl rfl I mm1 ld_st2 ?_)
      | (refine gD 20 rfl ?_; refine ll rfl rfl rfl I mm1 ld_stR ?_)
      | (refine gD 23 rfl ?_; refine ll rfl rfl rfl I mm1 ld_stR ?_)
      | (refine gD 21 rfl ?_; refine ck rfl Tryz.func41 kk rfl #[.agg (stC c h 4 xid sv v6 hi lo t1 t2 un se at_)] rfl zh (can_c c h 4 xid sv v6 hi lo t1 t2 un se at_ _) ?_; rintro e_ w1 ⟨rfl, hb⟩; refine ⟨_, rfl, ?_⟩; replace I := callK I hb; clear hb)
      | (refine gD 24 rfl ?_; refine ck rfl Tryz.func43 kk rfl #[.agg (stC c h 4 xid sv v6 hi lo t1 t2 un se at_)] rfl zh (rinit_c c h 4 xid sv v6 hi lo t1 t2 un se at_ _) ?_; rintro e_ w1 ⟨rfl, hb⟩; refine ⟨_, rfl, ?_⟩; replace I := callK I hb; clear hb)
      | (refine gS rfl ?_; refine sk rfl rfl rfl rfl rfl I zm (by first | exact sr_stR) zu ?_; clear I; intro w1 I)
      )
     refine bodyPost_ret (ret_ct rfl _ I.out _ rfl zm Tryz.underlying32 rfl kk) rfl ?_
     exact ⟨_, rfl, Pks_nil _ _, I.out.below⟩
   ·
     have eF : giveF (⟨c, h, 5, xid, sv, ⟨v6, hi, lo⟩, t1, t2, un, se, at_⟩ : Stn) ki = (initF (⟨c, h, 5, xid, sv, ⟨v6, hi, lo⟩, t1, t2, un, se, at_⟩ : Stn), []) := by unfold giveF; rw [if_pos (by show has 5 = true; decide), if_pos hx]
     show Calls Tryz.prog 45 #[.agg (stC c h 5 xid sv v6 hi lo t1 t2 un se at_), .int .i64 ki] w (Ret (giveF (⟨c, h, 5, xid, sv, ⟨v6, hi, lo⟩, t1, t2, un, se, at_⟩ : Stn) ki) w)
     rw [eF]
     clear eF
     have I := Aside0.mk (Inv.start0 (w0 := w))
     go_enter Tryz.func45, Tryz.ntmps45
     go_wp2_with (first
      | (refine gB rfl ?_; refine bk rfl rfl rfl I ?_; clear I; intro gb w1 I)
      | (refine ak rfl (al_R rfl) I ?_; clear I; intro gb w1 I)
      | (refine gD 7 rfl ?_; refine ll rfl rfl rfl I mm1 ld_st2 ?_)
      | (refine gD 11 rfl ?_; refine ll rfl rfl rfl I mm1 ld_st2 ?_)
      | (refine gD 16 rfl ?_; refine ll rfl rfl rfl I mm1 ld_st2 ?_)
      | (refine gD 20 rfl ?_; refine ll rfl rfl rfl I mm1 ld_stR ?_)
      | (refine gD 23 rfl ?_; refine ll rfl rfl rfl I mm1 ld_stR ?_)
      | (refine gD 21 rfl ?_; refine ck rfl Tryz.func41 kk rfl #[.agg (stC c h 5 xid sv v6 hi lo t1 t2 un se at_)] rfl zh (can_c c h 5 xid sv v6 hi lo t1 t2 un se at_ _) ?_; rintro e_ w1 ⟨rfl, hb⟩; refine ⟨_, rfl, ?_⟩; replace I := callK I hb; clear hb)
      | (refine gD 24 rfl ?_; refine ck rfl Tryz.func43 kk rfl #[.agg (stC c h 5 xid sv v6 hi lo t1 t2 un se at_)] rfl zh (rinit_c c h 5 xid sv v6 hi lo t1 t2 un se at_ _) ?_; rintro e_ w1 ⟨rfl, hb⟩; refine ⟨_, rfl, ?_⟩; replace I := callK I hb; clear hb)
      | (refine gS rfl ?_; refine sk rfl rfl rfl rfl rfl I zm (by first | exact sr_stR) zu ?_; clear I; intro w1 I)
      )
     refine bodyPost_ret (ret_ct rfl _ I.out _ rfl zm Tryz.underlying32 rfl kk) rfl ?_
     exact ⟨_, rfl, Pks_nil _ _, I.out.below⟩
 have e1 : decide (xid < 4294967295) = true := decide_eq_true (by omega)
 have x1 : xid ≤ 4294967294 := by omega
 rcases h6 with rfl | rfl | rfl | rfl | rfl | rfl
 ·
   have eF : giveF (⟨c, h, 0, xid, sv, ⟨v6, hi, lo⟩, t1, t2, un, se, at_⟩ : Stn) ki = ((⟨c, h, 0, xid, sv, ⟨v6, hi, lo⟩, t1, t2, un, se, at_⟩ : Stn), []) := by unfold giveF; rw [if_neg (by show ¬ has 0 = true; decide)]
   show Calls Tryz.prog 45 #[.agg (stC c h 0 xid sv v6 hi lo t1 t2 un se at_), .int .i64 ki] w (Ret (giveF (⟨c, h, 0, xid, sv, ⟨v6, hi, lo⟩, t1, t2, un, se, at_⟩ : Stn) ki) w)
   rw [eF]
   clear eF
   have I := Aside0.mk (Inv.start0 (w0 := w))
   go_enter Tryz.func45, Tryz.ntmps45
   go_wp2_with (first
    | (refine gB rfl ?_; refine bk rfl rfl rfl I ?_; clear I; intro gb w1 I)
    | (refine ak rfl (al_R rfl) I ?_; clear I; intro gb w1 I)
    | (refine gD 7 rfl ?_; refine ll rfl rfl rfl I mm1 ld_st2 ?_)
    | (refine gD 11 rfl ?_; refine ll rfl rfl rfl I mm1 ld_st2 ?_)
    | (refine gD 16 rfl ?_; refine ll rfl rfl rfl I mm1 ld_st2 ?_)
    | (refine gD 19 rfl ?_; refine ll rfl rfl rfl I mm1 ld_stR ?_)
    | (refine gS rfl ?_; refine sk rfl rfl rfl rfl rfl I zm (by first | exact sr_stR) zu ?_; clear I; intro w1 I)
    )
   refine bodyPost_ret (ret_ct rfl _ I.out _ rfl zm Tryz.underlying32 rfl kk) rfl ?_
   exact ⟨_, rfl, Pks_nil _ _, I.out.below⟩
 ·
   have eF : giveF (⟨c, h, 1, xid, sv, ⟨v6, hi, lo⟩, t1, t2, un, se, at_⟩ : Stn) ki = ((⟨c, h, 1, xid, sv, ⟨v6, hi, lo⟩, t1, t2, un, se, at_⟩ : Stn), []) := by unfold giveF; rw [if_neg (by show ¬ has 1 = true; decide)]
   show Calls Tryz.prog 45 #[.agg (stC c h 1 xid sv v6 hi lo t1 t2 un se at_), .int .i64 ki] w (Ret (giveF (⟨c, h, 1, xid, sv, ⟨v6, hi, lo⟩, t1, t2, un, se, at_⟩ : Stn) ki) w)
   rw [eF]
   clear eF
   have I := Aside0.mk (Inv.start0 (w0 := w))
   go_enter Tryz.func45, Tryz.ntmps45
   go_wp2_with (first
    | (refine gB rfl ?_; refine bk rfl rfl rfl I ?_; clear I; intro gb w1 I)
    | (refine ak rfl (al_R rfl) I ?_; clear I; intro gb w1 I)
    | (refine gD 7 rfl ?_; refine ll rfl rfl rfl I mm1 ld_st2 ?_)
    | (refine gD 11 rfl ?_; refine ll rfl rfl rfl I mm1 ld_st2 ?_)
    | (refine gD 16 rfl ?_; refine ll rfl rfl rfl I mm1 ld_st2 ?_)
    | (refine gD 19 rfl ?_; refine ll rfl rfl rfl I mm1 ld_stR ?_)
    | (refine gS rfl ?_; refine sk rfl rfl rfl rfl rfl I zm (by first | exact sr_stR) zu ?_; clear I; intro w1 I)
    )
   refine bodyPost_ret (ret_ct rfl _ I.out _ rfl zm Tryz.underlying32 rfl kk) rfl ?_
   exact ⟨_, rfl, Pks_nil _ _, I.out.below⟩
 ·
   have eF : giveF (⟨c, h, 2, xid, sv, ⟨v6, hi, lo⟩, t1, t2, un, se, at_⟩ : Stn) ki = ((⟨c, h, 2, xid, sv, ⟨v6, hi, lo⟩, t1, t2, un, se, at_⟩ : Stn), []) := by unfold giveF; rw [if_neg (by show ¬ has 2 = true; decide)]
   show Calls Tryz.prog 45 #[.agg (stC c h 2 xid sv v6 hi lo t1 t2 un se at_), .int .i64 ki] w (Ret (giveF (⟨c, h, 2, xid, sv, ⟨v6, hi, lo⟩, t1, t2, un, se, at_⟩ : Stn) ki) w)
   rw [eF]
   clear eF
   have I := Aside0.mk (Inv.start0 (w0 := w))
   go_enter Tryz.func45, Tryz.ntmps45
   go_wp2_with (first
    | (refine gB rfl ?_; refine bk rfl rfl rfl I ?_; clear I; intro gb w1 I)
    | (refine ak rfl (al_R rfl) I ?_; clear I; intro gb w1 I)
    | (refine gD 7 rfl ?_; refine ll rfl rfl rfl I mm1 ld_st2 ?_)
    | (refine gD 11 rfl ?_; refine ll rfl rfl rfl I mm1 ld_st2 ?_)
    | (refine gD 16 rfl ?_; refine ll rfl rfl rfl I mm1 ld_st2 ?_)
    | (refine gD 19 rfl ?_; refine ll rfl rfl rfl I mm1 ld_stR ?_)
    | (refine gS rfl ?_; refine sk rfl rfl rfl rfl rfl I zm (by first | exact sr_stR) zu ?_; clear I; intro w1 I)
    )
   refine bodyPost_ret (ret_ct rfl _ I.out _ rfl zm Tryz.underlying32 rfl kk) rfl ?_
   exact ⟨_, rfl, Pks_nil _ _, I.out.below⟩
 ·
   have eF : giveF (⟨c, h, 3, xid, sv, ⟨v6, hi, lo⟩, t1, t2, un, se, at_⟩ : Stn) ki = (⟨c, h, 0, xid + 1, 0, zA, 0, 0, 0, 0, 0⟩, [msgF (⟨c, h, 3, xid, sv, ⟨v6, hi, lo⟩, t1, t2, un, se, at_⟩ : Stn) ki sv ⟨v6, hi, lo⟩ []]) := by unfold giveF; rw [if_pos (by show has 3 = true; decide), if_neg hx]
   show Calls Tryz.prog 45 #[.agg (stC c h 3 xid sv v6 hi lo t1 t2 un se at_), .int .i64 ki] w (Ret (giveF (⟨c, h, 3, xid, sv, ⟨v6, hi, lo⟩, t1, t2, un, se, at_⟩ : Stn) ki) w)
   rw [eF]
   clear eF
   have I := Aside0.mk (Inv.start0 (w0 := w))
   go_enter Tryz.func45, Tryz.ntmps45
   go_wp2_with (first
    | (refine gB rfl ?_; refine bk rfl rfl rfl I ?_; clear I; intro gb w1 I)
    | (refine ak rfl (al_R rfl) I ?_; clear I; intro gb w1 I)
    | (refine gD 7 rfl ?_; refine ll rfl rfl rfl I mm1 ld_st2 ?_)
    | (refine gD 20 rfl ?_; refine ll rfl rfl rfl I mm1 ld_stR ?_)
    | (refine gD 26 rfl ?_; refine ll rfl rfl rfl I mm1 ld_st3 ?_)
    | (refine gD 21 rfl ?_; refine ck rfl Tryz.func41 kk rfl #[.agg (stC c h 3 xid sv v6 hi lo t1 t2 un se at_)] rfl zh (can_c c h 3 xid sv v6 hi lo t1 t2 un se at_ _) ?_; rintro e_ w1 ⟨rfl, hb⟩; refine ⟨_, rfl, ?_⟩; replace I := callK I hb; clear hb)
    | (refine gS rfl ?_; refine sk rfl rfl rfl rfl rfl I zm (by first | exact sr_st3) zu ?_; clear I; intro w1 I)
    )
   have IS := Aside0.mk ((I.out.imp (fun _ _ => trivial)).sub (.cons _ (.cons_cons _ .slnil))).drew
   refine draw_ (Inv _ w [_] (fun _ => True)) [9] kk rfl IS.out ?_
   have I2 := Aside0.mk I.out.drew
   clear I
   have I := I2
   clear I2
   refine ta1 (i := 0) rfl rfl kk rfl rfl IS.out zm (by exact ld_stR) ?_ (ha := by (go_simp; rfl))
   refine ta1 (i := 2) rfl rfl kk rfl rfl IS.out zm (by exact ld_stR) ?_ (ha := by (go_simp; rfl))
   refine pu1 (i := 3) rfl rfl kk ?_ (ha := by (go_simp; rfl))
   refine pu1 (i := 4) rfl rfl kk ?_ (ha := by (go_simp; rfl))
   refine ta1 (i := 5) rfl rfl kk rfl rfl IS.out zm (by exact ld_st4) ?_ (ha := by (go_simp; rfl))
   refine pu1 (i := 6) rfl rfl kk ?_ (ha := by (go_simp; rfl))
   refine ta1 (i := 7) rfl rfl kk rfl rfl IS.out zm (by exact ld_stA5) ?_ (ha := by (go_simp; rfl))
   refine ca1 (i := 1) rfl rfl kk (by decide) Tryz.func43 kk rfl #[.agg (stC c h 3 (xid + 1) sv v6 hi lo t1 t2 un se at_)] rfl zh ?_
   refine (rinit_c c h 3 (xid + 1) sv v6 hi lo t1 t2 un se at_ _).mono ?_
   rintro e_ w1 ⟨rfl, hb⟩
   have I2 := Aside0.mk (I.out.call hb)
   clear I IS hb
   have I := I2
   clear I2
   have IS := Aside0.mk ((I.out.imp (fun _ _ => trivial)).sub (.cons _ (.cons_cons _ .slnil)))
   refine ⟨_, rfl, IS.out, ?_⟩
   refine ca1 (i := 8) rfl rfl kk (by decide) Tryz.func62 kk rfl #[.agg (stC c h 3 (xid + 1) sv v6 hi lo t1 t2 un se at_), .int .i64 ki, .int .i64 sv, .agg #[.bool v6, .int .u64 hi, .int .u64 lo], .bool false] rfl zh ?_
   refine (rmsg_c c h 3 (xid + 1) sv v6 hi lo t1 t2 un se at_ ki sv (⟨v6, hi, lo⟩ : S26) false (wantF ⟨v6, hi, lo⟩) bw _ hW.out).mono ?_
   rintro e_ w1 ⟨g, rfl, hf, hb⟩
   have I2 := Aside0.mk (I.out.addNew hb hf (fun k hk _ => I.out.new_out k hk))
   clear I IS hb hf
   have I := I2
   clear I2
   have IS := Aside0.mk ((I.out.imp (fun _ _ => trivial)).sub (.cons _ (.cons_cons _ .slnil)))
   refine ⟨_, rfl, IS.out, ?_⟩
   refine sl1 (i := 9) rfl rfl kk (by decide) rfl rfl rfl I.out zm (by first | exact sr_stR) zu (fun w1 hI => ?_)
   clear I
   have I := Aside0.mk hI
   clear hI
   refine pu1 (i := 10) rfl rfl kk ?_ (ha := by (go_simp; rfl))
   refine do1 kk ?_
   try go_wp2
   refine bodyPost_ret (ret_ct rfl _ I.out _ rfl zm Tryz.underlying32 rfl kk) rfl ?_
   exact ⟨_, rfl, Pks_one (foot_new (I.out.foot.imp (fun W hW => hW.2))), I.out.below⟩
 ·
   have eF : giveF (⟨c, h, 4, xid, sv, ⟨v6, hi, lo⟩, t1, t2, un, se, at_⟩ : Stn) ki = (⟨c, h, 0, xid + 1, 0, zA, 0, 0, 0, 0, 0⟩, [msgF (⟨c, h, 4, xid, sv, ⟨v6, hi, lo⟩, t1, t2, un, se, at_⟩ : Stn) ki sv ⟨v6, hi, lo⟩ []]) := by unfold giveF; rw [if_pos (by show has 4 = true; decide), if_neg hx]
   show Calls Tryz.prog 45 #[.agg (stC c h 4 xid sv v6 hi lo t1 t2 un se at_), .int .i64 ki] w (Ret (giveF (⟨c, h, 4, xid, sv, ⟨v6, hi, lo⟩, t1, t2, un, se, at_⟩ : Stn) ki) w)
   rw [eF]
   clear eF
   have I := Aside0.mk (Inv.start0 (w0 := w))
   go_enter Tryz.func45, Tryz.ntmps45
   go_wp2_with (first
    | (refine gB rfl ?_; refine bk rfl rfl rfl I ?_; clear I; intro gb w1 I)
    | (refine ak rfl (al_R rfl) I ?_; clear I; intro gb w1 I)
    | (refine gD 7 rfl ?_; refine ll rfl rfl rfl I mm1 ld_st2 ?_)
    | (refine gD 11 rfl ?_; refine ll rfl rfl rfl I mm1 ld_st2 ?_)
    | (refine gD 20 rfl ?_; refine ll rfl rfl rfl I mm1 ld_stR ?_)
    | (refine gD 26 rfl ?_; refine ll rfl rfl rfl I mm1 ld_st3 ?_)
    | (refine gD 21 rfl ?_; refine ck rfl Tryz.func41 kk rfl #[.agg (stC c h 4 xid sv v6 hi lo t1 t2 un se at_)] rfl zh (can_c c h 4 xid sv v6 hi lo t1 t2 un se at_ _) ?_; rintro e_ w1 ⟨rfl, hb⟩; refine ⟨_, rfl, ?_⟩; replace I := callK I hb; clear hb)
    | (refine gS rfl ?_; refine sk rfl rfl rfl rfl rfl I zm (by first | exact sr_st3) zu ?_; clear I; intro w1 I)
    )
   have IS := Aside0.mk ((I.out.imp (fun _ _ => trivial)).sub (.cons _ (.cons_cons _ .slnil))).drew
   refine draw_ (Inv _ w [_] (fun _ => True)) [9] kk rfl IS.out ?_
   have I2 := Aside0.mk I.out.drew
   clear I
   have I := I2
   clear I2
   refine ta1 (i := 0) rfl rfl kk rfl rfl IS.out zm (by exact ld_stR) ?_ (ha := by (go_simp; rfl))
   refine ta1 (i := 2) rfl rfl kk rfl rfl IS.out zm (by exact ld_stR) ?_ (ha := by (go_simp; rfl))
   refine pu1 (i := 3) rfl rfl kk ?_ (ha := by (go_simp; rfl))
   refine pu1 (i := 4) rfl rfl kk ?_ (ha := by (go_simp; rfl))
   refine ta1 (i := 5) rfl rfl kk rfl rfl IS.out zm (by exact ld_st4) ?_ (ha := by (go_simp; rfl))
   refine pu1 (i := 6) rfl rfl kk ?_ (ha := by (go_simp; rfl))
   refine ta1 (i := 7) rfl rfl kk rfl rfl IS.out zm (by exact ld_stA5) ?_ (ha := by (go_simp; rfl))
   refine ca1 (i := 1) rfl rfl kk (by decide) Tryz.func43 kk rfl #[.agg (stC c h 4 (xid + 1) sv v6 hi lo t1 t2 un se at_)] rfl zh ?_
   refine (rinit_c c h 4 (xid + 1) sv v6 hi lo t1 t2 un se at_ _).mono ?_
   rintro e_ w1 ⟨rfl, hb⟩
   have I2 := Aside0.mk (I.out.call hb)
   clear I IS hb
   have I := I2
   clear I2
   have IS := Aside0.mk ((I.out.imp (fun _ _ => trivial)).sub (.cons _ (.cons_cons _ .slnil)))
   refine ⟨_, rfl, IS.out, ?_⟩
   refine ca1 (i := 8) rfl rfl kk (by decide) Tryz.func62 kk rfl #[.agg (stC c h 4 (xid + 1) sv v6 hi lo t1 t2 un se at_), .int .i64 ki, .int .i64 sv, .agg #[.bool v6, .int .u64 hi, .int .u64 lo], .bool false] rfl zh ?_
   refine (rmsg_c c h 4 (xid + 1) sv v6 hi lo t1 t2 un se at_ ki sv (⟨v6, hi, lo⟩ : S26) false (wantF ⟨v6, hi, lo⟩) bw _ hW.out).mono ?_
   rintro e_ w1 ⟨g, rfl, hf, hb⟩
   have I2 := Aside0.mk (I.out.addNew hb hf (fun k hk _ => I.out.new_out k hk))
   clear I IS hb hf
   have I := I2
   clear I2
   have IS := Aside0.mk ((I.out.imp (fun _ _ => trivial)).sub (.cons _ (.cons_cons _ .slnil)))
   refine ⟨_, rfl, IS.out, ?_⟩
   refine sl1 (i := 9) rfl rfl kk (by decide) rfl rfl rfl I.out zm (by first | exact sr_stR) zu (fun w1 hI => ?_)
   clear I
   have I := Aside0.mk hI
   clear hI
   refine pu1 (i := 10) rfl rfl kk ?_ (ha := by (go_simp; rfl))
   refine do1 kk ?_
   try go_wp2
   refine bodyPost_ret (ret_ct rfl _ I.out _ rfl zm Tryz.underlying32 rfl kk) rfl ?_
   exact ⟨_, rfl, Pks_one (foot_new (I.out.foot.imp (fun W hW => hW.2))), I.out.below⟩
 ·
   have eF : giveF (⟨c, h, 5, xid, sv, ⟨v6, hi, lo⟩, t1, t2, un, se, at_⟩ : Stn) ki = (⟨c, h, 0, xid + 1, 0, zA, 0, 0, 0, 0, 0⟩, [msgF (⟨c, h, 5, xid, sv, ⟨v6, hi, lo⟩, t1, t2, un, se, at_⟩ : Stn) ki sv ⟨v6, hi, lo⟩ []]) := by unfold giveF; rw [if_pos (by show has 5 = true; decide), if_neg hx]
   show Calls Tryz.prog 45 #[.agg (stC c h 5 xid sv v6 hi lo t1 t2 un se at_), .int .i64 ki] w (Ret (giveF (⟨c, h, 5, xid, sv, ⟨v6, hi, lo⟩, t1, t2, un, se, at_⟩ : Stn) ki) w)
   rw [eF]
   clear eF
   have I := Aside0.mk (Inv.start0 (w0 := w))
   go_enter Tryz.func45, Tryz.ntmps45
   go_wp2_with (first
    | (refine gB rfl ?_; refine bk rfl rfl rfl I ?_; clear I; intro gb w1 I)
    | (refine ak rfl (al_R rfl) I ?_; clear I; intro gb w1 I)
    | (refine gD 7 rfl ?_; refine ll rfl rfl rfl I mm1 ld_st2 ?_)
    | (refine gD 11 rfl ?_; refine ll rfl rfl rfl I mm1 ld_st2 ?_)
    | (refine gD 16 rfl ?_; refine ll rfl rfl rfl I mm1 ld_st2 ?_)
    | (refine gD 20 rfl ?_; refine ll rfl rfl rfl I mm1 ld_stR ?_)
    | (refine gD 26 rfl ?_; refine ll rfl rfl rfl I mm1 ld_st3 ?_)
    | (refine gD 21 rfl ?_; refine ck rfl Tryz.func41 kk rfl #[.agg (stC c h 5 xid sv v6 hi lo t1 t2 un se at_)] rfl zh (can_c c h 5 xid sv v6 hi lo t1 t2 un se at_ _) ?_; rintro e_ w1 ⟨rfl, hb⟩; refine ⟨_, rfl, ?_⟩; replace I := callK I hb; clear hb)
    | (refine gS rfl ?_; refine sk rfl rfl rfl rfl rfl I zm (by first | exact sr_st3) zu ?_; clear I; intro w1 I)
    )
   have IS := Aside0.mk ((I.out.imp (fun _ _ => trivial)).sub (.cons _ (.cons_cons _ .slnil))).drew
   refine draw_ (Inv _ w [_] (fun _ => True)) [9] kk rfl IS.out ?_
   have I2 := Aside0.mk I.out.drew
   clear I
   have I := I2
   clear I2
   refine ta1 (i := 0) rfl rfl kk rfl rfl IS.out zm (by exact ld_stR) ?_ (ha := by (go_simp; rfl))
   refine ta1 (i := 2) rfl rfl kk rfl rfl IS.out zm (by exact ld_stR) ?_ (ha := by (go_simp; rfl))
   refine pu1 (i := 3) rfl rfl kk ?_ (ha := by (go_simp; rfl))
   refine pu1 (i := 4) rfl rfl kk ?_ (ha := by (go_simp; rfl))
   refine ta1 (i := 5) rfl rfl kk rfl rfl IS.out zm (by exact ld_st4) ?_ (ha := by (go_simp; rfl))
   refine pu1 (i := 6) rfl rfl kk ?_ (ha := by (go_simp; rfl))
   refine ta1 (i := 7) rfl rfl kk rfl rfl IS.out zm (by exact ld_stA5) ?_ (ha := by (go_simp; rfl))
   refine ca1 (i := 1) rfl rfl kk (by decide) Tryz.func43 kk rfl #[.agg (stC c h 5 (xid + 1) sv v6 hi lo t1 t2 un se at_)] rfl zh ?_
   refine (rinit_c c h 5 (xid + 1) sv v6 hi lo t1 t2 un se at_ _).mono ?_
   rintro e_ w1 ⟨rfl, hb⟩
   have I2 := Aside0.mk (I.out.call hb)
   clear I IS hb
   have I := I2
   clear I2
   have IS := Aside0.mk ((I.out.imp (fun _ _ => trivial)).sub (.cons _ (.cons_cons _ .slnil)))
   refine ⟨_, rfl, IS.out, ?_⟩
   refine ca1 (i := 8) rfl rfl kk (by decide) Tryz.func62 kk rfl #[.agg (stC c h 5 (xid + 1) sv v6 hi lo t1 t2 un se at_), .int .i64 ki, .int .i64 sv, .agg #[.bool v6, .int .u64 hi, .int .u64 lo], .bool false] rfl zh ?_
   refine (rmsg_c c h 5 (xid + 1) sv v6 hi lo t1 t2 un se at_ ki sv (⟨v6, hi, lo⟩ : S26) false (wantF ⟨v6, hi, lo⟩) bw _ hW.out).mono ?_
   rintro e_ w1 ⟨g, rfl, hf, hb⟩
   have I2 := Aside0.mk (I.out.addNew hb hf (fun k hk _ => I.out.new_out k hk))
   clear I IS hb hf
   have I := I2
   clear I2
   have IS := Aside0.mk ((I.out.imp (fun _ _ => trivial)).sub (.cons _ (.cons_cons _ .slnil)))
   refine ⟨_, rfl, IS.out, ?_⟩
   refine sl1 (i := 9) rfl rfl kk (by decide) rfl rfl rfl I.out zm (by first | exact sr_stR) zu (fun w1 hI => ?_)
   clear I
   have I := Aside0.mk hI
   clear hI
   refine pu1 (i := 10) rfl rfl kk ?_ (ha := by (go_simp; rfl))
   refine do1 kk ?_
   try go_wp2
   refine bodyPost_ret (ret_ct rfl _ I.out _ rfl zm Tryz.underlying32 rfl kk) rfl ?_
   exact ⟨_, rfl, Pks_one (foot_new (I.out.foot.imp (fun W hW => hW.2))), I.out.below⟩
theorem rleave_c (s : Stn) (now : Int) (bw : Bool) (w : World) (hst : 0 ≤ s.st ∧ s.st ≤ 5) (hx0 : 0 ≤ s.xid) (hW : ddiref35_Value.f 1000 [s.a] = some (wantF s.a, bw)) : Calls Tryz.prog 14 #[.agg (stA s), .int .i64 now] w (Ret (giveF s 7) w) := by
 have hu32 := Tryz.underlying32
 have hu26 := Tryz.underlying28
 have hu39 := Tryz.underlying38
 have hu24 := Tryz.underlying26
 have hW := Aside0.mk hW
 have hst := Aside0.mk hst
 have hx0 := Aside0.mk hx0
 have I := Aside0.mk (Inv.start0 (w0 := w))
 go_enter Tryz.func14, Tryz.ntmps14
 go_wp2_with (first
  | (refine gB rfl ?_; refine bk rfl rfl rfl I ?_; clear I; intro gb w1 I)
  | (refine ak rfl (al_R rfl) I ?_; clear I; intro gb w1 I)
  | (refine gD 9 rfl ?_; refine ll rfl rfl rfl I mm1 ld_stAR ?_)
  | (refine gD 10 rfl ?_; refine ck rfl Tryz.func45 kk rfl #[.agg (stA s), .int .i64 7] rfl zh (end_c s 7 bw _ hst.out hx0.out hW.out) ?_; rintro e_ w1 ⟨v, rfl, hf, hb⟩; refine ⟨_, rfl, ?_⟩; replace I := addK I hb hf; clear hb hf)
  | (refine gD 13 rfl ?_; refine ll rfl rfl rfl I mm0 ld_stAR ?_)
  | (refine gS rfl ?_; refine sk rfl rfl rfl rfl rfl I zm (by first | exact sr_stAR) zu ?_; clear I; intro w1 I)
  )
 refine bodyPost_ret (ret_ct rfl _ I.out _ rfl zm Tryz.underlying32 rfl kk) rfl ?_
 exact ⟨_, rfl, foot_new (I.out.foot.imp (fun W hW => hW.2)), I.out.below⟩
theorem rrefuse_c (s : Stn) (now : Int) (bw : Bool) (w : World) (hst : 0 ≤ s.st ∧ s.st ≤ 5) (hx0 : 0 ≤ s.xid) (hW : ddiref35_Value.f 1000 [s.a] = some (wantF s.a, bw)) : Calls Tryz.prog 16 #[.agg (stA s), .int .i64 now] w (Ret (giveF s 4) w) := by
 have hu32 := Tryz.underlying32
 have hu26 := Tryz.underlying28
 have hu39 := Tryz.underlying38
 have hu24 := Tryz.underlying26
 have hW := Aside0.mk hW
 have hst := Aside0.mk hst
 have hx0 := Aside0.mk hx0
 have I := Aside0.mk (Inv.start0 (w0 := w))
 go_enter Tryz.func16, Tryz.ntmps16
 go_wp2_with (first
  | (refine gB rfl ?_; refine bk rfl rfl rfl I ?_; clear I; intro gb w1 I)
  | (refine ak rfl (al_R rfl) I ?_; clear I; intro gb w1 I)
  | (refine gD 9 rfl ?_; refine ll rfl rfl rfl I mm1 ld_stAR ?_)
  | (refine gD 10 rfl ?_; refine ck rfl Tryz.func45 kk rfl #[.agg (stA s), .int .i64 4] rfl zh (end_c s 4 bw _ hst.out hx0.out hW.out) ?_; rintro e_ w1 ⟨v, rfl, hf, hb⟩; refine ⟨_, rfl, ?_⟩; replace I := addK I hb hf; clear hb hf)
  | (refine gD 13 rfl ?_; refine ll rfl rfl rfl I mm0 ld_stAR ?_)
  | (refine gS rfl ?_; refine sk rfl rfl rfl rfl rfl I zm (by first | exact sr_stAR) zu ?_; clear I; intro w1 I)
  )
 refine bodyPost_ret (ret_ct rfl _ I.out _ rfl zm Tryz.underlying32 rfl kk) rfl ?_
 exact ⟨_, rfl, foot_new (I.out.foot.imp (fun W hW => hW.2)), I.out.below⟩
theorem rholds_c (s : Stn) (now : Int) (w : World) (hst : 0 ≤ s.st ∧ s.st ≤ 5) : Calls Tryz.prog 18 #[.agg (stA s), .int .i64 now] w fun e w' => e = .returned (.tuple #[.agg #[.bool (holdsF s now).1.f0, .int .u64 (holdsF s now).1.f1, .int .u64 (holdsF s now).1.f2], .bool (holdsF s now).2]) ∧ Below w.heap.size w w' := by
 have hu32 := Tryz.underlying32
 have hu26 := Tryz.underlying28
 have hu39 := Tryz.underlying38
 have hu24 := Tryz.underlying26
 obtain ⟨c, h, st, xid, sv, ⟨v6, hi, lo⟩, t1, t2, un, se, at_⟩ := s
 replace hst : 0 ≤ st ∧ st ≤ 5 := hst
 have h6 : st = 0 ∨ st = 1 ∨ st = 2 ∨ st = 3 ∨ st = 4 ∨ st = 5 := by omega
 clear hst
 by_cases hn : un ≤ now
 · have e1 : decide (un ≤ now) = true := decide_eq_true hn
   rcases h6 with rfl | rfl | rfl | rfl | rfl | rfl
   ·
     have eF : holdsF (⟨c, h, 0, xid, sv, ⟨v6, hi, lo⟩, t1, t2, un, se, at_⟩ : Stn) now = (zA, false) := by unfold holdsF; rw [if_neg (fun hq => absurd hq.1 (by show ¬ has 0 = true; decide))]
     show Calls Tryz.prog 18 #[.agg (stC c h 0 xid sv v6 hi lo t1 t2 un se at_), .int .i64 now] w (fun e w' => e = .returned (.tuple #[.agg #[.bool (holdsF (⟨c, h, 0, xid, sv, ⟨v6, hi, lo⟩, t1, t2, un, se, at_⟩ : Stn) now).1.f0, .int .u64 (holdsF (⟨c, h, 0, xid, sv, ⟨v6, hi, lo⟩, t1, t2, un, se, at_⟩ : Stn) now).1.f1, .int .u64 (holdsF (⟨c, h, 0, xid, sv, ⟨v6, hi, lo⟩, t1, t2, un, se, at_⟩ : Stn) now).1.f2], .bool (holdsF (⟨c, h, 0, xid, sv, ⟨v6, hi, lo⟩, t1, t2, un, se, at_⟩ : Stn) now).2]) ∧ Below w.heap.size w w')
     rw [eF]
     clear eF
     have I := Aside0.mk (Inv.start0 (w0 := w))
     go_enter Tryz.func18, Tryz.ntmps18
     go_wp2_with (first
      | (refine gB rfl ?_; refine bk rfl rfl rfl I ?_; clear I; intro gb w1 I)
      | (refine ak rfl (al_A rfl) I ?_; clear I; intro gb w1 I)
      | (refine gD 7 rfl ?_; refine ll rfl rfl rfl I mm1 ld_st2 ?_)
      | (refine gD 11 rfl ?_; refine ll rfl rfl rfl I mm1 ld_st2 ?_)
      | (refine gD 16 rfl ?_; refine ll rfl rfl rfl I mm1 ld_st2 ?_)
      | (refine gS rfl ?_; refine sk rfl rfl rfl rfl rfl I zm (by first | exact sr_ad) zu ?_; clear I; intro w1 I)
      )
     refine bodyPost_ret (ret_ct rfl _ I.out _ rfl zm Tryz.underlying26 rfl kk) rfl ?_
     exact ⟨rfl, I.out.below⟩
   ·
     have eF : holdsF (⟨c, h, 1, xid, sv, ⟨v6, hi, lo⟩, t1, t2, un, se, at_⟩ : Stn) now = (zA, false) := by unfold holdsF; rw [if_neg (fun hq => absurd hq.1 (by show ¬ has 1 = true; decide))]
     show Calls Tryz.prog 18 #[.agg (stC c h 1 xid sv v6 hi lo t1 t2 un se at_), .int .i64 now] w (fun e w' => e = .returned (.tuple #[.agg #[.bool (holdsF (⟨c, h, 1, xid, sv, ⟨v6, hi, lo⟩, t1, t2, un, se, at_⟩ : Stn) now).1.f0, .int .u64 (holdsF (⟨c, h, 1, xid, sv, ⟨v6, hi, lo⟩, t1, t2, un, se, at_⟩ : Stn) now).1.f1, .int .u64 (holdsF (⟨c, h, 1, xid, sv, ⟨v6, hi, lo⟩, t1, t2, un, se, at_⟩ : Stn) now).1.f2], .bool (holdsF (⟨c, h, 1, xid, sv, ⟨v6, hi, lo⟩, t1, t2, un, se, at_⟩ : Stn) now).2]) ∧ Below w.heap.size w w')
     rw [eF]
     clear eF
     have I := Aside0.mk (Inv.start0 (w0 := w))
     go_enter Tryz.func18, Tryz.ntmps18
     go_wp2_with (first
      | (refine gB rfl ?_; refine bk rfl rfl rfl I ?_; clear I; intro gb w1 I)
      | (refine ak rfl (al_A rfl) I ?_; clear I; intro gb w1 I)
      | (refine gD 7 rfl ?_; refine ll rfl rfl rfl I mm1 ld_st2 ?_)
      | (refine gD 11 rfl ?_; refine ll rfl rfl rfl I mm1 ld_st2 ?_)
      | (refine gD 16 rfl ?_; refine ll rfl rfl rfl I mm1 ld_st2 ?_)
      | (refine gS rfl ?_; refine sk rfl rfl rfl rfl rfl I zm (by first | exact sr_ad) zu ?_; clear I; intro w1 I)
      )
     refine bodyPost_ret (ret_ct rfl _ I.out _ rfl zm Tryz.underlying26 rfl kk) rfl ?_
     exact ⟨rfl, I.out.below⟩
   ·
     have eF : holdsF (⟨c, h, 2, xid, sv, ⟨v6, hi, lo⟩, t1, t2, un, se, at_⟩ : Stn) now = (zA, false) := by unfold holdsF; rw [if_neg (fun hq => absurd hq.1 (by show ¬ has 2 = true; decide))]
     show Calls Tryz.prog 18 #[.agg (stC c h 2 xid sv v6 hi lo t1 t2 un se at_), .int .i64 now] w (fun e w' => e = .returned (.tuple #[.agg #[.bool (holdsF (⟨c, h, 2, xid, sv, ⟨v6, hi, lo⟩, t1, t2, un, se, at_⟩ : Stn) now).1.f0, .int .u64 (holdsF (⟨c, h, 2, xid, sv, ⟨v6, hi, lo⟩, t1, t2, un, se, at_⟩ : Stn) now).1.f1, .int .u64 (holdsF (⟨c, h, 2, xid, sv, ⟨v6, hi, lo⟩, t1, t2, un, se, at_⟩ : Stn) now).1.f2], .bool (holdsF (⟨c, h, 2, xid, sv, ⟨v6, hi, lo⟩, t1, t2, un, se, at_⟩ : Stn) now).2]) ∧ Below w.heap.size w w')
     rw [eF]
     clear eF
     have I := Aside0.mk (Inv.start0 (w0 := w))
     go_enter Tryz.func18, Tryz.ntmps18
     go_wp2_with (first
      | (refine gB rfl ?_; refine bk rfl rfl rfl I ?_; clear I; intro gb w1 I)
      | (refine ak rfl (al_A rfl) I ?_; clear I; intro gb w1 I)
      | (refine gD 7 rfl ?_; refine ll rfl rfl rfl I mm1 ld_st2 ?_)
      | (refine gD 11 rfl ?_; refine ll rfl rfl rfl I mm1 ld_st2 ?_)
      | (refine gD 16 rfl ?_; refine ll rfl rfl rfl I mm1 ld_st2 ?_)
      | (refine gS rfl ?_; refine sk rfl rfl rfl rfl rfl I zm (by first | exact sr_ad) zu ?_; clear I; intro w1 I)
      )
     refine bodyPost_ret (ret_ct rfl _ I.out _ rfl zm Tryz.underlying26 rfl kk) rfl ?_
     exact ⟨rfl, I.out.below⟩
   ·
     have eF : holdsF (⟨c, h, 3, xid, sv, ⟨v6, hi, lo⟩, t1, t2, un, se, at_⟩ : Stn) now = (zA, false) := by unfold holdsF; rw [if_neg (fun hq => absurd hq.2 (by show ¬ now < un; omega))]
     show Calls Tryz.prog 18 #[.agg (stC c h 3 xid sv v6 hi lo t1 t2 un se at_), .int .i64 now] w (fun e w' => e = .returned (.tuple #[.agg #[.bool (holdsF (⟨c, h, 3, xid, sv, ⟨v6, hi, lo⟩, t1, t2, un, se, at_⟩ : Stn) now).1.f0, .int .u64 (holdsF (⟨c, h, 3, xid, sv, ⟨v6, hi, lo⟩, t1, t2, un, se, at_⟩ : Stn) now).1.f1, .int .u64 (holdsF (⟨c, h, 3, xid, sv, ⟨v6, hi, lo⟩, t1, t2, un, se, at_⟩ : Stn) now).1.f2], .bool (holdsF (⟨c, h, 3, xid, sv, ⟨v6, hi, lo⟩, t1, t2, un, se, at_⟩ : Stn) now).2]) ∧ Below w.heap.size w w')
     rw [eF]
     clear eF
     have I := Aside0.mk (Inv.start0 (w0 := w))
     go_enter Tryz.func18, Tryz.ntmps18
     go_wp2_with (first
      | (refine gB rfl ?_; refine bk rfl rfl rfl I ?_; clear I; intro gb w1 I)
      | (refine ak rfl (al_A rfl) I ?_; clear I; intro gb w1 I)
      | (refine gD 7 rfl ?_; refine ll rfl rfl rfl I mm1 ld_st2 ?_)
      | (refine gD 22 rfl ?_; refine ll rfl rfl rfl I mm1 ld_st10 ?_)
      | (refine gS rfl ?_; refine sk rfl rfl rfl rfl rfl I zm (by first | exact sr_ad) zu ?_; clear I; intro w1 I)
      )
     refine bodyPost_ret (ret_ct rfl _ I.out _ rfl zm Tryz.underlying26 rfl kk) rfl ?_
     exact ⟨rfl, I.out.below⟩
   ·
     have eF : holdsF (⟨c, h, 4, xid, sv, ⟨v6, hi, lo⟩, t1, t2, un, se, at_⟩ : Stn) now = (zA, false) := by unfold holdsF; rw [if_neg (fun hq => absurd hq.2 (by show ¬ now < un; omega))]
     show Calls Tryz.prog 18 #[.agg (stC c h 4 xid sv v6 hi lo t1 t2 un se at_), .int .i64 now] w (fun e w' => e = .returned (.tuple #[.agg #[.bool (holdsF (⟨c, h, 4, xid, sv, ⟨v6, hi, lo⟩, t1, t2, un, se, at_⟩ : Stn) now).1.f0, .int .u64 (holdsF (⟨c, h, 4, xid, sv, ⟨v6, hi, lo⟩, t1, t2, un, se, at_⟩ : Stn) now).1.f1, .int .u64 (holdsF (⟨c, h, 4, xid, sv, ⟨v6, hi, lo⟩, t1, t2, un, se, at_⟩ : Stn) now).1.f2], .bool (holdsF (⟨c, h, 4, xid, sv, ⟨v6, hi, lo⟩, t1, t2, un, se, at_⟩ : Stn) now).2]) ∧ Below w.heap.size w w')
     rw [eF]
     clear eF
     have I := Aside0.mk (Inv.start0 (w0 := w))
     go_enter Tryz.func18, Tryz.ntmps18
     go_wp2_with (first
      | (refine gB rfl ?_; refine bk rfl rfl rfl I ?_; clear I; intro gb w1 I)
      | (refine ak rfl (al_A rfl) I ?_; clear I; intro gb w1 I)
      | (refine gD 7 rfl ?_; refine ll rfl rfl rfl I mm1 ld_st2 ?_)
      | (refine gD 11 rfl ?_; refine ll rfl rfl rfl I mm1 ld_st2 ?_)
      | (refine gD 22 rfl ?_; refine ll rfl rfl rfl I mm1 ld_st10 ?_)
      | (refine gS rfl ?_; refine sk rfl rfl rfl rfl rfl I zm (by first | exact sr_ad) zu ?_; clear I; intro w1 I)
      )
     refine bodyPost_ret (ret_ct rfl _ I.out _ rfl zm Tryz.underlying26 rfl kk) rfl ?_
     exact ⟨rfl, I.out.below⟩
   ·
     have eF : holdsF (⟨c, h, 5, xid, sv, ⟨v6, hi, lo⟩, t1, t2, un, se, at_⟩ : Stn) now = (zA, false) := by unfold holdsF; rw [if_neg (fun hq => absurd hq.2 (by show ¬ now < un; omega))]
     show Calls Tryz.prog 18 #[.agg (stC c h 5 xid sv v6 hi lo t1 t2 un se at_), .int .i64 now] w (fun e w' => e = .returned (.tuple #[.agg #[.bool (holdsF (⟨c, h, 5, xid, sv, ⟨v6, hi, lo⟩, t1, t2, un, se, at_⟩ : Stn) now).1.f0, .int .u64 (holdsF (⟨c, h, 5, xid, sv, ⟨v6, hi, lo⟩, t1, t2, un, se, at_⟩ : Stn) now).1.f1, .int .u64 (holdsF (⟨c, h, 5, xid, sv, ⟨v6, hi, lo⟩, t1, t2, un, se, at_⟩ : Stn) now).1.f2], .bool (holdsF (⟨c, h, 5, xid, sv, ⟨v6, hi, lo⟩, t1, t2, un, se, at_⟩ : Stn) now).2]) ∧ Below w.heap.size w w')
     rw [eF]
     clear eF
     have I := Aside0.mk (Inv.start0 (w0 := w))
     go_enter Tryz.func18, Tryz.ntmps18
     go_wp2_with (first
      | (refine gB rfl ?_; refine bk rfl rfl rfl I ?_; clear I; intro gb w1 I)
      | (refine ak rfl (al_A rfl) I ?_; clear I; intro gb w1 I)
      | (refine gD 7 rfl ?_; refine ll rfl rfl rfl I mm1 ld_st2 ?_)
      | (refine gD 11 rfl ?_; refine ll rfl rfl rfl I mm1 ld_st2 ?_)
      | (refine gD 16 rfl ?_; refine ll rfl rfl rfl I mm1 ld_st2 ?_)
      | (refine gD 22 rfl ?_; refine ll rfl rfl rfl I mm1 ld_st10 ?_)
      | (refine gS rfl ?_; refine sk rfl rfl rfl rfl rfl I zm (by first | exact sr_ad) zu ?_; clear I; intro w1 I)
      )
     refine bodyPost_ret (ret_ct rfl _ I.out _ rfl zm Tryz.underlying26 rfl kk) rfl ?_
     exact ⟨rfl, I.out.below⟩
 have e1 : decide (un ≤ now) = false := decide_eq_false hn
 rcases h6 with rfl | rfl | rfl | rfl | rfl | rfl
 ·
   have eF : holdsF (⟨c, h, 0, xid, sv, ⟨v6, hi, lo⟩, t1, t2, un, se, at_⟩ : Stn) now = (zA, false) := by unfold holdsF; rw [if_neg (fun hq => absurd hq.1 (by show ¬ has 0 = true; decide))]
   show Calls Tryz.prog 18 #[.agg (stC c h 0 xid sv v6 hi lo t1 t2 un se at_), .int .i64 now] w (fun e w' => e = .returned (.tuple #[.agg #[.bool (holdsF (⟨c, h, 0, xid, sv, ⟨v6, hi, lo⟩, t1, t2, un, se, at_⟩ : Stn) now).1.f0, .int .u64 (holdsF (⟨c, h, 0, xid, sv, ⟨v6, hi, lo⟩, t1, t2, un, se, at_⟩ : Stn) now).1.f1, .int .u64 (holdsF (⟨c, h, 0, xid, sv, ⟨v6, hi, lo⟩, t1, t2, un, se, at_⟩ : Stn) now).1.f2], .bool (holdsF (⟨c, h, 0, xid, sv, ⟨v6, hi, lo⟩, t1, t2, un, se, at_⟩ : Stn) now).2]) ∧ Below w.heap.size w w')
   rw [eF]
   clear eF
   have I := Aside0.mk (Inv.start0 (w0 := w))
   go_enter Tryz.func18, Tryz.ntmps18
   go_wp2_with (first
    | (refine gB rfl ?_; refine bk rfl rfl rfl I ?_; clear I; intro gb w1 I)
    | (refine ak rfl (al_A rfl) I ?_; clear I; intro gb w1 I)
    | (refine gD 7 rfl ?_; refine ll rfl rfl rfl I mm1 ld_st2 ?_)
    | (refine gD 11 rfl ?_; refine ll rfl rfl rfl I mm1 ld_st2 ?_)
    | (refine gD 16 rfl ?_; refine ll rfl rfl rfl I mm1 ld_st2 ?_)
    | (refine gS rfl ?_; refine sk rfl rfl rfl rfl rfl I zm (by first | exact sr_ad) zu ?_; clear I; intro w1 I)
    )
   refine bodyPost_ret (ret_ct rfl _ I.out _ rfl zm Tryz.underlying26 rfl kk) rfl ?_
   exact ⟨rfl, I.out.below⟩
 ·
   have eF : holdsF (⟨c, h, 1, xid, sv, ⟨v6, hi, lo⟩, t1, t2, un, se, at_⟩ : Stn) now = (zA, false) := by unfold holdsF; rw [if_neg (fun hq => absurd hq.1 (by show ¬ has 1 = true; decide))]
   show Calls Tryz.prog 18 #[.agg (stC c h 1 xid sv v6 hi lo t1 t2 un se at_), .int .i64 now] w (fun e w' => e = .returned (.tuple #[.agg #[.bool (holdsF (⟨c, h, 1, xid, sv, ⟨v6, hi, lo⟩, t1, t2, un, se, at_⟩ : Stn) now).1.f0, .int .u64 (holdsF (⟨c, h, 1, xid, sv, ⟨v6, hi, lo⟩, t1, t2, un, se, at_⟩ : Stn) now).1.f1, .int .u64 (holdsF (⟨c, h, 1, xid, sv, ⟨v6, hi, lo⟩, t1, t2, un, se, at_⟩ : Stn) now).1.f2], .bool (holdsF (⟨c, h, 1, xid, sv, ⟨v6, hi, lo⟩, t1, t2, un, se, at_⟩ : Stn) now).2]) ∧ Below w.heap.size w w')
   rw [eF]
   clear eF
   have I := Aside0.mk (Inv.start0 (w0 := w))
   go_enter Tryz.func18, Tryz.ntmps18
   go_wp2_with (first
    | (refine gB rfl ?_; refine bk rfl rfl rfl I ?_; clear I; intro gb w1 I)
    | (refine ak rfl (al_A rfl) I ?_; clear I; intro gb w1 I)
    | (refine gD 7 rfl ?_; refine ll rfl rfl rfl I mm1 ld_st2 ?_)
    | (refine gD 11 rfl ?_; refine ll rfl rfl rfl I mm1 ld_st2 ?_)
    | (refine gD 16 rfl ?_; refine ll rfl rfl rfl I mm1 ld_st2 ?_)
    | (refine gS rfl ?_; refine sk rfl rfl rfl rfl rfl I zm (by first | exact sr_ad) zu ?_; clear I; intro w1 I)
    )
   refine bodyPost_ret (ret_ct rfl _ I.out _ rfl zm Tryz.underlying26 rfl kk) rfl ?_
   exact ⟨rfl, I.out.below⟩
 ·
   have eF : holdsF (⟨c, h, 2, xid, sv, ⟨v6, hi, lo⟩, t1, t2, un, se, at_⟩ : Stn) now = (zA, false) := by unfold holdsF; rw [if_neg (fun hq => absurd hq.1 (by show ¬ has 2 = true; decide))]
   show Calls Tryz.prog 18 #[.agg (stC c h 2 xid sv v6 hi lo t1 t2 un se at_), .int .i64 now] w (fun e w' => e = .returned (.tuple #[.agg #[.bool (holdsF (⟨c, h, 2, xid, sv, ⟨v6, hi, lo⟩, t1, t2, un, se, at_⟩ : Stn) now).1.f0, .int .u64 (holdsF (⟨c, h, 2, xid, sv, ⟨v6, hi, lo⟩, t1, t2, un, se, at_⟩ : Stn) now).1.f1, .int .u64 (holdsF (⟨c, h, 2, xid, sv, ⟨v6, hi, lo⟩, t1, t2, un, se, at_⟩ : Stn) now).1.f2], .bool (holdsF (⟨c, h, 2, xid, sv, ⟨v6, hi, lo⟩, t1, t2, un, se, at_⟩ : Stn) now).2]) ∧ Below w.heap.size w w')
   rw [eF]
   clear eF
   have I := Aside0.mk (Inv.start0 (w0 := w))
   go_enter Tryz.func18, Tryz.ntmps18
   go_wp2_with (first
    | (refine gB rfl ?_; refine bk rfl rfl rfl I ?_; clear I; intro gb w1 I)
    | (refine ak rfl (al_A rfl) I ?_; clear I; intro gb w1 I)
    | (refine gD 7 rfl ?_; refine ll rfl rfl rfl I mm1 ld_st2 ?_)
    | (refine gD 11 rfl ?_; refine ll rfl rfl rfl I mm1 ld_st2 ?_)
    | (refine gD 16 rfl ?_; refine ll rfl rfl rfl I mm1 ld_st2 ?_)
    | (refine gS rfl ?_; refine sk rfl rfl rfl rfl rfl I zm (by first | exact sr_ad) zu ?_; clear I; intro w1 I)
    )
   refine bodyPost_ret (ret_ct rfl _ I.out _ rfl zm Tryz.underlying26 rfl kk) rfl ?_
   exact ⟨rfl, I.out.below⟩
 ·
   have eF : holdsF (⟨c, h, 3, xid, sv, ⟨v6, hi, lo⟩, t1, t2, un, se, at_⟩ : Stn) now = ((⟨v6, hi, lo⟩ : S26), true) := by unfold holdsF; rw [if_pos ⟨by show has 3 = true; decide, by show now < un; omega⟩]
   show Calls Tryz.prog 18 #[.agg (stC c h 3 xid sv v6 hi lo t1 t2 un se at_), .int .i64 now] w (fun e w' => e = .returned (.tuple #[.agg #[.bool (holdsF (⟨c, h, 3, xid, sv, ⟨v6, hi, lo⟩, t1, t2, un, se, at_⟩ : Stn) now).1.f0, .int .u64 (holdsF (⟨c, h, 3, xid, sv, ⟨v6, hi, lo⟩, t1, t2, un, se, at_⟩ : Stn) now).1.f1, .int .u64 (holdsF (⟨c, h, 3, xid, sv, ⟨v6, hi, lo⟩, t1, t2, un, se, at_⟩ : Stn) now).1.f2], .bool (holdsF (⟨c, h, 3, xid, sv, ⟨v6, hi, lo⟩, t1, t2, un, se, at_⟩ : Stn) now).2]) ∧ Below w.heap.size w w')
   rw [eF]
   clear eF
   have I := Aside0.mk (Inv.start0 (w0 := w))
   go_enter Tryz.func18, Tryz.ntmps18
   go_wp2_with (first
    | (refine gB rfl ?_; refine bk rfl rfl rfl I ?_; clear I; intro gb w1 I)
    | (refine ak rfl (al_A rfl) I ?_; clear I; intro gb w1 I)
    | (refine gD 7 rfl ?_; refine ll rfl rfl rfl I mm1 ld_st2 ?_)
    | (refine gD 22 rfl ?_; refine ll rfl rfl rfl I mm1 ld_st10 ?_)
    | (refine gD 27 rfl ?_; refine ll rfl rfl rfl I mm1 ld_stA5 ?_)
    | (refine gS rfl ?_; refine sk rfl rfl rfl rfl rfl I zm (by first | exact sr_ad) zu ?_; clear I; intro w1 I)
    )
   refine bodyPost_ret (ret_ct rfl _ I.out _ rfl zm Tryz.underlying26 rfl kk) rfl ?_
   exact ⟨rfl, I.out.below⟩
 ·
   have eF : holdsF (⟨c, h, 4, xid, sv, ⟨v6, hi, lo⟩, t1, t2, un, se, at_⟩ : Stn) now = ((⟨v6, hi, lo⟩ : S26), true) := by unfold holdsF; rw [if_pos ⟨by show has 4 = true; decide, by show now < un; omega⟩]
   show Calls Tryz.prog 18 #[.agg (stC c h 4 xid sv v6 hi lo t1 t2 un se at_), .int .i64 now] w (fun e w' => e = .returned (.tuple #[.agg #[.bool (holdsF (⟨c, h, 4, xid, sv, ⟨v6, hi, lo⟩, t1, t2, un, se, at_⟩ : Stn) now).1.f0, .int .u64 (holdsF (⟨c, h, 4, xid, sv, ⟨v6, hi, lo⟩, t1, t2, un, se, at_⟩ : Stn) now).1.f1, .int .u64 (holdsF (⟨c, h, 4, xid, sv, ⟨v6, hi, lo⟩, t1, t2, un, se, at_⟩ : Stn) now).1.f2], .bool (holdsF (⟨c, h, 4, xid, sv, ⟨v6, hi, lo⟩, t1, t2, un, se, at_⟩ : Stn) now).2]) ∧ Below w.heap.size w w')
   rw [eF]
   clear eF
   have I := Aside0.mk (Inv.start0 (w0 := w))
   go_enter Tryz.func18, Tryz.ntmps18
   go_wp2_with (first
    | (refine gB rfl ?_; refine bk rfl rfl rfl I ?_; clear I; intro gb w1 I)
    | (refine ak rfl (al_A rfl) I ?_; clear I; intro gb w1 I)
    | (refine gD 7 rfl ?_; refine ll rfl rfl rfl I mm1 ld_st2 ?_)
    | (refine gD 11 rfl ?_; refine ll rfl rfl rfl I mm1 ld_st2 ?_)
    | (refine gD 22 rfl ?_; refine ll rfl rfl rfl I mm1 ld_st10 ?_)
    | (refine gD 27 rfl ?_; refine ll rfl rfl rfl I mm1 ld_stA5 ?_)
    | (refine gS rfl ?_; refine sk rfl rfl rfl rfl rfl I zm (by first | exact sr_ad) zu ?_; clear I; intro w1 I)
    )
   refine bodyPost_ret (ret_ct rfl _ I.out _ rfl zm Tryz.underlying26 rfl kk) rfl ?_
   exact ⟨rfl, I.out.below⟩
 ·
   have eF : holdsF (⟨c, h, 5, xid, sv, ⟨v6, hi, lo⟩, t1, t2, un, se, at_⟩ : Stn) now = ((⟨v6, hi, lo⟩ : S26), true) := by unfold holdsF; rw [if_pos ⟨by show has 5 = true; decide, by show now < un; omega⟩]
   show Calls Tryz.prog 18 #[.agg (stC c h 5 xid sv v6 hi lo t1 t2 un se at_), .int .i64 now] w (fun e w' => e = .returned (.tuple #[.agg #[.bool (holdsF (⟨c, h, 5, xid, sv, ⟨v6, hi, lo⟩, t1, t2, un, se, at_⟩ : Stn) now).1.f0, .int .u64 (holdsF (⟨c, h, 5, xid, sv, ⟨v6, hi, lo⟩, t1, t2, un, se, at_⟩ : Stn) now).1.f1, .int .u64 (holdsF (⟨c, h, 5, xid, sv, ⟨v6, hi, lo⟩, t1, t2, un, se, at_⟩ : Stn) now).1.f2], .bool (holdsF (⟨c, h, 5, xid, sv, ⟨v6, hi, lo⟩, t1, t2, un, se, at_⟩ : Stn) now).2]) ∧ Below w.heap.size w w')
   rw [eF]
   clear eF
   have I := Aside0.mk (Inv.start0 (w0 := w))
   go_enter Tryz.func18, Tryz.ntmps18
   go_wp2_with (first
    | (refine gB rfl ?_; refine bk rfl rfl rfl I ?_; clear I; intro gb w1 I)
    | (refine ak rfl (al_A rfl) I ?_; clear I; intro gb w1 I)
    | (refine gD 7 rfl ?_; refine ll rfl rfl rfl I mm1 ld_st2 ?_)
    | (refine gD 11 rfl ?_; refine ll rfl rfl rfl I mm1 ld_st2 ?_)
    | (refine gD 16 rfl ?_; refine ll rfl rfl rfl I mm1 ld_st2 ?_)
    | (refine gD 22 rfl ?_; refine ll rfl rfl rfl I mm1 ld_st10 ?_)
    | (refine gD 27 rfl ?_; refine ll rfl rfl rfl I mm1 ld_stA5 ?_)
    | (refine gS rfl ?_; refine sk rfl rfl rfl rfl rfl I zm (by first | exact sr_ad) zu ?_; clear I; intro w1 I)
    )
   refine bodyPost_ret (ret_ct rfl _ I.out _ rfl zm Tryz.underlying26 rfl kk) rfl ?_
   exact ⟨rfl, I.out.below⟩
theorem run_neA {o : Oper} {a : Act} {x y : Operand} {p q : S26} {b : Bool} {w : World} (ho : o.op = .binOp .neq 26 x y 26) (hx : a.eval x = .agg #[.bool p.f0, .int .u64 p.f1, .int .u64 p.f2]) (hy : a.eval y = .agg #[.bool q.f0, .int .u64 q.f1, .int .u64 q.f2]) (hb : (!(p.f0 == q.f0 && (p.f1 == q.f1 && (p.f2 == q.f2)))) = b) : (execOp a.eval o).run Tryz.prog w = .ok (.value (.bool b)) w := by
  subst hb
  unfold execOp
  simp only [ho, hx, hy]
  go_simp
  by_cases h0 : p.f0 = q.f0 <;> by_cases h1 : p.f1 = q.f1 <;> by_cases h2 : p.f2 = q.f2 <;> simp [h0, h1, h2]
theorem bound_c (s : Stn) (p : S38) (A : Option Addr) (cc : Nat) (n u1 u2 : Int) (ok : Bool) (w : World) (hs : (0 ≤ s.se ∧ s.se ≤ 4294967295)) (hr : Kd.C k62 w A p.f8.length p.f8) (hc : p.f8.length ≤ cc) (hL : ddiref36_Lease.f 1000 p.f0 p.f1 p.f2 p.f3 p.f4.f0 p.f4.f1 p.f4.f2 p.f5.f0 p.f5.f1 p.f5.f2 p.f6.f0 p.f6.f1 p.f6.f2 p.f7 p.f8 = some (n, u1, u2, ok)) (hn : ok = true → 0 ≤ u1 ∧ u1 ≤ u2 ∧ u2 ≤ n ∧ n ≤ 4294967295) :
  Calls Tryz.prog 42 #[.agg (stA s), .agg (pkOf p (.slice A p.f8.length cc))] w fun e w' => e = .returned (.agg (stA (ackF s p.f2 p.f5 n u1 u2 ok))) ∧ Below w.heap.size w w' := by
 have hu32 := Tryz.underlying32
 have hu26 := Tryz.underlying28
 have hu39 := Tryz.underlying38
 have hu24 := Tryz.underlying26
 have hL := Aside0.mk hL
 have hr := Aside0.mk hr
 have hc := Aside0.mk hc
 obtain ⟨q0, q1⟩ := hs
 cases ok
 · rw [show ackF s p.f2 p.f5 n u1 u2 false = s from by unfold ackF; rw [if_neg (fun hq => Bool.noConfusion hq.1)]]
   clear hn
   have I := Aside0.mk (Inv.start0 (w0 := w))
   go_enter Tryz.func42, Tryz.ntmps42
   go_wp2_with (first
    | (refine gB rfl ?_; refine bk rfl rfl rfl I ?_; clear I; intro gb w1 I)
    | (refine ak rfl (al_R rfl) I ?_; clear I; intro gb w1 I)
    | (refine gD 10 rfl ?_; refine ll rfl rfl rfl I mm1 ld_pk ?_)
    | (refine gD 11 rfl ?_; refine ck rfl Tryz.func61 kk rfl #[.agg (pkOf p (.slice A p.f8.length cc))] rfl zh (ddiref36_Lease.calls 1000 _ _ _ _ _ _ _ _ _ _ _ _ _ _ A cc p.f8 n u1 u2 false _ (Kd.C_below hr.out I.out.below) hc.out hL.out) ?_; rintro e_ w1 ⟨rfl, hb⟩; refine ⟨_, rfl, ?_⟩; replace I := callK I hb; clear hb)
    | (refine gD 25 rfl ?_; refine ll rfl rfl rfl I mm2 ld_stAR ?_)
    | (refine gS rfl ?_; refine sk rfl rfl rfl rfl rfl I zm (by first | exact sr_stAR) zu ?_; clear I; intro w1 I)
    )
   refine bodyPost_ret (ret_c rfl _ I.out _ rfl zm Tryz.underlying32 rfl kk) rfl ?_
   exact ⟨rfl, I.out.below⟩
 obtain ⟨y0, y1, y2, y3⟩ := hn rfl
 by_cases ha : p.f5.f0 = s.a.f0 ∧ p.f5.f1 = s.a.f1 ∧ p.f5.f2 = s.a.f2
 case neg =>
  rw [show ackF s p.f2 p.f5 n u1 u2 true = s from by unfold ackF; rw [if_neg (fun hq => ha hq.2)]]
  have hA : Aside0 ((!(p.f5.f0 == s.a.f0 && (p.f5.f1 == s.a.f1 && (p.f5.f2 == s.a.f2)))) = true) := ⟨by rw [Bool.not_eq_true', Bool.eq_false_iff]; intro hq; exact ha (by simpa using hq)⟩
  replace ha := Aside0.mk ha
  have I := Aside0.mk (Inv.start0 (w0 := w))
  go_enter Tryz.func42, Tryz.ntmps42
  go_wp2_with (first
   | (refine gB rfl ?_; refine bk rfl rfl rfl I ?_; clear I; intro gb w1 I)
   | (refine ak rfl (al_R rfl) I ?_; clear I; intro gb w1 I)
   | (refine gD 10 rfl ?_; refine ll rfl rfl rfl I mm1 ld_pk ?_)
   | (refine gD 11 rfl ?_; refine ck rfl Tryz.func61 kk rfl #[.agg (pkOf p (.slice A p.f8.length cc))] rfl zh (ddiref36_Lease.calls 1000 _ _ _ _ _ _ _ _ _ _ _ _ _ _ A cc p.f8 n u1 u2 true _ (Kd.C_below hr.out I.out.below) hc.out hL.out) ?_; rintro e_ w1 ⟨rfl, hb⟩; refine ⟨_, rfl, ?_⟩; replace I := callK I hb; clear hb)
   | (refine gD 20 rfl ?_; refine ll rfl rfl rfl I mm1 ld_pkA7 ?_)
   | (refine gD 22 rfl ?_; refine ll rfl rfl rfl I mm2 ld_stA5 ?_)
   | ((with_reducible refine gate_dst (N := 23) rfl ?_); (try (refine gate_guard (by rfl) ?_; dsimp only)); refine wl_val rfl (run_neA (p := p.f5) (q := s.a) rfl rfl rfl hA.out) ?_)
   | (refine gD 25 rfl ?_; refine ll rfl rfl rfl I mm2 ld_stAR ?_)
   | (refine gS rfl ?_; refine sk rfl rfl rfl rfl rfl I zm (by first | exact sr_stAR) zu ?_; clear I; intro w1 I)
   )
  refine bodyPost_ret (ret_c rfl _ I.out _ rfl zm Tryz.underlying32 rfl kk) rfl ?_
  exact ⟨rfl, I.out.below⟩
 rw [show ackF s p.f2 p.f5 n u1 u2 true = ⟨s.c, s.h, 3, s.xid, p.f2, s.a, later s.se u1, later s.se u2, later s.se n, s.se, 0⟩ from by unfold ackF; rw [if_pos ⟨rfl, ha⟩]; rfl]
 have hA : Aside0 ((!(p.f5.f0 == s.a.f0 && (p.f5.f1 == s.a.f1 && (p.f5.f2 == s.a.f2)))) = false) := ⟨by simpa using ha⟩
 replace ha := Aside0.mk ha
 have I := Aside0.mk (Inv.start0 (w0 := w))
 go_enter Tryz.func42, Tryz.ntmps42
 go_wp2_with (first
  | (refine gB rfl ?_; refine bk rfl rfl rfl I ?_; clear I; intro gb w1 I)
  | (refine ak rfl (al_R rfl) I ?_; clear I; intro gb w1 I)
  | (refine gD 10 rfl ?_; refine ll rfl rfl rfl I mm1 ld_pk ?_)
  | (refine gD 11 rfl ?_; refine ck rfl Tryz.func61 kk rfl #[.agg (pkOf p (.slice A p.f8.length cc))] rfl zh (ddiref36_Lease.calls 1000 _ _ _ _ _ _ _ _ _ _ _ _ _ _ A cc p.f8 n u1 u2 true _ (Kd.C_below hr.out I.out.below) hc.out hL.out) ?_; rintro e_ w1 ⟨rfl, hb⟩; refine ⟨_, rfl, ?_⟩; replace I := callK I hb; clear hb)
  | (refine gD 20 rfl ?_; refine ll rfl rfl rfl I mm1 ld_pkA7 ?_)
  | (refine gD 22 rfl ?_; refine ll rfl rfl rfl I mm2 ld_stA5 ?_)
  | ((with_reducible refine gate_dst (N := 23) rfl ?_); (try (refine gate_guard (by rfl) ?_; dsimp only)); refine wl_val rfl (run_neA (p := p.f5) (q := s.a) rfl rfl rfl hA.out) ?_)
  | (refine gD 28 rfl ?_; refine ll rfl rfl rfl I mm1 ld_pk2 ?_)
  | (refine gD 31 rfl ?_; refine ll rfl rfl rfl I mm2 ld_st11 ?_)
  | (refine gD 36 rfl ?_; refine ll rfl rfl rfl I mm2 ld_st11 ?_)
  | (refine gD 41 rfl ?_; refine ll rfl rfl rfl I mm2 ld_st11 ?_)
  | (refine gD 33 rfl ?_; refine ck rfl Tryz.func56 kk rfl #[.int .i64 s.se, .int .i64 u1] rfl zh (later_c s.se u1 _ q0 q1 y0 (by omega)) ?_; rintro e_ w1 ⟨rfl, hb⟩; refine ⟨_, rfl, ?_⟩; replace I := callK I hb; clear hb)
  | (refine gD 38 rfl ?_; refine ck rfl Tryz.func56 kk rfl #[.int .i64 s.se, .int .i64 u2] rfl zh (later_c s.se u2 _ q0 q1 (by omega) (by omega)) ?_; rintro e_ w1 ⟨rfl, hb⟩; refine ⟨_, rfl, ?_⟩; replace I := callK I hb; clear hb)
  | (refine gD 43 rfl ?_; refine ck rfl Tryz.func56 kk rfl #[.int .i64 s.se, .int .i64 n] rfl zh (later_c s.se n _ q0 q1 (by omega) y3) ?_; rintro e_ w1 ⟨rfl, hb⟩; refine ⟨_, rfl, ?_⟩; replace I := callK I hb; clear hb)
  | (refine gD 46 rfl ?_; refine ll rfl rfl rfl I mm2 ld_stR ?_)
  | (refine gS rfl ?_; refine sk rfl rfl rfl rfl rfl I zm (by first | exact sr_st2 | exact sr_st4 | exact sr_st8 | exact sr_st9 | exact sr_st10 | exact sr_st12 | exact sr_stR) zu ?_; clear I; intro w1 I)
  )
 refine bodyPost_ret (ret_c rfl _ I.out _ rfl zm Tryz.underlying32 rfl kk) rfl ?_
 exact ⟨rfl, I.out.below⟩
end Go.Proofs.YtlabnocmmeciaaaGreatDoor.BQ
