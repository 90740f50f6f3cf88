/- Parts of the proof of this claim's statement (joined by a program of this session): RkA, RkB, Aq, Lq, Pkt, Wkc. -/
import Derived.Test.YtlabnocmmeciaaaGreatDoorq4
import Derived.Test.YtlabnocmmeciaaaGreatDoorq3
import Derived.Test.YtlabnocmmeciaaaGreatDoorq1
set_option linter.unusedVariables false
set_option linter.unusedSimpArgs false
set_option maxRecDepth 100000
set_option maxHeartbeats 8000000
namespace Go.Proofs.YtlabnocmmeciaaaGreatDoor.BQ
open Go RowKit YtlabnocmmeciaaaGreatDoorW.PrintWords YtlabnocmmeciaaaGreatDoorW.PrintLast YtlabnocmmeciaaaGreatDoorW.PrintMore Pa STN
theorem rvalidF (y : S26) : ddiref02_Valid.f y.f0 y.f1 y.f2 = some (validF y) := by
  unfold validF ddiref02_Valid.f addr_Valid.f
  by_cases h1 : y.f0 = true
  · simp [h1]
  · by_cases h2 : y.f1 = 0
    · simp only [if_neg h1, if_pos h2, Option.getD_some]; congr 1; exact decide_eq_decide.mpr (by omega)
    · simp [h1, h2]
theorem rrecv_x (s : Stn) (p : S38) (A : Option Addr) (cc : Nat) (n u1 u2 : Int) (ok : Bool) (now : Int) (bw : Bool) (w : World) (hst : 0 ≤ s.st ∧ s.st ≤ 5) (hx0 : 0 ≤ s.xid) (hs : (0 ≤ s.se ∧ s.se ≤ 4294967295)) (hr : Kd.C k62 w A p.f8.length p.f8) (hc : p.f8.length ≤ cc) (hL : ddiref36_Lease.f 1000 p.f0 p.f1 p.f2 p.f3 p.f4.f0 p.f4.f1 p.f4.f2 p.f5.f0 p.f5.f1 p.f5.f2 p.f6.f0 p.f6.f1 p.f6.f2 p.f7 p.f8 = some (n, u1, u2, ok)) (hn : ok = true → 0 ≤ u1 ∧ u1 ≤ u2 ∧ u2 ≤ n ∧ n ≤ 4294967295) (hW : ddiref35_Value.f 1000 [p.f5] = some (wantF p.f5, bw)) (hp : ¬ p.f1 = s.xid) : Calls Tryz.prog 12 #[.agg (stA s), .agg (pkOf p (.slice A p.f8.length cc)), .int .i64 now] w (Ret (recvF s p.f0 p.f1 p.f2 p.f3 p.f5 n u1 u2 ok now) w) := by
 have hu32 := Tryz.underlying32
 have hu26 := Tryz.underlying28
 have hu39 := Tryz.underlying38
 have hu24 := Tryz.underlying26
 obtain ⟨c, h, st, xid, sv, ⟨v6, hi, lo⟩, t1, t2, un, se, at_⟩ := s
 obtain ⟨ki, pxid, psv, pc, a4, ⟨v2, hi2, lo2⟩, a6, hr_, l⟩ := p
 replace hst : 0 ≤ st ∧ st ≤ 5 := hst
 replace hs : (0 ≤ se ∧ se ≤ 4294967295) := hs
 replace hx0 : 0 ≤ xid := hx0
 have hL := Aside0.mk hL
 have hr := Aside0.mk hr
 have hc := Aside0.mk hc
 have hn := Aside0.mk hn
 have hW := Aside0.mk hW
 replace hp : ¬ pxid = xid := hp
 have hq2 : (pxid == xid) = false := beq_eq_false_iff_ne.mpr hp
 have hq3 : (pxid != xid) = true := bne_iff_ne.mpr hp
 have eF : recvF (⟨c, h, st, xid, sv, ⟨v6, hi, lo⟩, t1, t2, un, se, at_⟩ : Stn) ki pxid psv pc ⟨v2, hi2, lo2⟩ n u1 u2 ok now = (⟨c, h, st, xid, sv, ⟨v6, hi, lo⟩, t1, t2, un, se, at_⟩, []) := by unfold recvF; rw [if_pos (fun h2 => hp h2.1)]
 show Calls Tryz.prog 12 #[.agg (stC c h st xid sv v6 hi lo t1 t2 un se at_), .agg (pkC ki pxid psv pc a4.f0 a4.f1 a4.f2 v2 hi2 lo2 a6.f0 a6.f1 a6.f2 hr_ (.slice A l.length cc)), .int .i64 now] w (Ret (recvF (⟨c, h, st, xid, sv, ⟨v6, hi, lo⟩, t1, t2, un, se, at_⟩ : Stn) ki pxid psv pc ⟨v2, hi2, lo2⟩ n u1 u2 ok now) w)
 rw [eF]
 clear eF
 have I := Aside0.mk (Inv.start0 (w0 := w))
 go_enter Tryz.func12, Tryz.ntmps12
 go_wp2_with (first
  | (refine gB rfl ?_; refine bk rfl rfl rfl I ?_; clear I; intro gb w1 I)
  | (refine ak rfl (al_R rfl) I ?_; clear I; intro gb w1 I)
  | (refine ak rfl (al_A rfl) I ?_; clear I; intro gb w1 I)
  | (refine ak rfl (al_P rfl) I ?_; clear I; intro gb w1 I)
  | (refine gD 13 rfl ?_; refine ll rfl rfl rfl I mm1 ld_pk1 ?_)
  | (refine gD 15 rfl ?_; refine ll rfl rfl rfl I mm2 ld_st3 ?_)
  | (refine gD 24 rfl ?_; refine ll rfl rfl rfl I mm2 ld_stR ?_)
  | (refine gS rfl ?_; refine sk rfl rfl rfl rfl rfl I zm (by first | exact sr_stR) zu ?_; clear I; intro w1 I)
  )
 refine bodyPost_ret (ret_ct rfl _ I.out _ rfl zm Tryz.underlying32 rfl kk) rfl ?_
 exact ⟨_, rfl, Pks_nil _ _, I.out.below⟩
theorem rrecv_c0 (s : Stn) (p : S38) (A : Option Addr) (cc : Nat) (n u1 u2 : Int) (ok : Bool) (now : Int) (bw : Bool) (w : World) (hst : 0 ≤ s.st ∧ s.st ≤ 5) (hx0 : 0 ≤ s.xid) (hs : (0 ≤ s.se ∧ s.se ≤ 4294967295)) (hr : Kd.C k62 w A p.f8.length p.f8) (hc : p.f8.length ≤ cc) (hL : ddiref36_Lease.f 1000 p.f0 p.f1 p.f2 p.f3 p.f4.f0 p.f4.f1 p.f4.f2 p.f5.f0 p.f5.f1 p.f5.f2 p.f6.f0 p.f6.f1 p.f6.f2 p.f7 p.f8 = some (n, u1, u2, ok)) (hn : ok = true → 0 ≤ u1 ∧ u1 ≤ u2 ∧ u2 ≤ n ∧ n ≤ 4294967295) (hW : ddiref35_Value.f 1000 [p.f5] = some (wantF p.f5, bw)) (hp : p.f1 = s.xid) (hq : ¬ p.f3 = s.c) : Calls Tryz.prog 12 #[.agg (stA s), .agg (pkOf p (.slice A p.f8.length cc)), .int .i64 now] w (Ret (recvF s p.f0 p.f1 p.f2 p.f3 p.f5 n u1 u2 ok now) w) := by
 have hu32 := Tryz.underlying32
 have hu26 := Tryz.underlying28
 have hu39 := Tryz.underlying38
 have hu24 := Tryz.underlying26
 obtain ⟨c, h, st, xid, sv, ⟨v6, hi, lo⟩, t1, t2, un, se, at_⟩ := s
 obtain ⟨ki, pxid, psv, pc, a4, ⟨v2, hi2, lo2⟩, a6, hr_, l⟩ := p
 replace hst : 0 ≤ st ∧ st ≤ 5 := hst
 replace hs : (0 ≤ se ∧ se ≤ 4294967295) := hs
 replace hx0 : 0 ≤ xid := hx0
 have hL := Aside0.mk hL
 have hr := Aside0.mk hr
 have hc := Aside0.mk hc
 have hn := Aside0.mk hn
 have hW := Aside0.mk hW
 replace hp : pxid = xid := hp
 subst hp
 replace hq : ¬ pc = c := hq
 have hL0 : ¬ pc.toList = c.toList := fun h2 => hq (bytes_inj h2)
 have hq2 : (pc.toList == c.toList) = false := beq_eq_false_iff_ne.mpr hL0
 have hq3 : (pc.toList != c.toList) = true := bne_iff_ne.mpr hL0
 have eF : recvF (⟨c, h, st, pxid, sv, ⟨v6, hi, lo⟩, t1, t2, un, se, at_⟩ : Stn) ki pxid psv pc ⟨v2, hi2, lo2⟩ n u1 u2 ok now = (⟨c, h, st, pxid, sv, ⟨v6, hi, lo⟩, t1, t2, un, se, at_⟩, []) := by unfold recvF; rw [if_pos (fun h2 => hq h2.2)]
 show Calls Tryz.prog 12 #[.agg (stC c h st pxid sv v6 hi lo t1 t2 un se at_), .agg (pkC ki pxid psv pc a4.f0 a4.f1 a4.f2 v2 hi2 lo2 a6.f0 a6.f1 a6.f2 hr_ (.slice A l.length cc)), .int .i64 now] w (Ret (recvF (⟨c, h, st, pxid, sv, ⟨v6, hi, lo⟩, t1, t2, un, se, at_⟩ : Stn) ki pxid psv pc ⟨v2, hi2, lo2⟩ n u1 u2 ok now) w)
 rw [eF]
 clear eF
 have I := Aside0.mk (Inv.start0 (w0 := w))
 go_enter Tryz.func12, Tryz.ntmps12
 go_wp2_with (first
  | (refine gB rfl ?_; refine bk rfl rfl rfl I ?_; clear I; intro gb w1 I)
  | (refine ak rfl (al_R rfl) I ?_; clear I; intro gb w1 I)
  | (refine ak rfl (al_A rfl) I ?_; clear I; intro gb w1 I)
  | (refine ak rfl (al_P rfl) I ?_; clear I; intro gb w1 I)
  | (refine gD 13 rfl ?_; refine ll rfl rfl rfl I mm1 ld_pk1 ?_)
  | (refine gD 15 rfl ?_; refine ll rfl rfl rfl I mm2 ld_st3 ?_)
  | (refine gD 19 rfl ?_; refine ll rfl rfl rfl I mm1 ld_pk3 ?_)
  | (refine gD 21 rfl ?_; refine ll rfl rfl rfl I mm2 ld_st0 ?_)
  | (refine gD 24 rfl ?_; refine ll rfl rfl rfl I mm2 ld_stR ?_)
  | (refine gS rfl ?_; refine sk rfl rfl rfl rfl rfl I zm (by first | exact sr_stR) zu ?_; clear I; intro w1 I)
  )
 refine bodyPost_ret (ret_ct rfl _ I.out _ rfl zm Tryz.underlying32 rfl kk) rfl ?_
 exact ⟨_, rfl, Pks_nil _ _, I.out.below⟩
theorem rrecv_2 (s : Stn) (p : S38) (A : Option Addr) (cc : Nat) (n u1 u2 : Int) (ok : Bool) (now : Int) (bw : Bool) (w : World) (hst : 0 ≤ s.st ∧ s.st ≤ 5) (hx0 : 0 ≤ s.xid) (hs : (0 ≤ s.se ∧ s.se ≤ 4294967295)) (hr : Kd.C k62 w A p.f8.length p.f8) (hc : p.f8.length ≤ cc) (hL : ddiref36_Lease.f 1000 p.f0 p.f1 p.f2 p.f3 p.f4.f0 p.f4.f1 p.f4.f2 p.f5.f0 p.f5.f1 p.f5.f2 p.f6.f0 p.f6.f1 p.f6.f2 p.f7 p.f8 = some (n, u1, u2, ok)) (hn : ok = true → 0 ≤ u1 ∧ u1 ≤ u2 ∧ u2 ≤ n ∧ n ≤ 4294967295) (hW : ddiref35_Value.f 1000 [p.f5] = some (wantF p.f5, bw)) (hp : p.f1 = s.xid) (hq : p.f3 = s.c) (hv : s.st = 2) : Calls Tryz.prog 12 #[.agg (stA s), .agg (pkOf p (.slice A p.f8.length cc)), .int .i64 now] w (Ret (recvF s p.f0 p.f1 p.f2 p.f3 p.f5 n u1 u2 ok now) w) := by
 have hu32 := Tryz.underlying32
 have hu26 := Tryz.underlying28
 have hu39 := Tryz.underlying38
 have hu24 := Tryz.underlying26
 obtain ⟨c, h, st, xid, sv, ⟨v6, hi, lo⟩, t1, t2, un, se, at_⟩ := s
 obtain ⟨ki, pxid, psv, pc, a4, ⟨v2, hi2, lo2⟩, a6, hr_, l⟩ := p
 replace hst : 0 ≤ st ∧ st ≤ 5 := hst
 replace hs : (0 ≤ se ∧ se ≤ 4294967295) := hs
 replace hx0 : 0 ≤ xid := hx0
 have hL := Aside0.mk hL
 have hr := Aside0.mk hr
 have hc := Aside0.mk hc
 have hn := Aside0.mk hn
 have hW := Aside0.mk hW
 replace hp : pxid = xid := hp
 subst hp
 replace hq : pc = c := hq
 subst hq
 replace hv : st = 2 := hv
 subst hv
 clear hst
 by_cases k2 : ki = 2
 · subst k2
   have eF : recvF (⟨pc, h, 2, pxid, sv, ⟨v6, hi, lo⟩, t1, t2, un, se, at_⟩ : Stn) 2 pxid psv pc ⟨v2, hi2, lo2⟩ n u1 u2 ok now = (⟨pc, h, 2, pxid, sv, ⟨v6, hi, lo⟩, t1, t2, un, se, at_⟩, []) := by unfold recvF; rw [if_neg (fun hq => hq ⟨rfl, rfl⟩), if_neg (fun hq => absurd hq.2 (by show ¬ ((2 : Int) = 1); decide)), if_neg (fun hq => absurd hq.1 (by decide)), if_neg (fun hq => absurd hq.1 (by decide))]
   show Calls Tryz.prog 12 #[.agg (stC pc h 2 pxid sv v6 hi lo t1 t2 un se at_), .agg (pkC 2 pxid psv pc a4.f0 a4.f1 a4.f2 v2 hi2 lo2 a6.f0 a6.f1 a6.f2 hr_ (.slice A l.length cc)), .int .i64 now] w (Ret (recvF (⟨pc, h, 2, pxid, sv, ⟨v6, hi, lo⟩, t1, t2, un, se, at_⟩ : Stn) 2 pxid psv pc ⟨v2, hi2, lo2⟩ n u1 u2 ok now) w)
   rw [eF]
   clear eF
   have I := Aside0.mk (Inv.start0 (w0 := w))
   go_enter Tryz.func12, Tryz.ntmps12
   go_wp2_with (first
    | (refine gB rfl ?_; refine bk rfl rfl rfl I ?_; clear I; intro gb w1 I)
    | (refine ak rfl (al_R rfl) I ?_; clear I; intro gb w1 I)
    | (refine ak rfl (al_A rfl) I ?_; clear I; intro gb w1 I)
    | (refine ak rfl (al_P rfl) I ?_; clear I; intro gb w1 I)
    | (refine gD 13 rfl ?_; refine ll rfl rfl rfl I mm1 ld_pk1 ?_)
    | (refine gD 15 rfl ?_; refine ll rfl rfl rfl I mm2 ld_st3 ?_)
    | (refine gD 19 rfl ?_; refine ll rfl rfl rfl I mm1 ld_pk3 ?_)
    | (refine gD 21 rfl ?_; refine ll rfl rfl rfl I mm2 ld_st0 ?_)
    | (refine gD 26 rfl ?_; refine ll rfl rfl rfl I mm2 ld_st2 ?_)
    | (refine gD 41 rfl ?_; refine ll rfl rfl rfl I mm2 ld_pk0 ?_)
    | (refine gD 45 rfl ?_; refine ll rfl rfl rfl I mm3 ld_st2 ?_)
    | (refine gD 85 rfl ?_; refine ll rfl rfl rfl I mm2 ld_pk0 ?_)
    | (refine gD 95 rfl ?_; refine ll rfl rfl rfl I mm2 ld_pk0 ?_)
    | (refine gD 102 rfl ?_; refine ll rfl rfl rfl I mm3 ld_stR ?_)
    | (refine gS rfl ?_; refine sk rfl rfl rfl rfl rfl I zm (by first | exact sr_ad | exact sr_stR) zu ?_; clear I; intro w1 I)
    )
   refine bodyPost_ret (ret_ct rfl _ I.out _ rfl zm Tryz.underlying32 rfl kk) rfl ?_
   exact ⟨_, rfl, Pks_nil _ _, I.out.below⟩
 by_cases k5 : ki = 5
 · subst k5
   have eF : recvF (⟨pc, h, 2, pxid, sv, ⟨v6, hi, lo⟩, t1, t2, un, se, at_⟩ : Stn) 5 pxid psv pc ⟨v2, hi2, lo2⟩ n u1 u2 ok now = (ackF ⟨pc, h, 2, pxid, sv, ⟨v6, hi, lo⟩, t1, t2, un, se, at_⟩ psv ⟨v2, hi2, lo2⟩ n u1 u2 ok, []) := by unfold recvF; rw [if_neg (fun hq => hq ⟨rfl, rfl⟩), if_neg (fun hq => absurd hq.1 (by decide)), if_pos ⟨rfl, by show (2 : Int) = 2 ∨ (2 : Int) = 4 ∨ (2 : Int) = 5; decide⟩]
   show Calls Tryz.prog 12 #[.agg (stC pc h 2 pxid sv v6 hi lo t1 t2 un se at_), .agg (pkC 5 pxid psv pc a4.f0 a4.f1 a4.f2 v2 hi2 lo2 a6.f0 a6.f1 a6.f2 hr_ (.slice A l.length cc)), .int .i64 now] w (Ret (recvF (⟨pc, h, 2, pxid, sv, ⟨v6, hi, lo⟩, t1, t2, un, se, at_⟩ : Stn) 5 pxid psv pc ⟨v2, hi2, lo2⟩ n u1 u2 ok now) w)
   rw [eF]
   clear eF
   have I := Aside0.mk (Inv.start0 (w0 := w))
   go_enter Tryz.func12, Tryz.ntmps12
   go_wp2_with (first
    | (refine gB rfl ?_; refine bk rfl rfl rfl I ?_; clear I; intro gb w1 I)
    | (refine ak rfl (al_R rfl) I ?_; clear I; intro gb w1 I)
    | (refine ak rfl (al_A rfl) I ?_; clear I; intro gb w1 I)
    | (refine ak rfl (al_P rfl) I ?_; clear I; intro gb w1 I)
    | (refine gD 13 rfl ?_; refine ll rfl rfl rfl I mm1 ld_pk1 ?_)
    | (refine gD 15 rfl ?_; refine ll rfl rfl rfl I mm2 ld_st3 ?_)
    | (refine gD 19 rfl ?_; refine ll rfl rfl rfl I mm1 ld_pk3 ?_)
    | (refine gD 21 rfl ?_; refine ll rfl rfl rfl I mm2 ld_st0 ?_)
    | (refine gD 26 rfl ?_; refine ll rfl rfl rfl I mm2 ld_st2 ?_)
    | (refine gD 41 rfl ?_; refine ll rfl rfl rfl I mm2 ld_pk0 ?_)
    | (refine gD 85 rfl ?_; refine ll rfl rfl rfl I mm2 ld_pk0 ?_)
    | (refine gD 90 rfl ?_; refine ll rfl rfl rfl I mm3 ld_stR ?_)
    | (refine gD 91 rfl ?_; refine ll rfl rfl rfl I mm2 ld_pk ?_)
    | (refine gD 92 rfl ?_; refine ck rfl Tryz.func42 kk rfl #[.agg (stC pc h 2 pxid sv v6 hi lo t1 t2 un se at_), .agg (pkC 5 pxid psv pc a4.f0 a4.f1 a4.f2 v2 hi2 lo2 a6.f0 a6.f1 a6.f2 hr_ (.slice A l.length cc))] rfl zh (bound_c (⟨pc, h, 2, pxid, sv, ⟨v6, hi, lo⟩, t1, t2, un, se, at_⟩ : Stn) (⟨5, pxid, psv, pc, a4, ⟨v2, hi2, lo2⟩, a6, hr_, l⟩ : S38) A cc n u1 u2 ok _ hs (Kd.C_below hr.out I.out.below) hc.out hL.out hn.out) ?_; rintro e_ w1 ⟨rfl, hb⟩; refine ⟨_, rfl, ?_⟩; replace I := callK I hb; clear hb)
    | (refine gS rfl ?_; refine sk rfl rfl rfl rfl rfl I zm (by first | exact sr_ad | exact sr_stAR) zu ?_; clear I; intro w1 I)
    )
   refine bodyPost_ret (ret_ct rfl _ I.out _ rfl zm Tryz.underlying32 rfl kk) rfl ?_
   exact ⟨_, rfl, Pks_nil _ _, I.out.below⟩
 by_cases k6 : ki = 6
 · subst k6
   have eF : recvF (⟨pc, h, 2, pxid, sv, ⟨v6, hi, lo⟩, t1, t2, un, se, at_⟩ : Stn) 6 pxid psv pc ⟨v2, hi2, lo2⟩ n u1 u2 ok now = (initF ⟨pc, h, 2, pxid, sv, ⟨v6, hi, lo⟩, t1, t2, un, se, at_⟩, []) := by unfold recvF; rw [if_neg (fun hq => hq ⟨rfl, rfl⟩), if_neg (fun hq => absurd hq.1 (by decide)), if_neg (fun hq => absurd hq.1 (by decide)), if_pos ⟨rfl, by show (2 : Int) = 2 ∨ (2 : Int) = 4 ∨ (2 : Int) = 5; decide⟩]
   show Calls Tryz.prog 12 #[.agg (stC pc h 2 pxid sv v6 hi lo t1 t2 un se at_), .agg (pkC 6 pxid psv pc a4.f0 a4.f1 a4.f2 v2 hi2 lo2 a6.f0 a6.f1 a6.f2 hr_ (.slice A l.length cc)), .int .i64 now] w (Ret (recvF (⟨pc, h, 2, pxid, sv, ⟨v6, hi, lo⟩, t1, t2, un, se, at_⟩ : Stn) 6 pxid psv pc ⟨v2, hi2, lo2⟩ n u1 u2 ok now) w)
   rw [eF]
   clear eF
   have I := Aside0.mk (Inv.start0 (w0 := w))
   go_enter Tryz.func12, Tryz.ntmps12
   go_wp2_with (first
    | (refine gB rfl ?_; refine bk rfl rfl rfl I ?_; clear I; intro gb w1 I)
    | (refine ak rfl (al_R rfl) I ?_; clear I; intro gb w1 I)
    | (refine ak rfl (al_A rfl) I ?_; clear I; intro gb w1 I)
    | (refine ak rfl (al_P rfl) I ?_; clear I; intro gb w1 I)
    | (refine gD 13 rfl ?_; refine ll rfl rfl rfl I mm1 ld_pk1 ?_)
    | (refine gD 15 rfl ?_; refine ll rfl rfl rfl I mm2 ld_st3 ?_)
    | (refine gD 19 rfl ?_; refine ll rfl rfl rfl I mm1 ld_pk3 ?_)
    | (refine gD 21 rfl ?_; refine ll rfl rfl rfl I mm2 ld_st0 ?_)
    | (refine gD 26 rfl ?_; refine ll rfl rfl rfl I mm2 ld_st2 ?_)
    | (refine gD 41 rfl ?_; refine ll rfl rfl rfl I mm2 ld_pk0 ?_)
    | (refine gD 85 rfl ?_; refine ll rfl rfl rfl I mm2 ld_pk0 ?_)
    | (refine gD 95 rfl ?_; refine ll rfl rfl rfl I mm2 ld_pk0 ?_)
    | (refine gD 100 rfl ?_; refine ll rfl rfl rfl I mm3 ld_stR ?_)
    | (refine gD 101 rfl ?_; refine ck rfl Tryz.func43 kk rfl #[.agg (stC pc h 2 pxid sv v6 hi lo t1 t2 un se at_)] rfl zh (rinit_c pc h 2 pxid sv v6 hi lo t1 t2 un se at_ _) ?_; rintro e_ w1 ⟨rfl, hb⟩; refine ⟨_, rfl, ?_⟩; replace I := callK I hb; clear hb)
    | (refine gS rfl ?_; refine sk rfl rfl rfl rfl rfl I zm (by first | exact sr_ad | exact sr_stR) zu ?_; clear I; intro w1 I)
    )
   refine bodyPost_ret (ret_ct rfl _ I.out _ rfl zm Tryz.underlying32 rfl kk) rfl ?_
   exact ⟨_, rfl, Pks_nil _ _, I.out.below⟩
 have g2 : (ki == 2) = false := beq_eq_false_iff_ne.mpr k2
 have g5 : (ki == 5) = false := beq_eq_false_iff_ne.mpr k5
 have g6 : (ki == 6) = false := beq_eq_false_iff_ne.mpr k6
 have eF : recvF (⟨pc, h, 2, pxid, sv, ⟨v6, hi, lo⟩, t1, t2, un, se, at_⟩ : Stn) ki pxid psv pc ⟨v2, hi2, lo2⟩ n u1 u2 ok now = (⟨pc, h, 2, pxid, sv, ⟨v6, hi, lo⟩, t1, t2, un, se, at_⟩, []) := by unfold recvF; rw [if_neg (fun hq => hq ⟨rfl, rfl⟩), if_neg (fun hq => k2 hq.1), if_neg (fun hq => k5 hq.1), if_neg (fun hq => k6 hq.1)]
 show Calls Tryz.prog 12 #[.agg (stC pc h 2 pxid sv v6 hi lo t1 t2 un se at_), .agg (pkC ki pxid psv pc a4.f0 a4.f1 a4.f2 v2 hi2 lo2 a6.f0 a6.f1 a6.f2 hr_ (.slice A l.length cc)), .int .i64 now] w (Ret (recvF (⟨pc, h, 2, pxid, sv, ⟨v6, hi, lo⟩, t1, t2, un, se, at_⟩ : Stn) ki pxid psv pc ⟨v2, hi2, lo2⟩ n u1 u2 ok now) w)
 rw [eF]
 clear eF
 have I := Aside0.mk (Inv.start0 (w0 := w))
 go_enter Tryz.func12, Tryz.ntmps12
 go_wp2_with (first
  | (refine gB rfl ?_; refine bk rfl rfl rfl I ?_; clear I; intro gb w1 I)
  | (refine ak rfl (al_R rfl) I ?_; clear I; intro gb w1 I)
  | (refine ak rfl (al_A rfl) I ?_; clear I; intro gb w1 I)
  | (refine ak rfl (al_P rfl) I ?_; clear I; intro gb w1 I)
  | (refine gD 13 rfl ?_; refine ll rfl rfl rfl I mm1 ld_pk1 ?_)
  | (refine gD 15 rfl ?_; refine ll rfl rfl rfl I mm2 ld_st3 ?_)
  | (refine gD 19 rfl ?_; refine ll rfl rfl rfl I mm1 ld_pk3 ?_)
  | (refine gD 21 rfl ?_; refine ll rfl rfl rfl I mm2 ld_st0 ?_)
  | (refine gD 26 rfl ?_; refine ll rfl rfl rfl I mm2 ld_st2 ?_)
  | (refine gD 41 rfl ?_; refine ll rfl rfl rfl I mm2 ld_pk0 ?_)
  | (refine gD 85 rfl ?_; refine ll rfl rfl rfl I mm2 ld_pk0 ?_)
  | (refine gD 95 rfl ?_; refine ll rfl rfl rfl I mm2 ld_pk0 ?_)
  | (refine gD 102 rfl ?_; refine ll rfl rfl rfl I mm3 ld_stR ?_)
  | (refine gS rfl ?_; refine sk rfl rfl rfl rfl rfl I zm (by first | exact sr_ad | exact sr_stR) zu ?_; clear I; intro w1 I)
  )
 refine bodyPost_ret (ret_ct rfl _ I.out _ rfl zm Tryz.underlying32 rfl kk) rfl ?_
 exact ⟨_, rfl, Pks_nil _ _, I.out.below⟩
theorem rrecv_4 (s : Stn) (p : S38) (A : Option Addr) (cc : Nat) (n u1 u2 : Int) (ok : Bool) (now : Int) (bw : Bool) (w : World) (hst : 0 ≤ s.st ∧ s.st ≤ 5) (hx0 : 0 ≤ s.xid) (hs : (0 ≤ s.se ∧ s.se ≤ 4294967295)) (hr : Kd.C k62 w A p.f8.length p.f8) (hc : p.f8.length ≤ cc) (hL : ddiref36_Lease.f 1000 p.f0 p.f1 p.f2 p.f3 p.f4.f0 p.f4.f1 p.f4.f2 p.f5.f0 p.f5.f1 p.f5.f2 p.f6.f0 p.f6.f1 p.f6.f2 p.f7 p.f8 = some (n, u1, u2, ok)) (hn : ok = true → 0 ≤ u1 ∧ u1 ≤ u2 ∧ u2 ≤ n ∧ n ≤ 4294967295) (hW : ddiref35_Value.f 1000 [p.f5] = some (wantF p.f5, bw)) (hp : p.f1 = s.xid) (hq : p.f3 = s.c) (hv : s.st = 4) : Calls Tryz.prog 12 #[.agg (stA s), .agg (pkOf p (.slice A p.f8.length cc)), .int .i64 now] w (Ret (recvF s p.f0 p.f1 p.f2 p.f3 p.f5 n u1 u2 ok now) w) := by
 have hu32 := Tryz.underlying32
 have hu26 := Tryz.underlying28
 have hu39 := Tryz.underlying38
 have hu24 := Tryz.underlying26
 obtain ⟨c, h, st, xid, sv, ⟨v6, hi, lo⟩, t1, t2, un, se, at_⟩ := s
 obtain ⟨ki, pxid, psv, pc, a4, ⟨v2, hi2, lo2⟩, a6, hr_, l⟩ := p
 replace hst : 0 ≤ st ∧ st ≤ 5 := hst
 replace hs : (0 ≤ se ∧ se ≤ 4294967295) := hs
 replace hx0 : 0 ≤ xid := hx0
 have hL := Aside0.mk hL
 have hr := Aside0.mk hr
 have hc := Aside0.mk hc
 have hn := Aside0.mk hn
 have hW := Aside0.mk hW
 replace hp : pxid = xid := hp
 subst hp
 replace hq : pc = c := hq
 subst hq
 replace hv : st = 4 := hv
 subst hv
 clear hst
 by_cases k2 : ki = 2
 · subst k2
   have eF : recvF (⟨pc, h, 4, pxid, sv, ⟨v6, hi, lo⟩, t1, t2, un, se, at_⟩ : Stn) 2 pxid psv pc ⟨v2, hi2, lo2⟩ n u1 u2 ok now = (⟨pc, h, 4, pxid, sv, ⟨v6, hi, lo⟩, t1, t2, un, se, at_⟩, []) := by unfold recvF; rw [if_neg (fun hq => hq ⟨rfl, rfl⟩), if_neg (fun hq => absurd hq.2 (by show ¬ ((4 : Int) = 1); decide)), if_neg (fun hq => absurd hq.1 (by decide)), if_neg (fun hq => absurd hq.1 (by decide))]
   show Calls Tryz.prog 12 #[.agg (stC pc h 4 pxid sv v6 hi lo t1 t2 un se at_), .agg (pkC 2 pxid psv pc a4.f0 a4.f1 a4.f2 v2 hi2 lo2 a6.f0 a6.f1 a6.f2 hr_ (.slice A l.length cc)), .int .i64 now] w (Ret (recvF (⟨pc, h, 4, pxid, sv, ⟨v6, hi, lo⟩, t1, t2, un, se, at_⟩ : Stn) 2 pxid psv pc ⟨v2, hi2, lo2⟩ n u1 u2 ok now) w)
   rw [eF]
   clear eF
   have I := Aside0.mk (Inv.start0 (w0 := w))
   go_enter Tryz.func12, Tryz.ntmps12
   go_wp2_with (first
    | (refine gB rfl ?_; refine bk rfl rfl rfl I ?_; clear I; intro gb w1 I)
    | (refine ak rfl (al_R rfl) I ?_; clear I; intro gb w1 I)
    | (refine ak rfl (al_A rfl) I ?_; clear I; intro gb w1 I)
    | (refine ak rfl (al_P rfl) I ?_; clear I; intro gb w1 I)
    | (refine gD 13 rfl ?_; refine ll rfl rfl rfl I mm1 ld_pk1 ?_)
    | (refine gD 15 rfl ?_; refine ll rfl rfl rfl I mm2 ld_st3 ?_)
    | (refine gD 19 rfl ?_; refine ll rfl rfl rfl I mm1 ld_pk3 ?_)
    | (refine gD 21 rfl ?_; refine ll rfl rfl rfl I mm2 ld_st0 ?_)
    | (refine gD 26 rfl ?_; refine ll rfl rfl rfl I mm2 ld_st2 ?_)
    | (refine gD 30 rfl ?_; refine ll rfl rfl rfl I mm2 ld_st2 ?_)
    | (refine gD 41 rfl ?_; refine ll rfl rfl rfl I mm2 ld_pk0 ?_)
    | (refine gD 45 rfl ?_; refine ll rfl rfl rfl I mm3 ld_st2 ?_)
    | (refine gD 85 rfl ?_; refine ll rfl rfl rfl I mm2 ld_pk0 ?_)
    | (refine gD 95 rfl ?_; refine ll rfl rfl rfl I mm2 ld_pk0 ?_)
    | (refine gD 102 rfl ?_; refine ll rfl rfl rfl I mm3 ld_stR ?_)
    | (refine gS rfl ?_; refine sk rfl rfl rfl rfl rfl I zm (by first | exact sr_ad | exact sr_stR) zu ?_; clear I; intro w1 I)
    )
   refine bodyPost_ret (ret_ct rfl _ I.out _ rfl zm Tryz.underlying32 rfl kk) rfl ?_
   exact ⟨_, rfl, Pks_nil _ _, I.out.below⟩
 by_cases k5 : ki = 5
 · subst k5
   have eF : recvF (⟨pc, h, 4, pxid, sv, ⟨v6, hi, lo⟩, t1, t2, un, se, at_⟩ : Stn) 5 pxid psv pc ⟨v2, hi2, lo2⟩ n u1 u2 ok now = (ackF ⟨pc, h, 4, pxid, sv, ⟨v6, hi, lo⟩, t1, t2, un, se, at_⟩ psv ⟨v2, hi2, lo2⟩ n u1 u2 ok, []) := by unfold recvF; rw [if_neg (fun hq => hq ⟨rfl, rfl⟩), if_neg (fun hq => absurd hq.1 (by decide)), if_pos ⟨rfl, by show (4 : Int) = 2 ∨ (4 : Int) = 4 ∨ (4 : Int) = 5; decide⟩]
   show Calls Tryz.prog 12 #[.agg (stC pc h 4 pxid sv v6 hi lo t1 t2 un se at_), .agg (pkC 5 pxid psv pc a4.f0 a4.f1 a4.f2 v2 hi2 lo2 a6.f0 a6.f1 a6.f2 hr_ (.slice A l.length cc)), .int .i64 now] w (Ret (recvF (⟨pc, h, 4, pxid, sv, ⟨v6, hi, lo⟩, t1, t2, un, se, at_⟩ : Stn) 5 pxid psv pc ⟨v2, hi2, lo2⟩ n u1 u2 ok now) w)
   rw [eF]
   clear eF
   have I := Aside0.mk (Inv.start0 (w0 := w))
   go_enter Tryz.func12, Tryz.ntmps12
   go_wp2_with (first
    | (refine gB rfl ?_; refine bk rfl rfl rfl I ?_; clear I; intro gb w1 I)
    | (refine ak rfl (al_R rfl) I ?_; clear I; intro gb w1 I)
    | (refine ak rfl (al_A rfl) I ?_; clear I; intro gb w1 I)
    | (refine ak rfl (al_P rfl) I ?_; clear I; intro gb w1 I)
    | (refine gD 13 rfl ?_; refine ll rfl rfl rfl I mm1 ld_pk1 ?_)
    | (refine gD 15 rfl ?_; refine ll rfl rfl rfl I mm2 ld_st3 ?_)
    | (refine gD 19 rfl ?_; refine ll rfl rfl rfl I mm1 ld_pk3 ?_)
    | (refine gD 21 rfl ?_; refine ll rfl rfl rfl I mm2 ld_st0 ?_)
    | (refine gD 26 rfl ?_; refine ll rfl rfl rfl I mm2 ld_st2 ?_)
    | (refine gD 30 rfl ?_; refine ll rfl rfl rfl I mm2 ld_st2 ?_)
    | (refine gD 41 rfl ?_; refine ll rfl rfl rfl I mm2 ld_pk0 ?_)
    | (refine gD 85 rfl ?_; refine ll rfl rfl rfl I mm2 ld_pk0 ?_)
    | (refine gD 90 rfl ?_; refine ll rfl rfl rfl I mm3 ld_stR ?_)
    | (refine gD 91 rfl ?_; refine ll rfl rfl rfl I mm2 ld_pk ?_)
    | (refine gD 92 rfl ?_; refine ck rfl Tryz.func42 kk rfl #[.agg (stC pc h 4 pxid sv v6 hi lo t1 t2 un se at_), .agg (pkC 5 pxid psv pc a4.f0 a4.f1 a4.f2 v2 hi2 lo2 a6.f0 a6.f1 a6.f2 hr_ (.slice A l.length cc))] rfl zh (bound_c (⟨pc, h, 4, pxid, sv, ⟨v6, hi, lo⟩, t1, t2, un, se, at_⟩ : Stn) (⟨5, pxid, psv, pc, a4, ⟨v2, hi2, lo2⟩, a6, hr_, l⟩ : S38) A cc n u1 u2 ok _ hs (Kd.C_below hr.out I.out.below) hc.out hL.out hn.out) ?_; rintro e_ w1 ⟨rfl, hb⟩; refine ⟨_, rfl, ?_⟩; replace I := callK I hb; clear hb)
    | (refine gS rfl ?_; refine sk rfl rfl rfl rfl rfl I zm (by first | exact sr_ad | exact sr_stAR) zu ?_; clear I; intro w1 I)
    )
   refine bodyPost_ret (ret_ct rfl _ I.out _ rfl zm Tryz.underlying32 rfl kk) rfl ?_
   exact ⟨_, rfl, Pks_nil _ _, I.out.below⟩
 by_cases k6 : ki = 6
 · subst k6
   have eF : recvF (⟨pc, h, 4, pxid, sv, ⟨v6, hi, lo⟩, t1, t2, un, se, at_⟩ : Stn) 6 pxid psv pc ⟨v2, hi2, lo2⟩ n u1 u2 ok now = (initF ⟨pc, h, 4, pxid, sv, ⟨v6, hi, lo⟩, t1, t2, un, se, at_⟩, []) := by unfold recvF; rw [if_neg (fun hq => hq ⟨rfl, rfl⟩), if_neg (fun hq => absurd hq.1 (by decide)), if_neg (fun hq => absurd hq.1 (by decide)), if_pos ⟨rfl, by show (4 : Int) = 2 ∨ (4 : Int) = 4 ∨ (4 : Int) = 5; decide⟩]
   show Calls Tryz.prog 12 #[.agg (stC pc h 4 pxid sv v6 hi lo t1 t2 un se at_), .agg (pkC 6 pxid psv pc a4.f0 a4.f1 a4.f2 v2 hi2 lo2 a6.f0 a6.f1 a6.f2 hr_ (.slice A l.length cc)), .int .i64 now] w (Ret (recvF (⟨pc, h, 4, pxid, sv, ⟨v6, hi, lo⟩, t1, t2, un, se, at_⟩ : Stn) 6 pxid psv pc ⟨v2, hi2, lo2⟩ n u1 u2 ok now) w)
   rw [eF]
   clear eF
   have I := Aside0.mk (Inv.start0 (w0 := w))
   go_enter Tryz.func12, Tryz.ntmps12
   go_wp2_with (first
    | (refine gB rfl ?_; refine bk rfl rfl rfl I ?_; clear I; intro gb w1 I)
    | (refine ak rfl (al_R rfl) I ?_; clear I; intro gb w1 I)
    | (refine ak rfl (al_A rfl) I ?_; clear I; intro gb w1 I)
    | (refine ak rfl (al_P rfl) I ?_; clear I; intro gb w1 I)
    | (refine gD 13 rfl ?_; refine ll rfl rfl rfl I mm1 ld_pk1 ?_)
    | (refine gD 15 rfl ?_; refine ll rfl rfl rfl I mm2 ld_st3 ?_)
    | (refine gD 19 rfl ?_; refine ll rfl rfl rfl I mm1 ld_pk3 ?_)
    | (refine gD 21 rfl ?_; refine ll rfl rfl rfl I mm2 ld_st0 ?_)
    | (refine gD 26 rfl ?_; refine ll rfl rfl rfl I mm2 ld_st2 ?_)
    | (refine gD 30 rfl ?_; refine ll rfl rfl rfl I mm2 ld_st2 ?_)
    | (refine gD 41 rfl ?_; refine ll rfl rfl rfl I mm2 ld_pk0 ?_)
    | (refine gD 85 rfl ?_; refine ll rfl rfl rfl I mm2 ld_pk0 ?_)
    | (refine gD 95 rfl ?_; refine ll rfl rfl rfl I mm2 ld_pk0 ?_)
    | (refine gD 100 rfl ?_; refine ll rfl rfl rfl I mm3 ld_stR ?_)
    | (refine gD 101 rfl ?_; refine ck rfl Tryz.func43 kk rfl #[.agg (stC pc h 4 pxid sv v6 hi lo t1 t2 un se at_)] rfl zh (rinit_c pc h 4 pxid sv v6 hi lo t1 t2 un se at_ _) ?_; rintro e_ w1 ⟨rfl, hb⟩; refine ⟨_, rfl, ?_⟩; replace I := callK I hb; clear hb)
    | (refine gS rfl ?_; refine sk rfl rfl rfl rfl rfl I zm (by first | exact sr_ad | exact sr_stR) zu ?_; clear I; intro w1 I)
    )
   refine bodyPost_ret (ret_ct rfl _ I.out _ rfl zm Tryz.underlying32 rfl kk) rfl ?_
   exact ⟨_, rfl, Pks_nil _ _, I.out.below⟩
 have g2 : (ki == 2) = false := beq_eq_false_iff_ne.mpr k2
 have g5 : (ki == 5) = false := beq_eq_false_iff_ne.mpr k5
 have g6 : (ki == 6) = false := beq_eq_false_iff_ne.mpr k6
 have eF : recvF (⟨pc, h, 4, pxid, sv, ⟨v6, hi, lo⟩, t1, t2, un, se, at_⟩ : Stn) ki pxid psv pc ⟨v2, hi2, lo2⟩ n u1 u2 ok now = (⟨pc, h, 4, pxid, sv, ⟨v6, hi, lo⟩, t1, t2, un, se, at_⟩, []) := by unfold recvF; rw [if_neg (fun hq => hq ⟨rfl, rfl⟩), if_neg (fun hq => k2 hq.1), if_neg (fun hq => k5 hq.1), if_neg (fun hq => k6 hq.1)]
 show Calls Tryz.prog 12 #[.agg (stC pc h 4 pxid sv v6 hi lo t1 t2 un se at_), .agg (pkC ki pxid psv pc a4.f0 a4.f1 a4.f2 v2 hi2 lo2 a6.f0 a6.f1 a6.f2 hr_ (.slice A l.length cc)), .int .i64 now] w (Ret (recvF (⟨pc, h, 4, pxid, sv, ⟨v6, hi, lo⟩, t1, t2, un, se, at_⟩ : Stn) ki pxid psv pc ⟨v2, hi2, lo2⟩ n u1 u2 ok now) w)
 rw [eF]
 clear eF
 have I := Aside0.mk (Inv.start0 (w0 := w))
 go_enter Tryz.func12, Tryz.ntmps12
 go_wp2_with (first
  | (refine gB rfl ?_; refine bk rfl rfl rfl I ?_; clear I; intro gb w1 I)
  | (refine ak rfl (al_R rfl) I ?_; clear I; intro gb w1 I)
  | (refine ak rfl (al_A rfl) I ?_; clear I; intro gb w1 I)
  | (refine ak rfl (al_P rfl) I ?_; clear I; intro gb w1 I)
  | (refine gD 13 rfl ?_; refine ll rfl rfl rfl I mm1 ld_pk1 ?_)
  | (refine gD 15 rfl ?_; refine ll rfl rfl rfl I mm2 ld_st3 ?_)
  | (refine gD 19 rfl ?_; refine ll rfl rfl rfl I mm1 ld_pk3 ?_)
  | (refine gD 21 rfl ?_; refine ll rfl rfl rfl I mm2 ld_st0 ?_)
  | (refine gD 26 rfl ?_; refine ll rfl rfl rfl I mm2 ld_st2 ?_)
  | (refine gD 30 rfl ?_; refine ll rfl rfl rfl I mm2 ld_st2 ?_)
  | (refine gD 41 rfl ?_; refine ll rfl rfl rfl I mm2 ld_pk0 ?_)
  | (refine gD 85 rfl ?_; refine ll rfl rfl rfl I mm2 ld_pk0 ?_)
  | (refine gD 95 rfl ?_; refine ll rfl rfl rfl I mm2 ld_pk0 ?_)
  | (refine gD 102 rfl ?_; refine ll rfl rfl rfl I mm3 ld_stR ?_)
  | (refine gS rfl ?_; refine sk rfl rfl rfl rfl rfl I zm (by first | exact sr_ad | exact sr_stR) zu ?_; clear I; intro w1 I)
  )
 refine bodyPost_ret (ret_ct rfl _ I.out _ rfl zm Tryz.underlying32 rfl kk) rfl ?_
 exact ⟨_, rfl, Pks_nil _ _, I.out.below⟩
theorem rrecv_5 (s : Stn) (p : S38) (A : Option Addr) (cc : Nat) (n u1 u2 : Int) (ok : Bool) (now : Int) (bw : Bool) (w : World) (hst : 0 ≤ s.st ∧ s.st ≤ 5) (hx0 : 0 ≤ s.xid) (hs : (0 ≤ s.se ∧ s.se ≤ 4294967295)) (hr : Kd.C k62 w A p.f8.length p.f8) (hc : p.f8.length ≤ cc) (hL : ddiref36_Lease.f 1000 p.f0 p.f1 p.f2 p.f3 p.f4.f0 p.f4.f1 p.f4.f2 p.f5.f0 p.f5.f1 p.f5.f2 p.f6.f0 p.f6.f1 p.f6.f2 p.f7 p.f8 = some (n, u1, u2, ok)) (hn : ok = true → 0 ≤ u1 ∧ u1 ≤ u2 ∧ u2 ≤ n ∧ n ≤ 4294967295) (hW : ddiref35_Value.f 1000 [p.f5] = some (wantF p.f5, bw)) (hp : p.f1 = s.xid) (hq : p.f3 = s.c) (hv : s.st = 5) : Calls Tryz.prog 12 #[.agg (stA s), .agg (pkOf p (.slice A p.f8.length cc)), .int .i64 now] w (Ret (recvF s p.f0 p.f1 p.f2 p.f3 p.f5 n u1 u2 ok now) w) := by
 have hu32 := Tryz.underlying32
 have hu26 := Tryz.underlying28
 have hu39 := Tryz.underlying38
 have hu24 := Tryz.underlying26
 obtain ⟨c, h, st, xid, sv, ⟨v6, hi, lo⟩, t1, t2, un, se, at_⟩ := s
 obtain ⟨ki, pxid, psv, pc, a4, ⟨v2, hi2, lo2⟩, a6, hr_, l⟩ := p
 replace hst : 0 ≤ st ∧ st ≤ 5 := hst
 replace hs : (0 ≤ se ∧ se ≤ 4294967295) := hs
 replace hx0 : 0 ≤ xid := hx0
 have hL := Aside0.mk hL
 have hr := Aside0.mk hr
 have hc := Aside0.mk hc
 have hn := Aside0.mk hn
 have hW := Aside0.mk hW
 replace hp : pxid = xid := hp
 subst hp
 replace hq : pc = c := hq
 subst hq
 replace hv : st = 5 := hv
 subst hv
 clear hst
 by_cases k2 : ki = 2
 · subst k2
   have eF : recvF (⟨pc, h, 5, pxid, sv, ⟨v6, hi, lo⟩, t1, t2, un, se, at_⟩ : Stn) 2 pxid psv pc ⟨v2, hi2, lo2⟩ n u1 u2 ok now = (⟨pc, h, 5, pxid, sv, ⟨v6, hi, lo⟩, t1, t2, un, se, at_⟩, []) := by unfold recvF; rw [if_neg (fun hq => hq ⟨rfl, rfl⟩), if_neg (fun hq => absurd hq.2 (by show ¬ ((5 : Int) = 1); decide)), if_neg (fun hq => absurd hq.1 (by decide)), if_neg (fun hq => absurd hq.1 (by decide))]
   show Calls Tryz.prog 12 #[.agg (stC pc h 5 pxid sv v6 hi lo t1 t2 un se at_), .agg (pkC 2 pxid psv pc a4.f0 a4.f1 a4.f2 v2 hi2 lo2 a6.f0 a6.f1 a6.f2 hr_ (.slice A l.length cc)), .int .i64 now] w (Ret (recvF (⟨pc, h, 5, pxid, sv, ⟨v6, hi, lo⟩, t1, t2, un, se, at_⟩ : Stn) 2 pxid psv pc ⟨v2, hi2, lo2⟩ n u1 u2 ok now) w)
   rw [eF]
   clear eF
   have I := Aside0.mk (Inv.start0 (w0 := w))
   go_enter Tryz.func12, Tryz.ntmps12
   go_wp2_with (first
    | (refine gB rfl ?_; refine bk rfl rfl rfl I ?_; clear I; intro gb w1 I)
    | (refine ak rfl (al_R rfl) I ?_; clear I; intro gb w1 I)
    | (refine ak rfl (al_A rfl) I ?_; clear I; intro gb w1 I)
    | (refine ak rfl (al_P rfl) I ?_; clear I; intro gb w1 I)
    | (refine gD 13 rfl ?_; refine ll rfl rfl rfl I mm1 ld_pk1 ?_)
    | (refine gD 15 rfl ?_; refine ll rfl rfl rfl I mm2 ld_st3 ?_)
    | (refine gD 19 rfl ?_; refine ll rfl rfl rfl I mm1 ld_pk3 ?_)
    | (refine gD 21 rfl ?_; refine ll rfl rfl rfl I mm2 ld_st0 ?_)
    | (refine gD 26 rfl ?_; refine ll rfl rfl rfl I mm2 ld_st2 ?_)
    | (refine gD 30 rfl ?_; refine ll rfl rfl rfl I mm2 ld_st2 ?_)
    | (refine gD 35 rfl ?_; refine ll rfl rfl rfl I mm2 ld_st2 ?_)
    | (refine gD 41 rfl ?_; refine ll rfl rfl rfl I mm2 ld_pk0 ?_)
    | (refine gD 45 rfl ?_; refine ll rfl rfl rfl I mm3 ld_st2 ?_)
    | (refine gD 85 rfl ?_; refine ll rfl rfl rfl I mm2 ld_pk0 ?_)
    | (refine gD 95 rfl ?_; refine ll rfl rfl rfl I mm2 ld_pk0 ?_)
    | (refine gD 102 rfl ?_; refine ll rfl rfl rfl I mm3 ld_stR ?_)
    | (refine gS rfl ?_; refine sk rfl rfl rfl rfl rfl I zm (by first | exact sr_ad | exact sr_stR) zu ?_; clear I; intro w1 I)
    )
   refine bodyPost_ret (ret_ct rfl _ I.out _ rfl zm Tryz.underlying32 rfl kk) rfl ?_
   exact ⟨_, rfl, Pks_nil _ _, I.out.below⟩
 by_cases k5 : ki = 5
 · subst k5
   have eF : recvF (⟨pc, h, 5, pxid, sv, ⟨v6, hi, lo⟩, t1, t2, un, se, at_⟩ : Stn) 5 pxid psv pc ⟨v2, hi2, lo2⟩ n u1 u2 ok now = (ackF ⟨pc, h, 5, pxid, sv, ⟨v6, hi, lo⟩, t1, t2, un, se, at_⟩ psv ⟨v2, hi2, lo2⟩ n u1 u2 ok, []) := by unfold recvF; rw [if_neg (fun hq => hq ⟨rfl, rfl⟩), if_neg (fun hq => absurd hq.1 (by decide)), if_pos ⟨rfl, by show (5 : Int) = 2 ∨ (5 : Int) = 4 ∨ (5 : Int) = 5; decide⟩]
   show Calls Tryz.prog 12 #[.agg (stC pc h 5 pxid sv v6 hi lo t1 t2 un se at_), .agg (pkC 5 pxid psv pc a4.f0 a4.f1 a4.f2 v2 hi2 lo2 a6.f0 a6.f1 a6.f2 hr_ (.slice A l.length cc)), .int .i64 now] w (Ret (recvF (⟨pc, h, 5, pxid, sv, ⟨v6, hi, lo⟩, t1, t2, un, se, at_⟩ : Stn) 5 pxid psv pc ⟨v2, hi2, lo2⟩ n u1 u2 ok now) w)
   rw [eF]
   clear eF
   have I := Aside0.mk (Inv.start0 (w0 := w))
   go_enter Tryz.func12, Tryz.ntmps12
   go_wp2_with (first
    | (refine gB rfl ?_; refine bk rfl rfl rfl I ?_; clear I; intro gb w1 I)
    | (refine ak rfl (al_R rfl) I ?_; clear I; intro gb w1 I)
    | (refine ak rfl (al_A rfl) I ?_; clear I; intro gb w1 I)
    | (refine ak rfl (al_P rfl) I ?_; clear I; intro gb w1 I)
    | (refine gD 13 rfl ?_; refine ll rfl rfl rfl I mm1 ld_pk1 ?_)
    | (refine gD 15 rfl ?_; refine ll rfl rfl rfl I mm2 ld_st3 ?_)
    | (refine gD 19 rfl ?_; refine ll rfl rfl rfl I mm1 ld_pk3 ?_)
    | (refine gD 21 rfl ?_; refine ll rfl rfl rfl I mm2 ld_st0 ?_)
    | (refine gD 26 rfl ?_; refine ll rfl rfl rfl I mm2 ld_st2 ?_)
    | (refine gD 30 rfl ?_; refine ll rfl rfl rfl I mm2 ld_st2 ?_)
    | (refine gD 35 rfl ?_; refine ll rfl rfl rfl I mm2 ld_st2 ?_)
    | (refine gD 41 rfl ?_; refine ll rfl rfl rfl I mm2 ld_pk0 ?_)
    | (refine gD 85 rfl ?_; refine ll rfl rfl rfl I mm2 ld_pk0 ?_)
    | (refine gD 90 rfl ?_; refine ll rfl rfl rfl I mm3 ld_stR ?_)
    | (refine gD 91 rfl ?_; refine ll rfl rfl rfl I mm2 ld_pk ?_)
    | (refine gD 92 rfl ?_; refine ck rfl Tryz.func42 kk rfl #[.agg (stC pc h 5 pxid sv v6 hi lo t1 t2 un se at_), .agg (pkC 5 pxid psv pc a4.f0 a4.f1 a4.f2 v2 hi2 lo2 a6.f0 a6.f1 a6.f2 hr_ (.slice A l.length cc))] rfl zh (bound_c (⟨pc, h, 5, pxid, sv, ⟨v6, hi, lo⟩, t1, t2, un, se, at_⟩ : Stn) (⟨5, pxid, psv, pc, a4, ⟨v2, hi2, lo2⟩, a6, hr_, l⟩ : S38) A cc n u1 u2 ok _ hs (Kd.C_below hr.out I.out.below) hc.out hL.out hn.out) ?_; rintro e_ w1 ⟨rfl, hb⟩; refine ⟨_, rfl, ?_⟩; replace I := callK I hb; clear hb)
    | (refine gS rfl ?_; refine sk rfl rfl rfl rfl rfl I zm (by first | exact sr_ad | exact sr_stAR) zu ?_; clear I; intro w1 I)
    )
   refine bodyPost_ret (ret_ct rfl _ I.out _ rfl zm Tryz.underlying32 rfl kk) rfl ?_
   exact ⟨_, rfl, Pks_nil _ _, I.out.below⟩
 by_cases k6 : ki = 6
 · subst k6
   have eF : recvF (⟨pc, h, 5, pxid, sv, ⟨v6, hi, lo⟩, t1, t2, un, se, at_⟩ : Stn) 6 pxid psv pc ⟨v2, hi2, lo2⟩ n u1 u2 ok now = (initF ⟨pc, h, 5, pxid, sv, ⟨v6, hi, lo⟩, t1, t2, un, se, at_⟩, []) := by unfold recvF; rw [if_neg (fun hq => hq ⟨rfl, rfl⟩), if_neg (fun hq => absurd hq.1 (by decide)), if_neg (fun hq => absurd hq.1 (by decide)), if_pos ⟨rfl, by show (5 : Int) = 2 ∨ (5 : Int) = 4 ∨ (5 : Int) = 5; decide⟩]
   show Calls Tryz.prog 12 #[.agg (stC pc h 5 pxid sv v6 hi lo t1 t2 un se at_), .agg (pkC 6 pxid psv pc a4.f0 a4.f1 a4.f2 v2 hi2 lo2 a6.f0 a6.f1 a6.f2 hr_ (.slice A l.length cc)), .int .i64 now] w (Ret (recvF (⟨pc, h, 5, pxid, sv, ⟨v6, hi, lo⟩, t1, t2, un, se, at_⟩ : Stn) 6 pxid psv pc ⟨v2, hi2, lo2⟩ n u1 u2 ok now) w)
   rw [eF]
   clear eF
   have I := Aside0.mk (Inv.start0 (w0 := w))
   go_enter Tryz.func12, Tryz.ntmps12
   go_wp2_with (first
    | (refine gB rfl ?_; refine bk rfl rfl rfl I ?_; clear I; intro gb w1 I)
    | (refine ak rfl (al_R rfl) I ?_; clear I; intro gb w1 I)
    | (refine ak rfl (al_A rfl) I ?_; clear I; intro gb w1 I)
    | (refine ak rfl (al_P rfl) I ?_; clear I; intro gb w1 I)
    | (refine gD 13 rfl ?_; refine ll rfl rfl rfl I mm1 ld_pk1 ?_)
    | (refine gD 15 rfl ?_; refine ll rfl rfl rfl I mm2 ld_st3 ?_)
    | (refine gD 19 rfl ?_; refine ll rfl rfl rfl I mm1 ld_pk3 ?_)
    | (refine gD 21 rfl ?_; refine ll rfl rfl rfl I mm2 ld_st0 ?_)
    | (refine gD 26 rfl ?_; refine ll rfl rfl rfl I mm2 ld_st2 ?_)
    | (refine gD 30 rfl ?_; refine ll rfl rfl rfl I mm2 ld_st2 ?_)
    | (refine gD 35 rfl ?_; refine ll rfl rfl rfl I mm2 ld_st2 ?_)
    | (refine gD 41 rfl ?_; refine ll rfl rfl rfl I mm2 ld_pk0 ?_)
    | (refine gD 85 rfl ?_; refine ll rfl rfl rfl I mm2 ld_pk0 ?_)
    | (refine gD 95 rfl ?_; refine ll rfl rfl rfl I mm2 ld_pk0 ?_)
    | (refine gD 100 rfl ?_; refine ll rfl rfl rfl I mm3 ld_stR ?_)
    | (refine gD 101 rfl ?_; refine ck rfl Tryz.func43 kk rfl #[.agg (stC pc h 5 pxid sv v6 hi lo t1 t2 un se at_)] rfl zh (rinit_c pc h 5 pxid sv v6 hi lo t1 t2 un se at_ _) ?_; rintro e_ w1 ⟨rfl, hb⟩; refine ⟨_, rfl, ?_⟩; replace I := callK I hb; clear hb)
    | (refine gS rfl ?_; refine sk rfl rfl rfl rfl rfl I zm (by first | exact sr_ad | exact sr_stR) zu ?_; clear I; intro w1 I)
    )
   refine bodyPost_ret (ret_ct rfl _ I.out _ rfl zm Tryz.underlying32 rfl kk) rfl ?_
   exact ⟨_, rfl, Pks_nil _ _, I.out.below⟩
 have g2 : (ki == 2) = false := beq_eq_false_iff_ne.mpr k2
 have g5 : (ki == 5) = false := beq_eq_false_iff_ne.mpr k5
 have g6 : (ki == 6) = false := beq_eq_false_iff_ne.mpr k6
 have eF : recvF (⟨pc, h, 5, pxid, sv, ⟨v6, hi, lo⟩, t1, t2, un, se, at_⟩ : Stn) ki pxid psv pc ⟨v2, hi2, lo2⟩ n u1 u2 ok now = (⟨pc, h, 5, pxid, sv, ⟨v6, hi, lo⟩, t1, t2, un, se, at_⟩, []) := by unfold recvF; rw [if_neg (fun hq => hq ⟨rfl, rfl⟩), if_neg (fun hq => k2 hq.1), if_neg (fun hq => k5 hq.1), if_neg (fun hq => k6 hq.1)]
 show Calls Tryz.prog 12 #[.agg (stC pc h 5 pxid sv v6 hi lo t1 t2 un se at_), .agg (pkC ki pxid psv pc a4.f0 a4.f1 a4.f2 v2 hi2 lo2 a6.f0 a6.f1 a6.f2 hr_ (.slice A l.length cc)), .int .i64 now] w (Ret (recvF (⟨pc, h, 5, pxid, sv, ⟨v6, hi, lo⟩, t1, t2, un, se, at_⟩ : Stn) ki pxid psv pc ⟨v2, hi2, lo2⟩ n u1 u2 ok now) w)
 rw [eF]
 clear eF
 have I := Aside0.mk (Inv.start0 (w0 := w))
 go_enter Tryz.func12, Tryz.ntmps12
 go_wp2_with (first
  | (refine gB rfl ?_; refine bk rfl rfl rfl I ?_; clear I; intro gb w1 I)
  | (refine ak rfl (al_R rfl) I ?_; clear I; intro gb w1 I)
  | (refine ak rfl (al_A rfl) I ?_; clear I; intro gb w1 I)
  | (refine ak rfl (al_P rfl) I ?_; clear I; intro gb w1 I)
  | (refine gD 13 rfl ?_; refine ll rfl rfl rfl I mm1 ld_pk1 ?_)
  | (refine gD 15 rfl ?_; refine ll rfl rfl rfl I mm2 ld_st3 ?_)
  | (refine gD 19 rfl ?_; refine ll rfl rfl rfl I mm1 ld_pk3 ?_)
  | (refine gD 21 rfl ?_; refine ll rfl rfl rfl I mm2 ld_st0 ?_)
  | (refine gD 26 rfl ?_; refine ll rfl rfl rfl I mm2 ld_st2 ?_)
  | (refine gD 30 rfl ?_; refine ll rfl rfl rfl I mm2 ld_st2 ?_)
  | (refine gD 35 rfl ?_; refine ll rfl rfl rfl I mm2 ld_st2 ?_)
  | (refine gD 41 rfl ?_; refine ll rfl rfl rfl I mm2 ld_pk0 ?_)
  | (refine gD 85 rfl ?_; refine ll rfl rfl rfl I mm2 ld_pk0 ?_)
  | (refine gD 95 rfl ?_; refine ll rfl rfl rfl I mm2 ld_pk0 ?_)
  | (refine gD 102 rfl ?_; refine ll rfl rfl rfl I mm3 ld_stR ?_)
  | (refine gS rfl ?_; refine sk rfl rfl rfl rfl rfl I zm (by first | exact sr_ad | exact sr_stR) zu ?_; clear I; intro w1 I)
  )
 refine bodyPost_ret (ret_ct rfl _ I.out _ rfl zm Tryz.underlying32 rfl kk) rfl ?_
 exact ⟨_, rfl, Pks_nil _ _, I.out.below⟩
theorem rrecv_o (s : Stn) (p : S38) (A : Option Addr) (cc : Nat) (n u1 u2 : Int) (ok : Bool) (now : Int) (bw : Bool) (w : World) (hst : 0 ≤ s.st ∧ s.st ≤ 5) (hx0 : 0 ≤ s.xid) (hs : (0 ≤ s.se ∧ s.se ≤ 4294967295)) (hr : Kd.C k62 w A p.f8.length p.f8) (hc : p.f8.length ≤ cc) (hL : ddiref36_Lease.f 1000 p.f0 p.f1 p.f2 p.f3 p.f4.f0 p.f4.f1 p.f4.f2 p.f5.f0 p.f5.f1 p.f5.f2 p.f6.f0 p.f6.f1 p.f6.f2 p.f7 p.f8 = some (n, u1, u2, ok)) (hn : ok = true → 0 ≤ u1 ∧ u1 ≤ u2 ∧ u2 ≤ n ∧ n ≤ 4294967295) (hW : ddiref35_Value.f 1000 [p.f5] = some (wantF p.f5, bw)) (hp : p.f1 = s.xid) (hq : p.f3 = s.c) (n2 : ¬ s.st = 2) (n4 : ¬ s.st = 4) (n5 : ¬ s.st = 5) (n1 : ¬ (p.f0 = 2 ∧ s.st = 1)) : Calls Tryz.prog 12 #[.agg (stA s), .agg (pkOf p (.slice A p.f8.length cc)), .int .i64 now] w (Ret (recvF s p.f0 p.f1 p.f2 p.f3 p.f5 n u1 u2 ok now) w) := by
 have hu32 := Tryz.underlying32
 have hu26 := Tryz.underlying28
 have hu39 := Tryz.underlying38
 have hu24 := Tryz.underlying26
 obtain ⟨c, h, st, xid, sv, ⟨v6, hi, lo⟩, t1, t2, un, se, at_⟩ := s
 obtain ⟨ki, pxid, psv, pc, a4, ⟨v2, hi2, lo2⟩, a6, hr_, l⟩ := p
 replace hst : 0 ≤ st ∧ st ≤ 5 := hst
 replace hs : (0 ≤ se ∧ se ≤ 4294967295) := hs
 replace hx0 : 0 ≤ xid := hx0
 have hL := Aside0.mk hL
 have hr := Aside0.mk hr
 have hc := Aside0.mk hc
 have hn := Aside0.mk hn
 have hW := Aside0.mk hW
 replace hp : pxid = xid := hp
 subst hp
 replace hq : pc = c := hq
 subst hq
 replace n2 : ¬ st = 2 := n2
 replace n4 : ¬ st = 4 := n4
 replace n5 : ¬ st = 5 := n5
 have e2 : (st == 2) = false := beq_eq_false_iff_ne.mpr n2
 have e4 : (st == 4) = false := beq_eq_false_iff_ne.mpr n4
 have e5 : (st == 5) = false := beq_eq_false_iff_ne.mpr n5
 clear hst
 by_cases k2 : ki = 2
 · subst k2
   replace n1 : ¬ st = 1 := fun h => n1 ⟨rfl, h⟩
   have e1 : (st == 1) = false := beq_eq_false_iff_ne.mpr n1
   have eF : recvF (⟨pc, h, st, pxid, sv, ⟨v6, hi, lo⟩, t1, t2, un, se, at_⟩ : Stn) 2 pxid psv pc ⟨v2, hi2, lo2⟩ n u1 u2 ok now = (⟨pc, h, st, pxid, sv, ⟨v6, hi, lo⟩, t1, t2, un, se, at_⟩, []) := by unfold recvF; rw [if_neg (fun hq => hq ⟨rfl, rfl⟩), if_neg (fun hq => n1 hq.2), if_neg (fun hq => absurd hq.1 (by decide)), if_neg (fun hq => absurd hq.1 (by decide))]
   show Calls Tryz.prog 12 #[.agg (stC pc h st pxid sv v6 hi lo t1 t2 un se at_), .agg (pkC 2 pxid psv pc a4.f0 a4.f1 a4.f2 v2 hi2 lo2 a6.f0 a6.f1 a6.f2 hr_ (.slice A l.length cc)), .int .i64 now] w (Ret (recvF (⟨pc, h, st, pxid, sv, ⟨v6, hi, lo⟩, t1, t2, un, se, at_⟩ : Stn) 2 pxid psv pc ⟨v2, hi2, lo2⟩ n u1 u2 ok now) w)
   rw [eF]
   clear eF
   have I := Aside0.mk (Inv.start0 (w0 := w))
   go_enter Tryz.func12, Tryz.ntmps12
   go_wp2_with (first
    | (refine gB rfl ?_; refine bk rfl rfl rfl I ?_; clear I; intro gb w1 I)
    | (refine ak rfl (al_R rfl) I ?_; clear I; intro gb w1 I)
    | (refine ak rfl (al_A rfl) I ?_; clear I; intro gb w1 I)
    | (refine ak rfl (al_P rfl) I ?_; clear I; intro gb w1 I)
    | (refine gD 13 rfl ?_; refine ll rfl rfl rfl I mm1 ld_pk1 ?_)
    | (refine gD 15 rfl ?_; refine ll rfl rfl rfl I mm2 ld_st3 ?_)
    | (refine gD 19 rfl ?_; refine ll rfl rfl rfl I mm1 ld_pk3 ?_)
    | (refine gD 21 rfl ?_; refine ll rfl rfl rfl I mm2 ld_st0 ?_)
    | (refine gD 26 rfl ?_; refine ll rfl rfl rfl I mm2 ld_st2 ?_)
    | (refine gD 30 rfl ?_; refine ll rfl rfl rfl I mm2 ld_st2 ?_)
    | (refine gD 35 rfl ?_; refine ll rfl rfl rfl I mm2 ld_st2 ?_)
    | (refine gD 41 rfl ?_; refine ll rfl rfl rfl I mm2 ld_pk0 ?_)
    | (refine gD 45 rfl ?_; refine ll rfl rfl rfl I mm3 ld_st2 ?_)
    | (refine gD 85 rfl ?_; refine ll rfl rfl rfl I mm2 ld_pk0 ?_)
    | (refine gD 95 rfl ?_; refine ll rfl rfl rfl I mm2 ld_pk0 ?_)
    | (refine gD 102 rfl ?_; refine ll rfl rfl rfl I mm3 ld_stR ?_)
    | (refine gS rfl ?_; refine sk rfl rfl rfl rfl rfl I zm (by first | exact sr_ad | exact sr_stR) zu ?_; clear I; intro w1 I)
    )
   refine bodyPost_ret (ret_ct rfl _ I.out _ rfl zm Tryz.underlying32 rfl kk) rfl ?_
   exact ⟨_, rfl, Pks_nil _ _, I.out.below⟩
 by_cases k5 : ki = 5
 · subst k5
   have eF : recvF (⟨pc, h, st, pxid, sv, ⟨v6, hi, lo⟩, t1, t2, un, se, at_⟩ : Stn) 5 pxid psv pc ⟨v2, hi2, lo2⟩ n u1 u2 ok now = (⟨pc, h, st, pxid, sv, ⟨v6, hi, lo⟩, t1, t2, un, se, at_⟩, []) := by unfold recvF; rw [if_neg (fun hq => hq ⟨rfl, rfl⟩), if_neg (fun hq => absurd hq.1 (by decide)), if_neg (fun hq => hq.2.elim n2 (fun hq => hq.elim n4 n5)), if_neg (fun hq => absurd hq.1 (by decide))]
   show Calls Tryz.prog 12 #[.agg (stC pc h st pxid sv v6 hi lo t1 t2 un se at_), .agg (pkC 5 pxid psv pc a4.f0 a4.f1 a4.f2 v2 hi2 lo2 a6.f0 a6.f1 a6.f2 hr_ (.slice A l.length cc)), .int .i64 now] w (Ret (recvF (⟨pc, h, st, pxid, sv, ⟨v6, hi, lo⟩, t1, t2, un, se, at_⟩ : Stn) 5 pxid psv pc ⟨v2, hi2, lo2⟩ n u1 u2 ok now) w)
   rw [eF]
   clear eF
   have I := Aside0.mk (Inv.start0 (w0 := w))
   go_enter Tryz.func12, Tryz.ntmps12
   go_wp2_with (first
    | (refine gB rfl ?_; refine bk rfl rfl rfl I ?_; clear I; intro gb w1 I)
    | (refine ak rfl (al_R rfl) I ?_; clear I; intro gb w1 I)
    | (refine ak rfl (al_A rfl) I ?_; clear I; intro gb w1 I)
    | (refine ak rfl (al_P rfl) I ?_; clear I; intro gb w1 I)
    | (refine gD 13 rfl ?_; refine ll rfl rfl rfl I mm1 ld_pk1 ?_)
    | (refine gD 15 rfl ?_; refine ll rfl rfl rfl I mm2 ld_st3 ?_)
    | (refine gD 19 rfl ?_; refine ll rfl rfl rfl I mm1 ld_pk3 ?_)
    | (refine gD 21 rfl ?_; refine ll rfl rfl rfl I mm2 ld_st0 ?_)
    | (refine gD 26 rfl ?_; refine ll rfl rfl rfl I mm2 ld_st2 ?_)
    | (refine gD 30 rfl ?_; refine ll rfl rfl rfl I mm2 ld_st2 ?_)
    | (refine gD 35 rfl ?_; refine ll rfl rfl rfl I mm2 ld_st2 ?_)
    | (refine gD 41 rfl ?_; refine ll rfl rfl rfl I mm2 ld_pk0 ?_)
    | (refine gD 85 rfl ?_; refine ll rfl rfl rfl I mm2 ld_pk0 ?_)
    | (refine gD 95 rfl ?_; refine ll rfl rfl rfl I mm2 ld_pk0 ?_)
    | (refine gD 102 rfl ?_; refine ll rfl rfl rfl I mm3 ld_stR ?_)
    | (refine gS rfl ?_; refine sk rfl rfl rfl rfl rfl I zm (by first | exact sr_ad | exact sr_stR) zu ?_; clear I; intro w1 I)
    )
   refine bodyPost_ret (ret_ct rfl _ I.out _ rfl zm Tryz.underlying32 rfl kk) rfl ?_
   exact ⟨_, rfl, Pks_nil _ _, I.out.below⟩
 by_cases k6 : ki = 6
 · subst k6
   have eF : recvF (⟨pc, h, st, pxid, sv, ⟨v6, hi, lo⟩, t1, t2, un, se, at_⟩ : Stn) 6 pxid psv pc ⟨v2, hi2, lo2⟩ n u1 u2 ok now = (⟨pc, h, st, pxid, sv, ⟨v6, hi, lo⟩, t1, t2, un, se, at_⟩, []) := by unfold recvF; rw [if_neg (fun hq => hq ⟨rfl, rfl⟩), if_neg (fun hq => absurd hq.1 (by decide)), if_neg (fun hq => absurd hq.1 (by decide)), if_neg (fun hq => hq.2.elim n2 (fun hq => hq.elim n4 n5))]
   show Calls Tryz.prog 12 #[.agg (stC pc h st pxid sv v6 hi lo t1 t2 un se at_), .agg (pkC 6 pxid psv pc a4.f0 a4.f1 a4.f2 v2 hi2 lo2 a6.f0 a6.f1 a6.f2 hr_ (.slice A l.length cc)), .int .i64 now] w (Ret (recvF (⟨pc, h, st, pxid, sv, ⟨v6, hi, lo⟩, t1, t2, un, se, at_⟩ : Stn) 6 pxid psv pc ⟨v2, hi2, lo2⟩ n u1 u2 ok now) w)
   rw [eF]
   clear eF
   have I := Aside0.mk (Inv.start0 (w0 := w))
   go_enter Tryz.func12, Tryz.ntmps12
   go_wp2_with (first
    | (refine gB rfl ?_; refine bk rfl rfl rfl I ?_; clear I; intro gb w1 I)
    | (refine ak rfl (al_R rfl) I ?_; clear I; intro gb w1 I)
    | (refine ak rfl (al_A rfl) I ?_; clear I; intro gb w1 I)
    | (refine ak rfl (al_P rfl) I ?_; clear I; intro gb w1 I)
    | (refine gD 13 rfl ?_; refine ll rfl rfl rfl I mm1 ld_pk1 ?_)
    | (refine gD 15 rfl ?_; refine ll rfl rfl rfl I mm2 ld_st3 ?_)
    | (refine gD 19 rfl ?_; refine ll rfl rfl rfl I mm1 ld_pk3 ?_)
    | (refine gD 21 rfl ?_; refine ll rfl rfl rfl I mm2 ld_st0 ?_)
    | (refine gD 26 rfl ?_; refine ll rfl rfl rfl I mm2 ld_st2 ?_)
    | (refine gD 30 rfl ?_; refine ll rfl rfl rfl I mm2 ld_st2 ?_)
    | (refine gD 35 rfl ?_; refine ll rfl rfl rfl I mm2 ld_st2 ?_)
    | (refine gD 41 rfl ?_; refine ll rfl rfl rfl I mm2 ld_pk0 ?_)
    | (refine gD 85 rfl ?_; refine ll rfl rfl rfl I mm2 ld_pk0 ?_)
    | (refine gD 95 rfl ?_; refine ll rfl rfl rfl I mm2 ld_pk0 ?_)
    | (refine gD 102 rfl ?_; refine ll rfl rfl rfl I mm3 ld_stR ?_)
    | (refine gS rfl ?_; refine sk rfl rfl rfl rfl rfl I zm (by first | exact sr_ad | exact sr_stR) zu ?_; clear I; intro w1 I)
    )
   refine bodyPost_ret (ret_ct rfl _ I.out _ rfl zm Tryz.underlying32 rfl kk) rfl ?_
   exact ⟨_, rfl, Pks_nil _ _, I.out.below⟩
 have g2 : (ki == 2) = false := beq_eq_false_iff_ne.mpr k2
 have g5 : (ki == 5) = false := beq_eq_false_iff_ne.mpr k5
 have g6 : (ki == 6) = false := beq_eq_false_iff_ne.mpr k6
 have eF : recvF (⟨pc, h, st, pxid, sv, ⟨v6, hi, lo⟩, t1, t2, un, se, at_⟩ : Stn) ki pxid psv pc ⟨v2, hi2, lo2⟩ n u1 u2 ok now = (⟨pc, h, st, pxid, sv, ⟨v6, hi, lo⟩, t1, t2, un, se, at_⟩, []) := by unfold recvF; rw [if_neg (fun hq => hq ⟨rfl, rfl⟩), if_neg (fun hq => k2 hq.1), if_neg (fun hq => k5 hq.1), if_neg (fun hq => k6 hq.1)]
 show Calls Tryz.prog 12 #[.agg (stC pc h st pxid sv v6 hi lo t1 t2 un se at_), .agg (pkC ki pxid psv pc a4.f0 a4.f1 a4.f2 v2 hi2 lo2 a6.f0 a6.f1 a6.f2 hr_ (.slice A l.length cc)), .int .i64 now] w (Ret (recvF (⟨pc, h, st, pxid, sv, ⟨v6, hi, lo⟩, t1, t2, un, se, at_⟩ : Stn) ki pxid psv pc ⟨v2, hi2, lo2⟩ n u1 u2 ok now) w)
 rw [eF]
 clear eF
 have I := Aside0.mk (Inv.start0 (w0 := w))
 go_enter Tryz.func12, Tryz.ntmps12
 go_wp2_with (first
  | (refine gB rfl ?_; refine bk rfl rfl rfl I ?_; clear I; intro gb w1 I)
  | (refine ak rfl (al_R rfl) I ?_; clear I; intro gb w1 I)
  | (refine ak rfl (al_A rfl) I ?_; clear I; intro gb w1 I)
  | (refine ak rfl (al_P rfl) I ?_; clear I; intro gb w1 I)
  | (refine gD 13 rfl ?_; refine ll rfl rfl rfl I mm1 ld_pk1 ?_)
  | (refine gD 15 rfl ?_; refine ll rfl rfl rfl I mm2 ld_st3 ?_)
  | (refine gD 19 rfl ?_; refine ll rfl rfl rfl I mm1 ld_pk3 ?_)
  | (refine gD 21 rfl ?_; refine ll rfl rfl rfl I mm2 ld_st0 ?_)
  | (refine gD 26 rfl ?_; refine ll rfl rfl rfl I mm2 ld_st2 ?_)
  | (refine gD 30 rfl ?_; refine ll rfl rfl rfl I mm2 ld_st2 ?_)
  | (refine gD 35 rfl ?_; refine ll rfl rfl rfl I mm2 ld_st2 ?_)
  | (refine gD 41 rfl ?_; refine ll rfl rfl rfl I mm2 ld_pk0 ?_)
  | (refine gD 85 rfl ?_; refine ll rfl rfl rfl I mm2 ld_pk0 ?_)
  | (refine gD 95 rfl ?_; refine ll rfl rfl rfl I mm2 ld_pk0 ?_)
  | (refine gD 102 rfl ?_; refine ll rfl rfl rfl I mm3 ld_stR ?_)
  | (refine gS rfl ?_; refine sk rfl rfl rfl rfl rfl I zm (by first | exact sr_ad | exact sr_stR) zu ?_; clear I; intro w1 I)
  )
 refine bodyPost_ret (ret_ct rfl _ I.out _ rfl zm Tryz.underlying32 rfl kk) rfl ?_
 exact ⟨_, rfl, Pks_nil _ _, I.out.below⟩
theorem run_eqR {o : Oper} {a : Act} {x y : Operand} {p q : S26} {b : Bool} {w : World} (ho : o.op = .binOp .eql 26 x y 26) (hx : a.eval x = .agg #[.bool p.f0, .int .u64 p.f1, .int .u64 p.f2]) (hy : a.eval y = .agg #[.bool q.f0, .int .u64 q.f1, .int .u64 q.f2]) (hb : (p.f0 == q.f0 && (p.f1 == q.f1 && (p.f2 == q.f2))) = b) : (execOp a.eval o).run Tryz.prog w = .ok (.value (.bool b)) w := by
  subst hb
  unfold execOp
  simp only [ho, hx, hy]
  go_simp
  by_cases h0 : p.f0 = q.f0 <;> by_cases h1 : p.f1 = q.f1 <;> by_cases h2 : p.f2 = q.f2 <;> simp [h0, h1, h2]
theorem off_turn (s : Stn) (psv : Int) (y : S26) (now : Int) (hv : validF y = true) (h6 : y.f0 = false) (hz : ¬ (y.f1 = 0 ∧ y.f2 = 0)) (hx : s.xid < 4294967295) : offF s psv y now = turnF ⟨s.c, s.h, s.st, s.xid, psv, y, s.t1, s.t2, s.un, s.se, s.tr⟩ 2 1 now := by
  unfold offF turnF stepF msgF
  rw [if_pos ⟨hv, h6, hz, hx⟩, if_neg (by decide), if_pos rfl, if_neg (by show ¬ 4294967295 ≤ s.xid; omega)]
theorem rrecv_off (s : Stn) (p : S38) (A : Option Addr) (cc : Nat) (n u1 u2 : Int) (ok : Bool) (now : Int) (bw : Bool) (w : World) (hst : 0 ≤ s.st ∧ s.st ≤ 5) (hx0 : 0 ≤ s.xid) (hs : (0 ≤ s.se ∧ s.se ≤ 4294967295)) (hr : Kd.C k62 w A p.f8.length p.f8) (hc : p.f8.length ≤ cc) (hL : ddiref36_Lease.f 1000 p.f0 p.f1 p.f2 p.f3 p.f4.f0 p.f4.f1 p.f4.f2 p.f5.f0 p.f5.f1 p.f5.f2 p.f6.f0 p.f6.f1 p.f6.f2 p.f7 p.f8 = some (n, u1, u2, ok)) (hn : ok = true → 0 ≤ u1 ∧ u1 ≤ u2 ∧ u2 ≤ n ∧ n ≤ 4294967295) (hW : ddiref35_Value.f 1000 [p.f5] = some (wantF p.f5, bw)) (hp : p.f1 = s.xid) (hq : p.f3 = s.c) (hv : s.st = 1) (hk2 : p.f0 = 2) : Calls Tryz.prog 12 #[.agg (stA s), .agg (pkOf p (.slice A p.f8.length cc)), .int .i64 now] w (Ret (recvF s p.f0 p.f1 p.f2 p.f3 p.f5 n u1 u2 ok now) w) := by
 have hu32 := Tryz.underlying32
 have hu26 := Tryz.underlying28
 have hu39 := Tryz.underlying38
 have hu24 := Tryz.underlying26
 obtain ⟨c, h, st, xid, sv, ⟨v6, hi, lo⟩, t1, t2, un, se, at_⟩ := s
 obtain ⟨ki, pxid, psv, pc, a4, ⟨v2, hi2, lo2⟩, a6, hr_, l⟩ := p
 replace hst : 0 ≤ st ∧ st ≤ 5 := hst
 replace hs : (0 ≤ se ∧ se ≤ 4294967295) := hs
 replace hx0 : 0 ≤ xid := hx0
 have hL := Aside0.mk hL
 have hr := Aside0.mk hr
 have hc := Aside0.mk hc
 have hn := Aside0.mk hn
 have hW := Aside0.mk hW
 replace hp : pxid = xid := hp
 subst hp
 replace hq : pc = c := hq
 subst hq
 replace hv : st = 1 := hv
 subst hv
 replace hk2 : ki = 2 := hk2
 subst hk2
 clear hst
 have hV := rvalidF ⟨v2, hi2, lo2⟩
 replace hV : ddiref02_Valid.f v2 hi2 lo2 = some (validF ⟨v2, hi2, lo2⟩) := hV
 cases hv : validF ⟨v2, hi2, lo2⟩ with
 | false =>
  rw [hv] at hV
  have hV := Aside0.mk hV
  have eF : recvF (⟨pc, h, 1, pxid, sv, ⟨v6, hi, lo⟩, t1, t2, un, se, at_⟩ : Stn) 2 pxid psv pc ⟨v2, hi2, lo2⟩ n u1 u2 ok now = (⟨pc, h, 1, pxid, sv, ⟨v6, hi, lo⟩, t1, t2, un, se, at_⟩, []) := by unfold recvF; rw [if_neg (fun hq => hq ⟨rfl, rfl⟩), if_pos ⟨rfl, rfl⟩]; unfold offF; exact if_neg (fun hq => absurd hq.1 (by rw [hv]; decide))
  show Calls Tryz.prog 12 #[.agg (stC pc h 1 pxid sv v6 hi lo t1 t2 un se at_), .agg (pkC 2 pxid psv pc a4.f0 a4.f1 a4.f2 v2 hi2 lo2 a6.f0 a6.f1 a6.f2 hr_ (.slice A l.length cc)), .int .i64 now] w (Ret (recvF (⟨pc, h, 1, pxid, sv, ⟨v6, hi, lo⟩, t1, t2, un, se, at_⟩ : Stn) 2 pxid psv pc ⟨v2, hi2, lo2⟩ n u1 u2 ok now) w)
  rw [eF]
  clear eF
  have I := Aside0.mk (Inv.start0 (w0 := w))
  go_enter Tryz.func12, Tryz.ntmps12
  go_wp2_with (first
   | (refine gB rfl ?_; refine bk rfl rfl rfl I ?_; clear I; intro gb w1 I)
   | (refine ak rfl (al_R rfl) I ?_; clear I; intro gb w1 I)
   | (refine ak rfl (al_A rfl) I ?_; clear I; intro gb w1 I)
   | (refine ak rfl (al_P rfl) I ?_; clear I; intro gb w1 I)
   | (refine gD 13 rfl ?_; refine ll rfl rfl rfl I mm1 ld_pk1 ?_)
   | (refine gD 15 rfl ?_; refine ll rfl rfl rfl I mm2 ld_st3 ?_)
   | (refine gD 19 rfl ?_; refine ll rfl rfl rfl I mm1 ld_pk3 ?_)
   | (refine gD 21 rfl ?_; refine ll rfl rfl rfl I mm2 ld_st0 ?_)
   | (refine gD 26 rfl ?_; refine ll rfl rfl rfl I mm2 ld_st2 ?_)
   | (refine gD 30 rfl ?_; refine ll rfl rfl rfl I mm2 ld_st2 ?_)
   | (refine gD 35 rfl ?_; refine ll rfl rfl rfl I mm2 ld_st2 ?_)
   | (refine gD 41 rfl ?_; refine ll rfl rfl rfl I mm2 ld_pk0 ?_)
   | (refine gD 45 rfl ?_; refine ll rfl rfl rfl I mm3 ld_st2 ?_)
   | (refine gD 49 rfl ?_; refine ll rfl rfl rfl I mm2 ld_pkA7 ?_)
   | (refine gD 68 rfl ?_; refine ll rfl rfl rfl I mm3 ld_stR ?_)
   | (refine gD 50 rfl ?_; refine ck rfl Tryz.func40 kk rfl #[.agg #[.bool v2, .int .u64 hi2, .int .u64 lo2]] rfl zh (ddiref02_Valid.calls v2 hi2 lo2 false _ hV.out) ?_; rintro e_ w1 ⟨rfl, hb⟩; refine ⟨_, rfl, ?_⟩; replace I := callK I hb; clear hb)
   | (refine gS rfl ?_; refine sk rfl rfl rfl rfl rfl I zm (by first | exact sr_ad | exact sr_stR) zu ?_; clear I; intro w1 I)
   )
  refine bodyPost_ret (ret_ct rfl _ I.out _ rfl zm Tryz.underlying32 rfl kk) rfl ?_
  exact ⟨_, rfl, Pks_nil _ _, I.out.below⟩
 | true =>
  rw [hv] at hV
  have hV := Aside0.mk hV
  cases v2
  case true =>
   have eF : recvF (⟨pc, h, 1, pxid, sv, ⟨v6, hi, lo⟩, t1, t2, un, se, at_⟩ : Stn) 2 pxid psv pc ⟨true, hi2, lo2⟩ n u1 u2 ok now = (⟨pc, h, 1, pxid, sv, ⟨v6, hi, lo⟩, t1, t2, un, se, at_⟩, []) := by unfold recvF; rw [if_neg (fun hq => hq ⟨rfl, rfl⟩), if_pos ⟨rfl, rfl⟩]; unfold offF; exact if_neg (fun hq => Bool.noConfusion (show true = false from hq.2.1))
   show Calls Tryz.prog 12 #[.agg (stC pc h 1 pxid sv v6 hi lo t1 t2 un se at_), .agg (pkC 2 pxid psv pc a4.f0 a4.f1 a4.f2 true hi2 lo2 a6.f0 a6.f1 a6.f2 hr_ (.slice A l.length cc)), .int .i64 now] w (Ret (recvF (⟨pc, h, 1, pxid, sv, ⟨v6, hi, lo⟩, t1, t2, un, se, at_⟩ : Stn) 2 pxid psv pc ⟨true, hi2, lo2⟩ n u1 u2 ok now) w)
   rw [eF]
   clear eF
   have I := Aside0.mk (Inv.start0 (w0 := w))
   go_enter Tryz.func12, Tryz.ntmps12
   go_wp2_with (first
    | (refine gB rfl ?_; refine bk rfl rfl rfl I ?_; clear I; intro gb w1 I)
    | (refine ak rfl (al_R rfl) I ?_; clear I; intro gb w1 I)
    | (refine ak rfl (al_A rfl) I ?_; clear I; intro gb w1 I)
    | (refine ak rfl (al_P rfl) I ?_; clear I; intro gb w1 I)
    | (refine gD 13 rfl ?_; refine ll rfl rfl rfl I mm1 ld_pk1 ?_)
    | (refine gD 15 rfl ?_; refine ll rfl rfl rfl I mm2 ld_st3 ?_)
    | (refine gD 19 rfl ?_; refine ll rfl rfl rfl I mm1 ld_pk3 ?_)
    | (refine gD 21 rfl ?_; refine ll rfl rfl rfl I mm2 ld_st0 ?_)
    | (refine gD 26 rfl ?_; refine ll rfl rfl rfl I mm2 ld_st2 ?_)
    | (refine gD 30 rfl ?_; refine ll rfl rfl rfl I mm2 ld_st2 ?_)
    | (refine gD 35 rfl ?_; refine ll rfl rfl rfl I mm2 ld_st2 ?_)
    | (refine gD 41 rfl ?_; refine ll rfl rfl rfl I mm2 ld_pk0 ?_)
    | (refine gD 45 rfl ?_; refine ll rfl rfl rfl I mm3 ld_st2 ?_)
    | (refine gD 49 rfl ?_; refine ll rfl rfl rfl I mm2 ld_pkA7 ?_)
    | (refine gD 55 rfl ?_; refine ll rfl rfl rfl I mm2 ld_pk7 ?_)
    | (refine gD 68 rfl ?_; refine ll rfl rfl rfl I mm3 ld_stR ?_)
    | (refine gD 50 rfl ?_; refine ck rfl Tryz.func40 kk rfl #[.agg #[.bool true, .int .u64 hi2, .int .u64 lo2]] rfl zh (ddiref02_Valid.calls true hi2 lo2 true _ hV.out) ?_; rintro e_ w1 ⟨rfl, hb⟩; refine ⟨_, rfl, ?_⟩; replace I := callK I hb; clear hb)
    | (refine gS rfl ?_; refine sk rfl rfl rfl rfl rfl I zm (by first | exact sr_ad | exact sr_stR) zu ?_; clear I; intro w1 I)
    )
   refine bodyPost_ret (ret_ct rfl _ I.out _ rfl zm Tryz.underlying32 rfl kk) rfl ?_
   exact ⟨_, rfl, Pks_nil _ _, I.out.below⟩
  by_cases hz : hi2 = 0 ∧ lo2 = 0
  case pos =>
   have hA : Aside0 (((false == zA.f0) && ((hi2 == zA.f1) && (lo2 == zA.f2))) = true) := ⟨by rw [hz.1, hz.2]; rfl⟩
   replace hz := Aside0.mk hz
   have eF : recvF (⟨pc, h, 1, pxid, sv, ⟨v6, hi, lo⟩, t1, t2, un, se, at_⟩ : Stn) 2 pxid psv pc ⟨false, hi2, lo2⟩ n u1 u2 ok now = (⟨pc, h, 1, pxid, sv, ⟨v6, hi, lo⟩, t1, t2, un, se, at_⟩, []) := by unfold recvF; rw [if_neg (fun hq => hq ⟨rfl, rfl⟩), if_pos ⟨rfl, rfl⟩]; unfold offF; exact if_neg (fun hq => hq.2.2.1 hz.out)
   show Calls Tryz.prog 12 #[.agg (stC pc h 1 pxid sv v6 hi lo t1 t2 un se at_), .agg (pkC 2 pxid psv pc a4.f0 a4.f1 a4.f2 false hi2 lo2 a6.f0 a6.f1 a6.f2 hr_ (.slice A l.length cc)), .int .i64 now] w (Ret (recvF (⟨pc, h, 1, pxid, sv, ⟨v6, hi, lo⟩, t1, t2, un, se, at_⟩ : Stn) 2 pxid psv pc ⟨false, hi2, lo2⟩ n u1 u2 ok now) w)
   rw [eF]
   clear eF
   have I := Aside0.mk (Inv.start0 (w0 := w))
   go_enter Tryz.func12, Tryz.ntmps12
   go_wp2_with (first
    | (refine gB rfl ?_; refine bk rfl rfl rfl I ?_; clear I; intro gb w1 I)
    | (refine ak rfl (al_R rfl) I ?_; clear I; intro gb w1 I)
    | (refine ak rfl (al_A rfl) I ?_; clear I; intro gb w1 I)
    | (refine ak rfl (al_P rfl) I ?_; clear I; intro gb w1 I)
    | (refine gD 13 rfl ?_; refine ll rfl rfl rfl I mm1 ld_pk1 ?_)
    | (refine gD 15 rfl ?_; refine ll rfl rfl rfl I mm2 ld_st3 ?_)
    | (refine gD 19 rfl ?_; refine ll rfl rfl rfl I mm1 ld_pk3 ?_)
    | (refine gD 21 rfl ?_; refine ll rfl rfl rfl I mm2 ld_st0 ?_)
    | (refine gD 26 rfl ?_; refine ll rfl rfl rfl I mm2 ld_st2 ?_)
    | (refine gD 30 rfl ?_; refine ll rfl rfl rfl I mm2 ld_st2 ?_)
    | (refine gD 35 rfl ?_; refine ll rfl rfl rfl I mm2 ld_st2 ?_)
    | (refine gD 41 rfl ?_; refine ll rfl rfl rfl I mm2 ld_pk0 ?_)
    | (refine gD 45 rfl ?_; refine ll rfl rfl rfl I mm3 ld_st2 ?_)
    | (refine gD 49 rfl ?_; refine ll rfl rfl rfl I mm2 ld_pkA7 ?_)
    | (refine gD 55 rfl ?_; refine ll rfl rfl rfl I mm2 ld_pk7 ?_)
    | (refine gD 59 rfl ?_; refine ll rfl rfl rfl I mm2 ld_pkA7 ?_)
    | (refine gD 60 rfl ?_; refine ll rfl rfl rfl I mm0 ld_ad ?_)
    | (refine gD 68 rfl ?_; refine ll rfl rfl rfl I mm3 ld_stR ?_)
    | (refine gD 61 rfl ?_; refine vk rfl (run_eqR (p := ⟨false, hi2, lo2⟩) (q := zA) rfl rfl rfl hA.out) ?_)
    | (refine gD 50 rfl ?_; refine ck rfl Tryz.func40 kk rfl #[.agg #[.bool false, .int .u64 hi2, .int .u64 lo2]] rfl zh (ddiref02_Valid.calls false hi2 lo2 true _ hV.out) ?_; rintro e_ w1 ⟨rfl, hb⟩; refine ⟨_, rfl, ?_⟩; replace I := callK I hb; clear hb)
    | (refine gS rfl ?_; refine sk rfl rfl rfl rfl rfl I zm (by first | exact sr_ad | exact sr_stR) zu ?_; clear I; intro w1 I)
    )
   refine bodyPost_ret (ret_ct rfl _ I.out _ rfl zm Tryz.underlying32 rfl kk) rfl ?_
   exact ⟨_, rfl, Pks_nil _ _, I.out.below⟩
  have hA : Aside0 (((false == zA.f0) && ((hi2 == zA.f1) && (lo2 == zA.f2))) = false) := ⟨by rw [Bool.eq_false_iff]; intro hq; exact hz (by simpa [zA] using hq)⟩
  replace hz := Aside0.mk hz
  by_cases hx : 4294967295 ≤ pxid
  case pos =>
   have e1 : decide (pxid < 4294967295) = false := decide_eq_false (by omega)
   have eF : recvF (⟨pc, h, 1, pxid, sv, ⟨v6, hi, lo⟩, t1, t2, un, se, at_⟩ : Stn) 2 pxid psv pc ⟨false, hi2, lo2⟩ n u1 u2 ok now = (⟨pc, h, 1, pxid, sv, ⟨v6, hi, lo⟩, t1, t2, un, se, at_⟩, []) := by unfold recvF; rw [if_neg (fun hq => hq ⟨rfl, rfl⟩), if_pos ⟨rfl, rfl⟩]; unfold offF; exact if_neg (fun hq => absurd hq.2.2.2 (by show ¬ pxid < 4294967295; omega))
   show Calls Tryz.prog 12 #[.agg (stC pc h 1 pxid sv v6 hi lo t1 t2 un se at_), .agg (pkC 2 pxid psv pc a4.f0 a4.f1 a4.f2 false hi2 lo2 a6.f0 a6.f1 a6.f2 hr_ (.slice A l.length cc)), .int .i64 now] w (Ret (recvF (⟨pc, h, 1, pxid, sv, ⟨v6, hi, lo⟩, t1, t2, un, se, at_⟩ : Stn) 2 pxid psv pc ⟨false, hi2, lo2⟩ n u1 u2 ok now) w)
   rw [eF]
   clear eF
   have I := Aside0.mk (Inv.start0 (w0 := w))
   go_enter Tryz.func12, Tryz.ntmps12
   go_wp2_with (first
    | (refine gB rfl ?_; refine bk rfl rfl rfl I ?_; clear I; intro gb w1 I)
    | (refine ak rfl (al_R rfl) I ?_; clear I; intro gb w1 I)
    | (refine ak rfl (al_A rfl) I ?_; clear I; intro gb w1 I)
    | (refine ak rfl (al_P rfl) I ?_; clear I; intro gb w1 I)
    | (refine gD 13 rfl ?_; refine ll rfl rfl rfl I mm1 ld_pk1 ?_)
    | (refine gD 15 rfl ?_; refine ll rfl rfl rfl I mm2 ld_st3 ?_)
    | (refine gD 19 rfl ?_; refine ll rfl rfl rfl I mm1 ld_pk3 ?_)
    | (refine gD 21 rfl ?_; refine ll rfl rfl rfl I mm2 ld_st0 ?_)
    | (refine gD 26 rfl ?_; refine ll rfl rfl rfl I mm2 ld_st2 ?_)
    | (refine gD 30 rfl ?_; refine ll rfl rfl rfl I mm2 ld_st2 ?_)
    | (refine gD 35 rfl ?_; refine ll rfl rfl rfl I mm2 ld_st2 ?_)
    | (refine gD 41 rfl ?_; refine ll rfl rfl rfl I mm2 ld_pk0 ?_)
    | (refine gD 45 rfl ?_; refine ll rfl rfl rfl I mm3 ld_st2 ?_)
    | (refine gD 49 rfl ?_; refine ll rfl rfl rfl I mm2 ld_pkA7 ?_)
    | (refine gD 55 rfl ?_; refine ll rfl rfl rfl I mm2 ld_pk7 ?_)
    | (refine gD 59 rfl ?_; refine ll rfl rfl rfl I mm2 ld_pkA7 ?_)
    | (refine gD 60 rfl ?_; refine ll rfl rfl rfl I mm0 ld_ad ?_)
    | (refine gD 64 rfl ?_; refine ll rfl rfl rfl I mm3 ld_stR ?_)
    | (refine gD 68 rfl ?_; refine ll rfl rfl rfl I mm3 ld_stR ?_)
    | (refine gD 61 rfl ?_; refine vk rfl (run_eqR (p := ⟨false, hi2, lo2⟩) (q := zA) rfl rfl rfl hA.out) ?_)
    | (refine gD 65 rfl ?_; refine ck rfl Tryz.func41 kk rfl #[.agg (stC pc h 1 pxid sv v6 hi lo t1 t2 un se at_)] rfl zh (can_c pc h 1 pxid sv v6 hi lo t1 t2 un se at_ _) ?_; rintro e_ w1 ⟨rfl, hb⟩; refine ⟨_, rfl, ?_⟩; replace I := callK I hb; clear hb)
    | (refine gD 50 rfl ?_; refine ck rfl Tryz.func40 kk rfl #[.agg #[.bool false, .int .u64 hi2, .int .u64 lo2]] rfl zh (ddiref02_Valid.calls false hi2 lo2 true _ hV.out) ?_; rintro e_ w1 ⟨rfl, hb⟩; refine ⟨_, rfl, ?_⟩; replace I := callK I hb; clear hb)
    | (refine gS rfl ?_; refine sk rfl rfl rfl rfl rfl I zm (by first | exact sr_ad | exact sr_stR) zu ?_; clear I; intro w1 I)
    )
   refine bodyPost_ret (ret_ct rfl _ I.out _ rfl zm Tryz.underlying32 rfl kk) rfl ?_
   exact ⟨_, rfl, Pks_nil _ _, I.out.below⟩
  have e1 : decide (pxid < 4294967295) = true := decide_eq_true (by omega)
  have eF : recvF (⟨pc, h, 1, pxid, sv, ⟨v6, hi, lo⟩, t1, t2, un, se, at_⟩ : Stn) 2 pxid psv pc ⟨false, hi2, lo2⟩ n u1 u2 ok now = turnF (⟨pc, h, 1, pxid, psv, ⟨false, hi2, lo2⟩, t1, t2, un, se, at_⟩ : Stn) 2 1 now := by unfold recvF; rw [if_neg (fun hq => hq ⟨rfl, rfl⟩), if_pos ⟨rfl, rfl⟩]; exact off_turn (⟨pc, h, 1, pxid, sv, ⟨v6, hi, lo⟩, t1, t2, un, se, at_⟩ : Stn) psv _ now hv rfl hz.out (by show pxid < 4294967295; omega)
  show Calls Tryz.prog 12 #[.agg (stC pc h 1 pxid sv v6 hi lo t1 t2 un se at_), .agg (pkC 2 pxid psv pc a4.f0 a4.f1 a4.f2 false hi2 lo2 a6.f0 a6.f1 a6.f2 hr_ (.slice A l.length cc)), .int .i64 now] w (Ret (recvF (⟨pc, h, 1, pxid, sv, ⟨v6, hi, lo⟩, t1, t2, un, se, at_⟩ : Stn) 2 pxid psv pc ⟨false, hi2, lo2⟩ n u1 u2 ok now) w)
  rw [eF]
  clear eF
  have I := Aside0.mk (Inv.start0 (w0 := w))
  go_enter Tryz.func12, Tryz.ntmps12
  go_wp2_with (first
   | (refine gB rfl ?_; refine bk rfl rfl rfl I ?_; clear I; intro gb w1 I)
   | (refine ak rfl (al_R rfl) I ?_; clear I; intro gb w1 I)
   | (refine ak rfl (al_A rfl) I ?_; clear I; intro gb w1 I)
   | (refine ak rfl (al_P rfl) I ?_; clear I; intro gb w1 I)
   | (refine gD 13 rfl ?_; refine ll rfl rfl rfl I mm1 ld_pk1 ?_)
   | (refine gD 15 rfl ?_; refine ll rfl rfl rfl I mm2 ld_st3 ?_)
   | (refine gD 19 rfl ?_; refine ll rfl rfl rfl I mm1 ld_pk3 ?_)
   | (refine gD 21 rfl ?_; refine ll rfl rfl rfl I mm2 ld_st0 ?_)
   | (refine gD 26 rfl ?_; refine ll rfl rfl rfl I mm2 ld_st2 ?_)
   | (refine gD 30 rfl ?_; refine ll rfl rfl rfl I mm2 ld_st2 ?_)
   | (refine gD 35 rfl ?_; refine ll rfl rfl rfl I mm2 ld_st2 ?_)
   | (refine gD 41 rfl ?_; refine ll rfl rfl rfl I mm2 ld_pk0 ?_)
   | (refine gD 45 rfl ?_; refine ll rfl rfl rfl I mm3 ld_st2 ?_)
   | (refine gD 49 rfl ?_; refine ll rfl rfl rfl I mm2 ld_pkA7 ?_)
   | (refine gD 55 rfl ?_; refine ll rfl rfl rfl I mm2 ld_pk7 ?_)
   | (refine gD 59 rfl ?_; refine ll rfl rfl rfl I mm2 ld_pkA7 ?_)
   | (refine gD 60 rfl ?_; refine ll rfl rfl rfl I mm0 ld_ad ?_)
   | (refine gD 64 rfl ?_; refine ll rfl rfl rfl I mm3 ld_stR ?_)
   | (refine gD 70 rfl ?_; refine ll rfl rfl rfl I mm2 ld_pk2 ?_)
   | (refine gD 73 rfl ?_; refine ll rfl rfl rfl I mm2 ld_pkA7 ?_)
   | (refine gD 76 rfl ?_; refine ll rfl rfl rfl I mm3 ld_stR ?_)
   | (refine gD 81 rfl ?_; refine ll rfl rfl rfl I mm0 ld_stAR ?_)
   | (refine gD 61 rfl ?_; refine vk rfl (run_eqR (p := ⟨false, hi2, lo2⟩) (q := zA) rfl rfl rfl hA.out) ?_)
   | (refine gD 65 rfl ?_; refine ck rfl Tryz.func41 kk rfl #[.agg (stC pc h 1 pxid sv v6 hi lo t1 t2 un se at_)] rfl zh (can_c pc h 1 pxid sv v6 hi lo t1 t2 un se at_ _) ?_; rintro e_ w1 ⟨rfl, hb⟩; refine ⟨_, rfl, ?_⟩; replace I := callK I hb; clear hb)
   | (refine gD 50 rfl ?_; refine ck rfl Tryz.func40 kk rfl #[.agg #[.bool false, .int .u64 hi2, .int .u64 lo2]] rfl zh (ddiref02_Valid.calls false hi2 lo2 true _ hV.out) ?_; rintro e_ w1 ⟨rfl, hb⟩; refine ⟨_, rfl, ?_⟩; replace I := callK I hb; clear hb)
   | (refine gD 78 rfl ?_; refine ck rfl Tryz.func32 kk rfl #[.agg (stC pc h 1 pxid psv false hi2 lo2 t1 t2 un se at_), .int .i64 2, .int .i64 1, .int .i64 now] rfl zh (turned_c (⟨pc, h, 1, pxid, psv, ⟨false, hi2, lo2⟩, t1, t2, un, se, at_⟩ : Stn) 2 1 now bw _ (by omega) hx0 hW.out) ?_; rintro e_ w1 ⟨v, rfl, hf, hb⟩; refine ⟨_, rfl, ?_⟩; replace I := addK I hb hf; clear hb hf)
   | (refine gS rfl ?_; refine sk rfl rfl rfl rfl rfl I zm (by first | exact sr_ad | exact sr_st4 | exact sr_stA5 | exact sr_stAR) zu ?_; clear I; intro w1 I)
   )
  refine bodyPost_ret (ret_ct rfl _ I.out _ rfl zm Tryz.underlying32 rfl kk) rfl ?_
  exact ⟨_, rfl, foot_new (I.out.foot.imp (fun W hW => hW.2)), I.out.below⟩
theorem rrecv_c (s : Stn) (p : S38) (A : Option Addr) (cc : Nat) (n u1 u2 : Int) (ok : Bool) (now : Int) (bw : Bool) (w : World) (hst : 0 ≤ s.st ∧ s.st ≤ 5) (hx0 : 0 ≤ s.xid) (hs : (0 ≤ s.se ∧ s.se ≤ 4294967295)) (hr : Kd.C k62 w A p.f8.length p.f8) (hc : p.f8.length ≤ cc) (hL : ddiref36_Lease.f 1000 p.f0 p.f1 p.f2 p.f3 p.f4.f0 p.f4.f1 p.f4.f2 p.f5.f0 p.f5.f1 p.f5.f2 p.f6.f0 p.f6.f1 p.f6.f2 p.f7 p.f8 = some (n, u1, u2, ok)) (hn : ok = true → 0 ≤ u1 ∧ u1 ≤ u2 ∧ u2 ≤ n ∧ n ≤ 4294967295) (hW : ddiref35_Value.f 1000 [p.f5] = some (wantF p.f5, bw)) : Calls Tryz.prog 12 #[.agg (stA s), .agg (pkOf p (.slice A p.f8.length cc)), .int .i64 now] w (Ret (recvF s p.f0 p.f1 p.f2 p.f3 p.f5 n u1 u2 ok now) w) := by
 by_cases hp : p.f1 = s.xid
 case neg => exact rrecv_x s p A cc n u1 u2 ok now bw w hst hx0 hs hr hc hL hn hW hp
 by_cases hq : p.f3 = s.c
 case neg => exact rrecv_c0 s p A cc n u1 u2 ok now bw w hst hx0 hs hr hc hL hn hW hp hq
 by_cases n2 : s.st = 2
 · exact rrecv_2 s p A cc n u1 u2 ok now bw w hst hx0 hs hr hc hL hn hW hp hq n2
 by_cases n4 : s.st = 4
 · exact rrecv_4 s p A cc n u1 u2 ok now bw w hst hx0 hs hr hc hL hn hW hp hq n4
 by_cases n5 : s.st = 5
 · exact rrecv_5 s p A cc n u1 u2 ok now bw w hst hx0 hs hr hc hL hn hW hp hq n5
 by_cases n1 : p.f0 = 2 ∧ s.st = 1
 · exact rrecv_off s p A cc n u1 u2 ok now bw w hst hx0 hs hr hc hL hn hW hp hq n1.2 n1.1
 · exact rrecv_o s p A cc n u1 u2 ok now bw w hst hx0 hs hr hc hL hn hW hp hq n2 n4 n5 n1
theorem zm9 {p : Prop} (h : p := by first | exact .head _ | exact .tail _ (.head _) | exact .tail _ (.tail _ (.head _)) | exact .tail _ (.tail _ (.tail _ (.head _))) | exact .tail _ (.tail _ (.tail _ (.tail _ (.head _)))) | exact .tail _ (.tail _ (.tail _ (.tail _ (.tail _ (.head _))))) | exact .tail _ (.tail _ (.tail _ (.tail _ (.tail _ (.tail _ (.head _)))))) | exact .tail _ (.tail _ (.tail _ (.tail _ (.tail _ (.tail _ (.tail _ (.head _))))))) | exact .tail _ (.tail _ (.tail _ (.tail _ (.tail _ (.tail _ (.tail _ (.tail _ (.head _))))))))) : p := h
theorem zu9 {p : Prop} (h : p := by first | exact .head | exact .tail (.head) | exact .tail (.tail (.head)) | exact .tail (.tail (.tail (.head))) | exact .tail (.tail (.tail (.tail (.head)))) | exact .tail (.tail (.tail (.tail (.tail (.head))))) | exact .tail (.tail (.tail (.tail (.tail (.tail (.head)))))) | exact .tail (.tail (.tail (.tail (.tail (.tail (.tail (.head))))))) | exact .tail (.tail (.tail (.tail (.tail (.tail (.tail (.tail (.head))))))))) : p := h
section
variable {P : Program} {ops : Array Oper} {Q : Exit → Act → World → Prop} {S : World → Prop} {oi : Oper} {a : Act} {w w1 : World} {N : Option Tmp}
theorem cs1 {K V : Act → World → Prop} {f : FuncId} {fn : Func} {ags : Array Operand} {ts : Array TypeId} (hK : Shut (∀ a' w', S w' → (S w' → V a' w') → K a' w')) (hN : oi.dst = N) (hf : P.funcs[f]? = some fn) (hname : (fn.name == "runtime.NumGoroutine") = false) (hb : fn.body.isSome = true) (args : Array Value)
    (hop : oi.op = .call { callee := .value (.func f), args := ags, argTypes := ts }) (hargs : ags.map a.eval = args) (h : Calls P f args w fun e w1 => ∃ v, e = .returned v ∧ S w1 ∧ V (a.put N v) w1) (hw : Region.wanted oi (yielded ops a.tmps) = true := by rfl) : if Region.wanted oi (yielded ops a.tmps) = true then Oper.wp P oi a w K Q else K (a.put N undef) w :=
  goes_ hf hname hb args hw hN hop hargs (h.mono (fun e w1 ⟨v, he, hS, hh⟩ => ⟨v, he, hK.out _ _ hS (fun _ => hh)⟩))
end
section
variable {P : Program} {B : Nat → Prop} {w0 w w1 : World} {L : Bxs} {F : World → Prop} {t : TypeId} {cs : Array Value} {ops : Array Oper} {oi : Oper} {a : Act} {Q : Exit → Act → World → Prop} {S : World → Prop} {ds : List Nat} {fuel : Nat} {l : Array Bool} {N : Option Tmp} {i : Nat}
theorem as1 {K V : Act → World → Prop} (hK : Shut (∀ a' w', S w' → (S w' → V a' w') → K a' w')) (hN : oi.dst = N) (hr : (execOp a.eval oi).run P w = .ok (.value (.pointer (some ⟨w.heap.size, 0, none⟩))) (w.alloc (.cells cs t (0, 0)))) (I : Inv B w0 L F w)
    (h : ∀ g w1, Inv B w0 ((g, t, cs) :: L) F w1 → S w1 ∧ V (a.put N (.pointer (some ⟨g, 0, none⟩))) w1) (hw : Region.wanted oi (yielded ops a.tmps) = true := by rfl) : if Region.wanted oi (yielded ops a.tmps) = true then Oper.wp P oi a w K Q else K (a.put N undef) w :=
  value_ hw hN hr (hK.out _ _ (h _ _ (I.alloc t cs)).1 (fun _ => (h _ _ (I.alloc t cs)).2))
theorem wl_cell {rest : List Oper} {o : Oper} {ty : TypeId} {x : Operand} {p : Addr} {v : Value} {opsA : Array Oper} (hgd : o.guard = none) (ho : o.op = .load ty x) (hx : a.eval x = .pointer (some p)) (d : TypeDesc) (hu : P.underlying ty = some d) (hd : d.isRow = false) (hc : w.cell? p = some v) (h : wpList P opsA Q rest (a.put o.dst v) w) : wpList P opsA Q (o :: rest) a w :=
  wpList_plain hgd fun K hK => by
    have hagg : (isAgg ty).run P w = .ok false w := by
      unfold isAgg; rw [Sem.run_bind, run_underlying hu w]; cases d <;> simp_all [TypeDesc.isRow]
    have hl : (loadVar ty p).run P w = .ok v w := by simp [loadVar, Sem.run_bind, hagg, hc]
    unfold Oper.wp
    rw [show (execOp a.eval o).run P w = .ok (.value v) w by unfold execOp; simp only [ho, hx, Instr.loadAt, Instr.sureAddr, Sem.run_bind, Sem.run_pure, Result.andThen_ok, hl]]
    exact hK _ _ h
theorem tc1 {w1 : World} {a' : Act} {v : Value} (hi : ops[i]? = some oi) (hN : oi.dst = N) (hc : takeB .any ops ds l (l.setIfInBounds i true) i = true) (hS : Below w1.heap.size w1 w) (hrun : ∀ W, Below w1.heap.size w1 W → (execOp a.eval oi).run P W = .ok (.value v) W)
    (h : wpAnyLast P .any ops Q (fun W => Below w1.heap.size w1 W) ds fuel (l.setIfInBounds i true) a' w) (hw : Region.wanted oi (yielded ops a.tmps) = true := by rfl) (ha : a.put N v = a' := by (go_simp; rfl)) (hQ : ∀ c a w, Q (.panic c) (a.put oi.dst v) w → Q (.panic c) a w := by exact fun _ _ _ h => h) :
    wpAnyLast P .any ops Q (fun W => Below w1.heap.size w1 W) ds (fuel + 1) l a w := take_ _ hi hN hc hQ (Or.inl ⟨hw, fun W hW => hrun W hW⟩) hS ha h
theorem run_cellB {ty : TypeId} {x : Operand} {p : Addr} {v : Value} {w1 : World} (ho : oi.op = .load ty x) (hx : a.eval x = .pointer (some p)) (d : TypeDesc) (hu : P.underlying ty = some d) (hd : d.isRow = false) (hc : w1.cell? p = some v) : ∀ W, Below w1.heap.size w1 W → (execOp a.eval oi).run P W = .ok (.value v) W := fun W hW => by
  have hc2 : W.cell? p = some v := (hW.cell (World.block_lt_of_cell? w1 _ hc)).trans hc
  have hagg : (isAgg ty).run P W = .ok false W := by
    unfold isAgg; rw [Sem.run_bind, run_underlying hu W]; cases d <;> simp_all [TypeDesc.isRow]
  have hl : (loadVar ty p).run P W = .ok v W := by simp [loadVar, Sem.run_bind, hagg, hc2]
  unfold execOp; simp only [ho, hx, Instr.loadAt, Instr.sureAddr, Sem.run_bind, Sem.run_pure, Result.andThen_ok, hl]
theorem run_ownB {ty : TypeId} {x : Operand} {g off : Nat} {v : Value} {w1 : World} (ho : oi.op = .load ty x) (hx : a.eval x = .pointer (some ⟨g, off, none⟩)) (I : Inv B w0 L F w1) (hm : (g, t, cs) ∈ L) (hl : Ld P ty cs off v) : ∀ W, Below w1.heap.size w1 W → (execOp a.eval oi).run P W = .ok (.value v) W := fun W hW => by
  have := hl W g t (blk_below (I.box _ hm) hW)
  unfold execOp; simp only [ho, hx, Instr.loadAt, Instr.sureAddr, Sem.run_bind, Sem.run_pure, Result.andThen_ok, this]
theorem al1 (hi : ops[i]? = some oi) (hN : oi.dst = N) (hc : readyB .any ops l (l.setIfInBounds i true) i = true) (hd : i ∉ ds) (hr : (execOp a.eval oi).run P w = .ok (.value (.pointer (some ⟨w.heap.size, 0, none⟩))) (w.alloc (.cells cs t (0, 0)))) (I : Inv B w0 L F w)
    (h : ∀ g w1, Inv B w0 ((g, t, cs) :: L) F w1 → S w1 ∧ wpAnyLast P .any ops Q S ds fuel (l.setIfInBounds i true) (a.put N (.pointer (some ⟨g, 0, none⟩))) w1) (hw : Region.wanted oi (yielded ops a.tmps) = true := by rfl) : wpAnyLast P .any ops Q S ds (fuel + 1) l a w :=
  va1 hi hN hc hd hr (h _ _ (I.alloc t cs)).1 (h _ _ (I.alloc t cs)).2 hw
end
theorem run_twoB {oi : Oper} {a : Act} {x : Operand} {p : Addr} {u v : Value} {w1 : World} (ho : oi.op = .load 62 x) (hx : a.eval x = .pointer (some p)) (h0 : w1.cell? p = some u) (h1 : w1.cell? ⟨p.block, p.off + 1, none⟩ = some v) : ∀ W, Below w1.heap.size w1 W → (execOp a.eval oi).run Tryz.prog W = .ok (.value (.agg #[u, v])) W := fun W hW => by
  have hu60 := Tryz.underlying62
  have q0 : W.cell? p = some u := (hW.cell (World.block_lt_of_cell? w1 _ h0)).trans h0
  have q1 : W.cell? ⟨p.block, p.off + 1, none⟩ = some v := (hW.cell (World.block_lt_of_cell? w1 _ h1)).trans h1
  unfold execOp; simp only [ho, hx]
  go_simp
end Go.Proofs.YtlabnocmmeciaaaGreatDoor.BQ
namespace Go.Proofs.YtlabnocmmeciaaaGreatDoor.LAW
open Go RowKit YtlabnocmmeciaaaGreatDoorW.PrintWords YtlabnocmmeciaaaGreatDoorW.PrintLast YtlabnocmmeciaaaGreatDoorW.PrintMore Pa STN BQ
theorem elder {α : Type} {d : Kd α} (hd : Kd.Heap d) {w W : World} {A : Option Addr} {n : Nat} {xs : List α} (h : d.C w A n xs) (hb : Below w.heap.size w W) : Foot (fun W => d.C W A n xs) W (fun k => k < w.heap.size) := fun W' hW => hd.C (fun k hk => (hW k hk (by have := hb.size; omega)).trans (hb.block k hk)) h
theorem add_add (ad : Addr) (m j : Nat) : (ad.add m).add j = ad.add (m + j) := by
  unfold Addr.add
  by_cases hm : m = 0
  · subst hm; simp
  · rw [if_neg hm]
    by_cases hj : j = 0
    · subst hj; simp [hm]
    · rw [if_neg hj, if_neg (by omega)]; simp [Nat.add_assoc]
theorem run_rowld {P : Program} {ty : TypeId} (d : TypeDesc) (hu : P.underlying ty = some d) (hd : d.isRow = true) (p : Addr) (cs : List Value) (hi : (P.info? ty).map (·.size) = some cs.length) (w : World) (h : ∀ j v, cs[j]? = some v → w.cell? (p.add j) = some v) : (loadVar ty p).run P w = .ok (.agg cs.toArray) w := by
  have hl : (loadCells p cs.length).run P w = .ok cs.toArray w := run_loadCells_list (P := P) w p cs h
  cases hq : P.info? ty with
  | none => simp [hq] at hi
  | some i =>
    have hs : i.size = cs.length := by simpa [hq] using hi
    have hagg : (isAgg ty).run P w = .ok true w := by
      unfold isAgg
      rw [Sem.run_bind, run_underlying hu w]
      cases d <;> simp_all [TypeDesc.isRow]
    simp [loadVar, Sem.run_bind, hagg, sizeOf, typeInfo, hq, hs, hl]
theorem run_ldp {P : Program} {o : Oper} {a : Act} {ty : TypeId} {x : Operand} {p : Addr} {v : Value} {W : World} (ho : o.op = .load ty x) (hx : a.eval x = .pointer (some p)) (h : (loadVar ty p).run P W = .ok v W) : (execOp a.eval o).run P W = .ok (.value v) W := by
  unfold execOp; simp only [ho, hx, Instr.loadAt, Instr.sureAddr, Sem.run_bind, Sem.run_pure, Result.andThen_ok, h]
theorem tl1 {P : Program} {S : World → Prop} {ops : Array Oper} {oi : Oper} {a a' : Act} {Q : Exit → Act → World → Prop} {ds : List Nat} {fuel i : Nat} {l : Array Bool} {N : Option Tmp} {w : World} {v : Value} (hi : ops[i]? = some oi) (hN : oi.dst = N) (hc : takeB .any ops ds l (l.setIfInBounds i true) i = true) (hS : S w) (hrun : ∀ W, S W → (execOp a.eval oi).run P W = .ok (.value v) W)
    (h : wpAnyLast P .any ops Q S ds fuel (l.setIfInBounds i true) a' w) (hw : Region.wanted oi (yielded ops a.tmps) = true := by rfl) (ha : a.put N v = a' := by (go_simp; rfl)) (hQ : ∀ c a w, Q (.panic c) (a.put oi.dst v) w → Q (.panic c) a w := by exact fun _ _ _ h => h) :
    wpAnyLast P .any ops Q S ds (fuel + 1) l a w := take_ _ hi hN hc hQ (Or.inl ⟨hw, fun W hW => hrun W hW⟩) hS ha h
theorem ld_pkOf {p : S38} {o : Value} : Ld Tryz.prog 38 (pkOf p o) 0 (.agg (pkOf p o)) := ld_pk
theorem sr_pkOf {p : S38} {A : Option Addr} {n c : Nat} {cs : Array Value} (hs : cs.size = 15 := by rfl) : Sr Tryz.prog 38 cs 0 (.agg (pkOf p (.slice A n c))) (pkOf p (.slice A n c)) := sr_row kk (by rw [hs]; rfl) (by simp [pkOf, pkC, Value.oneCell'])
def cblk : Code → Code
  | .block _ c => c
  | c => c
def clp : Code → Code
  | .loop c => c
  | c => c
/-- A message of a row, read in any later world. -/
theorem pkr_at {w : World} {A : Option Addr} {l : List S38} (hr : Kd.C k38 w A l.length l) (i : Nat) (hi : i < l.length) : ∃ ad A14 c14, A = some ad ∧ (l[i]).f8.length ≤ c14 ∧ Kd.C k62 w A14 (l[i]).f8.length (l[i]).f8 ∧ ∀ W, Below w.heap.size w W → (loadVar 38 (ad.add (i * 15))).run Tryz.prog W = .ok (.agg (pkOf l[i] (.slice A14 (l[i]).f8.length c14))) W := by
  obtain ⟨ad, cs, e, _, hK, hc0⟩ := Kd.C_get hr z38 i (by omega) (by omega)
  have ei : l.getD (i : Int).toNat z38 = l[i] := by simp [hi]
  rw [ei] at hK
  obtain ⟨A14, c14, rfl, l14, g14⟩ := k38_open hK
  refine ⟨ad, A14, c14, e, l14, g14, fun W hb => run_rowld _ Tryz.underlying38 rfl _ _ kk W (fun j u hu => ?_)⟩
  have h0 : w.cell? (ad.add (i * 15 + j)) = some u := hc0 j u hu
  rw [add_add]
  exact (hb.cell (World.block_lt_of_cell? w _ h0)).trans h0
theorem opr_at {w : World} {A : Option Addr} {l : List S62} (hr : Kd.C k62 w A l.length l) (i : Nat) (hi : i < l.length) : ∃ ad, A = some ad ∧ ∀ W, Below w.heap.size w W → (loadVar 62 (ad.add (i * 2))).run Tryz.prog W = .ok (.agg #[.int .i64 (l[i]).f0, .string (l[i]).f1]) W := by
  obtain ⟨ad, cs, e, _, hK, hc0⟩ := Kd.C_get hr z62 i (by omega) (by omega)
  have ei : l.getD (i : Int).toNat z62 = l[i] := by simp [hi]
  rw [ei] at hK
  have hcs := k62_open hK
  subst hcs
  refine ⟨ad, e, fun W hb => run_rowld _ Tryz.underlying62 rfl _ _ kk W (fun j u hu => ?_)⟩
  have h0 : w.cell? (ad.add (i * 2 + j)) = some u := hc0 j u hu
  rw [add_add]
  exact (hb.cell (World.block_lt_of_cell? w _ h0)).trans h0
theorem ne0I {o : Oper} {a : Act} {x y : Operand} {m : Int} {w : World} (ho : o.op = .binOp .neq 3 x y 3) (hx : a.eval x = .int .i64 m) (hy : a.eval y = .int .i64 m) : (execOp a.eval o).run Tryz.prog w = .ok (.value (.bool false)) w := by
  have hu0 := Tryz.underlying26
  have hu1 := Tryz.underlying62
  unfold execOp
  simp only [ho, hx, hy]
  go_simp
theorem ne0S {o : Oper} {a : Act} {x y : Operand} {m : ByteArray} {w : World} (ho : o.op = .binOp .neq 9 x y 9) (hx : a.eval x = .string m) (hy : a.eval y = .string m) : (execOp a.eval o).run Tryz.prog w = .ok (.value (.bool false)) w := by
  have hu0 := Tryz.underlying26
  have hu1 := Tryz.underlying62
  unfold execOp
  simp only [ho, hx, hy]
  go_simp
theorem ne0B {o : Oper} {a : Act} {x y : Operand} {m : Bool} {w : World} (ho : o.op = .binOp .neq 4 x y 4) (hx : a.eval x = .bool m) (hy : a.eval y = .bool m) : (execOp a.eval o).run Tryz.prog w = .ok (.value (.bool false)) w := by
  have hu0 := Tryz.underlying26
  have hu1 := Tryz.underlying62
  unfold execOp
  simp only [ho, hx, hy]
  go_simp
theorem ne0A {o : Oper} {a : Act} {x y : Operand} {x0 : Bool} {x1 x2 : Int} {w : World} (ho : o.op = .binOp .neq 26 x y 26) (hx : a.eval x = .agg #[.bool x0, .int .u64 x1, .int .u64 x2]) (hy : a.eval y = .agg #[.bool x0, .int .u64 x1, .int .u64 x2]) : (execOp a.eval o).run Tryz.prog w = .ok (.value (.bool false)) w := by
  have hu0 := Tryz.underlying26
  have hu1 := Tryz.underlying62
  unfold execOp
  simp only [ho, hx, hy]
  go_simp
theorem ne0O {o : Oper} {a : Act} {x y : Operand} {m : Int} {s : ByteArray} {w : World} (ho : o.op = .binOp .neq 62 x y 62) (hx : a.eval x = .agg #[.int .i64 m, .string s]) (hy : a.eval y = .agg #[.int .i64 m, .string s]) : (execOp a.eval o).run Tryz.prog w = .ok (.value (.bool false)) w := by
  have hu0 := Tryz.underlying26
  have hu1 := Tryz.underlying62
  unfold execOp
  simp only [ho, hx, hy]
  go_simp
theorem Inv_swap {B : Nat → Prop} {w0 w : World} {x y : Nat × TypeId × Array Value} {F : World → Prop} (I : BQ.Inv B w0 [x, y] F w) : BQ.Inv B w0 [y, x] F w :=
  ⟨I.below, fun b hb => I.box b (by rcases List.mem_cons.1 hb with rfl | hb; exact .tail _ (.head _); rw [List.mem_singleton] at hb; subst hb; exact .head _), fun b hb => I.own b (by rcases List.mem_cons.1 hb with rfl | hb; exact .tail _ (.head _); rw [List.mem_singleton] at hb; subst hb; exact .head _), by have := I.nodup; simp at this ⊢; exact fun h => this h.symm,
   fun W' hW => I.foot W' (fun k hk => hW k ⟨hk.1, fun b hb => hk.2 b (by rcases List.mem_cons.1 hb with rfl | hb; exact .tail _ (.head _); rw [List.mem_singleton] at hb; subst hb; exact .head _)⟩)⟩
def frK (A1 A2 : Option Addr) (n c1 c2 : Nat) (i : Int) (v6 v7 v8 : Value) (u : Nat → Value) : Array Value := #[.slice A1 n c1, .slice A2 n c2, u 2, u 3, u 4, .int .i64 i, v6, v7, v8, u 9, u 10, u 11, u 12, u 13, u 14, u 15, u 16, u 17, u 18, u 19, u 20, u 21, u 22, u 23, u 24, u 25, u 26, u 27, u 28, u 29, u 30, u 31, u 32, u 33, u 34, u 35, u 36, u 37, u 38, u 39, u 40, u 41, u 42, u 43, u 44, u 45, u 46, u 47, u 48, u 49, u 50, u 51, u 52, u 53, u 54, u 55, u 56, u 57, u 58, u 59, u 60, u 61, u 62, u 63, u 64, u 65, u 66, u 67, u 68, u 69, u 70, u 71, u 72, u 73, u 74, u 75, u 76, u 77, u 78, u 79, u 80, u 81, u 82, u 83, u 84, u 85, u 86, u 87, u 88, u 89, u 90, u 91, u 92, u 93, u 94, u 95, u 96, u 97, u 98, u 99, u 100, u 101, u 102, u 103, u 104, u 105, u 106, u 107, u 108]
/-- Between the rounds. -/
def kR0 (A1 A2 : Option Addr) (n c1 c2 : Nat) (w : World) (i : Nat) (a : Act) (wr : World) : Prop := ∃ (v6 v7 v8 : Value) (u : Nat → Value), a = ⟨frK A1 A2 n c1 c2 i v6 v7 v8 u, []⟩ ∧ BQ.Inv (fun _ => False) w [] (fun _ => True) wr
/-- Between the rounds over the options. -/
def kR1 (A1 A2 : Option Addr) (n c1 c2 : Nat) (i : Int) (x y : Nat) (p q : Array Value) (w : World) (k : Nat) (a : Act) (wr : World) : Prop := ∃ (u : Nat → Value), a = ⟨frK A1 A2 n c1 c2 i (.pointer (some ⟨x, 0, none⟩)) (.pointer (some ⟨y, 0, none⟩)) (.int .i64 k) u, []⟩ ∧ BQ.Inv (fun _ => False) w [(y, 38, q), (x, 38, p)] (fun _ => True) wr
section
variable {A1 A2 : Option Addr} {n c1 c2 i k x y : Nat} {p q : Array Value} {w wr : World} {a : Act}
theorem kR0_mk (e : a = ⟨frK A1 A2 n c1 c2 i (a.tmps.toList.getD 6 undef) (a.tmps.toList.getD 7 undef) (a.tmps.toList.getD 8 undef) (fun k => a.tmps.toList.getD k undef), []⟩) (I : BQ.Inv (fun _ => False) w [] (fun _ => True) wr) : kR0 A1 A2 n c1 c2 w i a wr := ⟨_, _, _, _, e, I⟩
theorem kR1_mk {i : Int} (e : a = ⟨frK A1 A2 n c1 c2 i (.pointer (some ⟨x, 0, none⟩)) (.pointer (some ⟨y, 0, none⟩)) (.int .i64 k) (fun k => a.tmps.toList.getD k undef), []⟩) (I : BQ.Inv (fun _ => False) w [(y, 38, q), (x, 38, p)] (fun _ => True) wr) : kR1 A1 A2 n c1 c2 i x y p q w k a wr := ⟨_, e, I⟩
end
theorem pko_round {A1 A2 A3 A4 : Option Addr} {n c1 c2 c3 c4 x y k : Nat} {i : Int} {m : S38} {w wr : World} {a : Act} {K : Act → World → Prop} {Q : Exit → Act → World → Prop} (g3 : Kd.C k62 w A3 m.f8.length m.f8) (g4 : Kd.C k62 w A4 m.f8.length m.f8) (hm : m.f8.length ≤ 32)
  (h0 : kR1 A1 A2 n c1 c2 i x y (pkOf m (.slice A3 m.f8.length c3)) (pkOf m (.slice A4 m.f8.length c4)) w k a wr) (hk : k ≤ m.f8.length) (hK : ∀ a' w', k < m.f8.length → kR1 A1 A2 n c1 c2 i x y (pkOf m (.slice A3 m.f8.length c3)) (pkOf m (.slice A4 m.f8.length c4)) w (k + 1) a' w' → K a' w')
  (hE : ∀ a' w', kR1 A1 A2 n c1 c2 i x y (pkOf m (.slice A3 m.f8.length c3)) (pkOf m (.slice A4 m.f8.length c4)) w k a' w' → Q (.exit 2) a' w') (hP : ∀ c (a : Act) w' N v, Q (.panic c) (a.put N v) w' → Q (.panic c) a w') : Code.wp Tryz.prog (clp (cblk (csnd (csnd (csnd (cblk (cfst (csnd (clp (cblk (csnd (cfst (csnd (csnd (cbody Tryz.f19))))))))))))))) (Exit.then K Q) a wr := by
 obtain ⟨u, rfl, hI⟩ := h0
 replace hE := Aside0.mk hE
 replace hP := Aside0.mk hP
 replace hK := Aside0.mk hK
 have I := Aside0.mk hI
 clear hI
 have b0 : (k : Int) ≤ 32 := by omega
 have hu26 := Tryz.underlying28
 have hu39 := Tryz.underlying38
 have hu24 := Tryz.underlying26
 by_cases hlt : k < m.f8.length
 case neg =>
  have f1 : decide ((k : Int) < (m.f8.length : Int)) = false := decide_eq_false (by omega)
  have f2 : decide (k < m.f8.length) = false := decide_eq_false hlt
  clear hlt
  dsimp only [cbody, cfst, csnd, cblk, clp, Tryz.f19, Option.getD]
  dsimp only [frK]
  go_wp2_with (first
   | (refine gD 93 rfl ?_; refine ll rfl rfl rfl I mm1 ld_pk14 ?_)
   )
  refine hE.out _ _ (kR1_mk ?_ I.out)
  kernel_rfl
 have f1 : decide ((k : Int) < (m.f8.length : Int)) = true := decide_eq_true (by omega)
 have f2 : decide (k < m.f8.length) = true := decide_eq_true hlt
 obtain ⟨d3, e3, q3⟩ := opr_at g3 k hlt
 obtain ⟨d4, e4, q4⟩ := opr_at g4 k hlt
 subst e3 e4
 have p0 : 0 ≤ (k : Int) := by omega
 have p1 : (k : Int) < (m.f8.length : Int) := by omega
 generalize m.f8[k] = z at q3 q4
 replace q3 := Aside0.mk q3
 replace q4 := Aside0.mk q4
 replace g3 := Aside0.mk g3
 replace g4 := Aside0.mk g4
 replace hm := Aside0.mk hm
 dsimp only [cbody, cfst, csnd, cblk, clp, Tryz.f19, Option.getD]
 dsimp only [frK]
 refine wp_seq_k (fun K1 hK1 => ?_)
 replace hK1 := Aside0.mk hK1
 go_wp2_with (first
  | (refine gD 93 rfl ?_; refine ll rfl rfl rfl I mm1 ld_pk14 ?_)
  )
 refine hK1.out _ _ ?_
 refine wp_seq_k (fun K2 hK2 => ?_)
 replace hK2 := Aside0.mk hK2
 refine wp_block ?_
 refine wp_seq_k (fun K3 hK3 => ?_)
 replace hK3 := Aside0.mk hK3
 have IS := Aside0.mk I.out.drew
 refine draw_ (BQ.Inv (fun _ => False) w [_, _] (fun _ => True)) [] kk rfl IS.out ?_
 replace I := Aside0.mk I.out.drew
 refine pu1 (i := 0) rfl rfl kk ?_ (ha := by (go_simp; rfl)) (hQ := fun _ _ _ h => hP.out _ _ _ _ _ h)
 refine ta1 (i := 1) rfl rfl kk rfl rfl IS.out zm (by exact ld_pk14) ?_ (ha := by (go_simp; rfl)) (hQ := fun _ _ _ h => hP.out _ _ _ _ _ h)
 refine pu1 (i := 2) rfl rfl kk ?_ (ha := by (go_simp; rfl)) (hQ := fun _ _ _ h => hP.out _ _ _ _ _ h)
 refine pu1 (i := 3) rfl rfl kk ?_ (ha := by (go_simp; rfl)) (hQ := fun _ _ _ h => hP.out _ _ _ _ _ h)
 refine tl1 (i := 4) rfl rfl kk IS.out (fun W hW => run_ldp rfl rfl (q3.out W hW.below)) ?_ (ha := by (go_simp; rfl)) (hQ := fun _ _ _ h => hP.out _ _ _ _ _ h)
 refine pu1 (i := 5) rfl rfl kk ?_ (ha := by (go_simp; rfl)) (hQ := fun _ _ _ h => hP.out _ _ _ _ _ h)
 refine ta1 (i := 6) rfl rfl kk rfl rfl IS.out zm (by exact ld_pk14) ?_ (ha := by (go_simp; rfl)) (hQ := fun _ _ _ h => hP.out _ _ _ _ _ h)
 refine pu1 (i := 7) rfl rfl kk ?_ (ha := by (go_simp; rfl)) (hQ := fun _ _ _ h => hP.out _ _ _ _ _ h)
 refine pu1 (i := 8) rfl rfl kk ?_ (ha := by (go_simp; rfl)) (hQ := fun _ _ _ h => hP.out _ _ _ _ _ h)
 refine tl1 (i := 9) rfl rfl kk IS.out (fun W hW => run_ldp rfl rfl (q4.out W hW.below)) ?_ (ha := by (go_simp; rfl)) (hQ := fun _ _ _ h => hP.out _ _ _ _ _ h)
 refine pu1 (i := 10) rfl rfl kk ?_ (ha := by (go_simp; rfl)) (hQ := fun _ _ _ h => hP.out _ _ _ _ _ h) (hv := fun w => ne0O rfl rfl rfl)
 refine do1 kk ?_
 try (refine hK3.out _ _ ?_)
 go_wp2
 try (refine hK2.out _ _ ?_)
 go_wp2
 try (refine hK.out _ _ hlt ?_)
 refine kR1_mk ?_ I.out
 kernel_rfl
theorem pkm_round {A1 A2 : Option Addr} {n c1 c2 i : Nat} {l : List S38} {w wr : World} {a : Act} {K : Act → World → Prop} {Q : Exit → Act → World → Prop} (hn : l.length = n) (g1 : Kd.C k38 w A1 l.length l) (g2 : Kd.C k38 w A2 l.length l) (hl : l.length ≤ 1 ∧ ∀ m ∈ l, m.f8.length ≤ 32)
  (h0 : kR0 A1 A2 n c1 c2 w i a wr) (hi : i ≤ n) (hK : ∀ a' w', i < n → kR0 A1 A2 n c1 c2 w (i + 1) a' w' → K a' w') (hE : ∀ a' w', kR0 A1 A2 n c1 c2 w i a' w' → Q (.exit 0) a' w') (hP : ∀ c (a : Act) w' N v, Q (.panic c) (a.put N v) w' → Q (.panic c) a w') : Code.wp Tryz.prog (clp (cblk (csnd (cfst (csnd (csnd (cbody Tryz.f19))))))) (Exit.then K Q) a wr := by
 obtain ⟨v6, v7, v8, u, rfl, hI⟩ := h0
 replace hE := Aside0.mk hE
 replace hP := Aside0.mk hP
 replace hK := Aside0.mk hK
 have I := Aside0.mk hI
 clear hI
 have b0 : (n : Int) ≤ 1 := by omega
 have hu26 := Tryz.underlying28
 have hu39 := Tryz.underlying38
 have hu24 := Tryz.underlying26
 by_cases hlt : i < n
 case neg =>
  have f1 : decide ((i : Int) < (n : Int)) = false := decide_eq_false (by omega)
  have f2 : decide (i < n) = false := decide_eq_false hlt
  clear hlt
  dsimp only [cbody, cfst, csnd, cblk, clp, Tryz.f19, Option.getD]
  dsimp only [frK]
  go_wp2
  refine hE.out _ _ (kR0_mk ?_ I.out)
  kernel_rfl
 have f1 : decide ((i : Int) < (n : Int)) = true := decide_eq_true (by omega)
 have f2 : decide (i < n) = true := decide_eq_true hlt
 have hlt' : i < l.length := by omega
 obtain ⟨d1, A3, c3, e1, l3, g3, q1⟩ := pkr_at g1 i hlt'
 obtain ⟨d2, A4, c4, e2, l4, g4, q2⟩ := pkr_at g2 i hlt'
 subst e1 e2
 have hm := hl.2 _ (List.getElem_mem hlt')
 generalize l[i] = m at l3 g3 q1 l4 g4 q2 hm
 have p0 : 0 ≤ (i : Int) := by omega
 have p1 : (i : Int) < (n : Int) := by omega
 replace q1 := Aside0.mk q1
 replace q2 := Aside0.mk q2
 replace g1 := Aside0.mk g1
 replace g2 := Aside0.mk g2
 replace g3 := Aside0.mk g3
 replace g4 := Aside0.mk g4
 replace hl := Aside0.mk hl
 replace hm := Aside0.mk hm
 dsimp only [cbody, cfst, csnd, cblk, clp, Tryz.f19, Option.getD]
 dsimp only [frK]
 refine wp_seq_k (fun K1 hK1 => ?_)
 replace hK1 := Aside0.mk hK1
 go_wp2
 refine hK1.out _ _ ?_
 refine wp_seq_k (fun K2 hK2 => ?_)
 replace hK2 := Aside0.mk hK2
 refine wp_block ?_
 refine wp_seq_k (fun K3 hK3 => ?_)
 replace hK3 := Aside0.mk hK3
 refine (fun (rest : (?T6 : Prop)) => ?main6) ?rest6
 case main6 =>
  have IS := Aside0.mk I.out.drew
  refine draw_ (BQ.Inv (fun _ => False) w [] (fun _ => True)) [] kk rfl IS.out ?_
  replace I := Aside0.mk I.out.drew
  refine pu1 (i := 0) rfl rfl kk ?_ (ha := by (go_simp; rfl)) (hQ := fun _ _ _ h => hP.out _ _ _ _ _ h)
  refine pu1 (i := 1) rfl rfl kk ?_ (ha := by (go_simp; rfl)) (hQ := fun _ _ _ h => hP.out _ _ _ _ _ h)
  refine pu1 (i := 2) rfl rfl kk ?_ (ha := by (go_simp; rfl)) (hQ := fun _ _ _ h => hP.out _ _ _ _ _ h)
  refine tl1 (i := 3) rfl rfl kk IS.out (fun W hW => run_ldp rfl rfl (q1.out W hW.below)) ?_ (ha := by (go_simp; rfl)) (hQ := fun _ _ _ h => hP.out _ _ _ _ _ h)
  refine pu1 (i := 4) rfl rfl kk ?_ (ha := by (go_simp; rfl)) (hQ := fun _ _ _ h => hP.out _ _ _ _ _ h)
  refine pu1 (i := 5) rfl rfl kk ?_ (ha := by (go_simp; rfl)) (hQ := fun _ _ _ h => hP.out _ _ _ _ _ h)
  refine pu1 (i := 6) rfl rfl kk ?_ (ha := by (go_simp; rfl)) (hQ := fun _ _ _ h => hP.out _ _ _ _ _ h)
  refine tl1 (i := 7) rfl rfl kk IS.out (fun W hW => run_ldp rfl rfl (q2.out W hW.below)) ?_ (ha := by (go_simp; rfl)) (hQ := fun _ _ _ h => hP.out _ _ _ _ _ h)
  refine two1 (i := 8) (j := 9) rfl rfl rfl rfl kk (by decide) (by decide) (fun K2 hK2 => ?_) (fun K2 hK2 => ?_)
  ·
    refine as1 (t := 38) (cs := (pkC 0 0 0 (⟨#[]⟩ : ByteArray) false 0 0 false 0 0 false 0 0 false (.slice none 0 0))) hK2 rfl (al_P rfl) I.out (fun gx w1 hI => ⟨(hI.sub (.cons _ .slnil)).imp (fun _ _ => trivial), ?_⟩)
    clear I IS
    have I := Aside0.mk hI
    clear hI
    have IS := Aside0.mk (I.out.sub (.cons _ .slnil))
    refine al1 (i := 9) (t := 38) (cs := (pkC 0 0 0 (⟨#[]⟩ : ByteArray) false 0 0 false 0 0 false 0 0 false (.slice none 0 0))) rfl rfl kk (by decide) (al_P rfl) I.out (fun gy w1 hI => ⟨(hI.sub (.cons _ (.cons _ .slnil))).imp (fun _ _ => trivial), ?_⟩)
    clear I IS
    have I := Aside0.mk hI
    clear hI
    have IS := Aside0.mk (I.out.sub (.cons _ (.cons _ .slnil)))
    refine st1 (i := 10) rfl rfl kk (by decide) rfl rfl rfl I.out zm (by first | exact sr_pkOf) zu (fun w1 hI => ⟨hI.sub (.cons _ (.cons _ .slnil)), ?_⟩)
    clear I IS
    have I := Aside0.mk hI
    clear hI
    have IS := Aside0.mk (I.out.sub (.cons _ (.cons _ .slnil)))
    refine st1 (i := 11) rfl rfl kk (by decide) rfl rfl rfl I.out zm (by first | exact sr_pkOf) zu (fun w1 hI => ⟨hI.sub (.cons _ (.cons _ .slnil)), ?_⟩)
    clear I IS
    have I := Aside0.mk hI
    clear hI
    have IS := Aside0.mk (I.out.sub (.cons _ (.cons _ .slnil)))
    refine do1 kk ?_
    replace I := I.out
    clear IS
    revert I
    revert w1
    revert gy
    revert gx
    exact rest
  ·
    refine as1 (t := 38) (cs := (pkC 0 0 0 (⟨#[]⟩ : ByteArray) false 0 0 false 0 0 false 0 0 false (.slice none 0 0))) hK2 rfl (al_P rfl) I.out (fun gy w1 hI => ⟨(hI.sub (.cons _ .slnil)).imp (fun _ _ => trivial), ?_⟩)
    clear I IS
    have I := Aside0.mk hI
    clear hI
    have IS := Aside0.mk (I.out.sub (.cons _ .slnil))
    refine al1 (i := 8) (t := 38) (cs := (pkC 0 0 0 (⟨#[]⟩ : ByteArray) false 0 0 false 0 0 false 0 0 false (.slice none 0 0))) rfl rfl kk (by decide) (al_P rfl) I.out (fun gx w1 hI => ⟨(hI.sub (.cons _ (.cons _ .slnil))).imp (fun _ _ => trivial), ?_⟩)
    clear I IS
    have I := Aside0.mk hI
    clear hI
    have IS := Aside0.mk (I.out.sub (.cons _ (.cons _ .slnil)))
    refine st1 (i := 10) rfl rfl kk (by decide) rfl rfl rfl I.out zm (by first | exact sr_pkOf) zu (fun w1 hI => ⟨hI.sub (.cons _ (.cons _ .slnil)), ?_⟩)
    clear I IS
    have I := Aside0.mk hI
    clear hI
    have IS := Aside0.mk (I.out.sub (.cons _ (.cons _ .slnil)))
    refine st1 (i := 11) rfl rfl kk (by decide) rfl rfl rfl I.out zm (by first | exact sr_pkOf) zu (fun w1 hI => ⟨hI.sub (.cons _ (.cons _ .slnil)), ?_⟩)
    clear I IS
    have I := Aside0.mk hI
    clear hI
    have IS := Aside0.mk (I.out.sub (.cons _ (.cons _ .slnil)))
    refine do1 kk ?_
    replace I := Aside0.mk (Inv_swap I.out)
    replace I := I.out
    clear IS
    revert I
    revert w1
    revert gy
    revert gx
    exact rest
 case rest6 =>
  intro gx gy w1 I
  replace I := Aside0.mk I
  try (refine hK3.out _ _ ?_)
  refine wp_seq_k (fun K4 hK4 => ?_)
  replace hK4 := Aside0.mk hK4
  go_wp2_with (first
   | (refine gD 29 rfl ?_; refine ll rfl rfl rfl I mm1 ld_pk0 ?_)
   | (refine gD 35 rfl ?_; refine ll rfl rfl rfl I mm1 ld_pk1 ?_)
   | (refine gD 42 rfl ?_; refine ll rfl rfl rfl I mm1 ld_pk2 ?_)
   | (refine gD 49 rfl ?_; refine ll rfl rfl rfl I mm1 ld_pk3 ?_)
   | (refine gD 56 rfl ?_; refine ll rfl rfl rfl I mm1 ld_pkA4 ?_)
   | (refine gD 63 rfl ?_; refine ll rfl rfl rfl I mm1 ld_pkA7 ?_)
   | (refine gD 70 rfl ?_; refine ll rfl rfl rfl I mm1 ld_pkA10 ?_)
   | (refine gD 77 rfl ?_; refine ll rfl rfl rfl I mm1 ld_pk13 ?_)
   | (refine gD 84 rfl ?_; refine ll rfl rfl rfl I mm1 ld_pk14 ?_)
   | (refine gD 31 rfl ?_; refine ll rfl rfl rfl I mm0 ld_pk0 ?_)
   | (refine gD 37 rfl ?_; refine ll rfl rfl rfl I mm0 ld_pk1 ?_)
   | (refine gD 44 rfl ?_; refine ll rfl rfl rfl I mm0 ld_pk2 ?_)
   | (refine gD 51 rfl ?_; refine ll rfl rfl rfl I mm0 ld_pk3 ?_)
   | (refine gD 58 rfl ?_; refine ll rfl rfl rfl I mm0 ld_pkA4 ?_)
   | (refine gD 65 rfl ?_; refine ll rfl rfl rfl I mm0 ld_pkA7 ?_)
   | (refine gD 72 rfl ?_; refine ll rfl rfl rfl I mm0 ld_pkA10 ?_)
   | (refine gD 79 rfl ?_; refine ll rfl rfl rfl I mm0 ld_pk13 ?_)
   | (refine gD 87 rfl ?_; refine ll rfl rfl rfl I mm0 ld_pk14 ?_)
   | (refine gD 32 rfl ?_; refine vk rfl (ne0I rfl rfl rfl) ?_)
   | (refine gD 38 rfl ?_; refine vk rfl (ne0I rfl rfl rfl) ?_)
   | (refine gD 45 rfl ?_; refine vk rfl (ne0I rfl rfl rfl) ?_)
   | (refine gD 52 rfl ?_; refine vk rfl (ne0S rfl rfl rfl) ?_)
   | (refine gD 59 rfl ?_; refine vk rfl (ne0A rfl rfl rfl) ?_)
   | (refine gD 66 rfl ?_; refine vk rfl (ne0A rfl rfl rfl) ?_)
   | (refine gD 73 rfl ?_; refine vk rfl (ne0A rfl rfl rfl) ?_)
   | (refine gD 80 rfl ?_; refine vk rfl (ne0B rfl rfl rfl) ?_)
   | (refine gD 89 rfl ?_; refine vk rfl (ne0I rfl rfl rfl) ?_)
   )
  refine hK4.out _ _ ?_
  go_wp2
  refine wp_loop_ghost (fun r a wr => ∃ k, r = m.f8.length - k ∧ k ≤ m.f8.length ∧ kR1 (some d1) (some d2) n c1 c2 i gx gy (pkOf m (.slice A3 m.f8.length c3)) (pkOf m (.slice A4 m.f8.length c4)) w k a wr) m.f8.length ⟨0, rfl, Nat.zero_le _, kR1_mk ?_ I.out⟩ ?_
  · kernel_rfl
  · rintro r a wr ⟨k, hr, hk, h0⟩
    refine pko_round g3.out g4.out hm.out h0 hk (fun a' w' hlt h => ⟨m.f8.length - (k + 1), by omega, k + 1, rfl, by omega, h⟩) (fun a' w' h => ?_) (fun c a w N v h => hP.out c a w N v h)
    obtain ⟨u, rfl, hI⟩ := h
    clear I h0
    have I := Aside0.mk hI
    clear hI
    dsimp only [frK]
    try simp only [Exit.inBlock, Exit.then, if_true]
    refine hK2.out _ _ ?_
    go_wp2
    try (refine hK.out _ _ hlt ?_)
    refine kR0_mk ?_ (I.out.sub (.cons _ (.cons _ .slnil)))
    kernel_rfl
theorem packets_c (l : List S38) (v1 v2 : Value) (w : World) (h1 : Pks v1 l w) (h2 : Pks v2 l w) (hl : l.length ≤ 1 ∧ ∀ m ∈ l, m.f8.length ≤ 32) : Calls Tryz.prog 19 #[v1, v2] w fun e w' => e = .returned (.bool true) ∧ Below w.heap.size w w' := by
 have hu26 := Tryz.underlying28
 have hu39 := Tryz.underlying38
 have hu24 := Tryz.underlying26
 obtain ⟨A1, c1, rfl, l1, g1⟩ := h1
 obtain ⟨A2, c2, rfl, l2, g2⟩ := h2
 replace g1 := Aside0.mk g1
 replace g2 := Aside0.mk g2
 replace hl := Aside0.mk hl
 replace l1 := Aside0.mk l1
 replace l2 := Aside0.mk l2
 have I := Aside0.mk (Inv.start0 (w0 := w))
 go_enter Tryz.func19, Tryz.ntmps19
 go_wp2_with (first
  | (refine gD 13 rfl ?_; refine vk rfl (ne0I rfl rfl rfl) ?_)
  )
 refine wp_loop_ghost (fun r a wr => ∃ i, r = l.length - i ∧ i ≤ l.length ∧ kR0 A1 A2 l.length c1 c2 w i a wr) l.length ⟨0, rfl, Nat.zero_le _, kR0_mk ?_ I.out⟩ ?_
 · kernel_rfl
 · rintro r a wr ⟨i, hr, hi, h0⟩
   refine pkm_round rfl g1.out g2.out hl.out h0 hi (fun a' w' hlt h => ⟨l.length - (i + 1), by omega, i + 1, rfl, by omega, h⟩) (fun a' w' h => ?_) (fun c a w N v h => ?_)
   obtain ⟨v6, v7, v8, u, rfl, hI⟩ := h
   clear I h0
   have I := Aside0.mk hI
   clear hI
   dsimp only [frK]
   try simp only [Exit.inBlock, Exit.then, if_true]
   go_wp2
   go_ret
   exact ⟨rfl, I.out.below⟩
   cases N <;> exact h
end Go.Proofs.YtlabnocmmeciaaaGreatDoor.LAW
namespace Go.Proofs.YtlabnocmmeciaaaGreatDoor.BQ
open Go RowKit YtlabnocmmeciaaaGreatDoorW.PrintWords YtlabnocmmeciaaaGreatDoorW.PrintLast YtlabnocmmeciaaaGreatDoorW.PrintMore Pa STN
theorem ten_c (w : World) : Calls Tryz.prog 24 #[.int .u64 1] w fun e w' => e = .returned (.agg #[.bool false, .int .u64 0, .int .u64 167772161]) ∧ Below w.heap.size w w' := by
 have hu26 := Tryz.underlying28
 have hu39 := Tryz.underlying38
 have hu24 := Tryz.underlying26
 have I := Aside0.mk (Inv.start0 (w0 := w))
 go_enter Tryz.func24, Tryz.ntmps24
 go_wp2_with (first
  | (refine ak rfl (al_A rfl) I ?_; clear I; intro gb w1 I)
  | (refine gS rfl ?_; refine sk rfl rfl rfl rfl rfl I zm (by first | exact sr_ad) zu ?_; clear I; intro w1 I)
  )
 refine bodyPost_ret (ret_c rfl _ I.out _ rfl zm Tryz.underlying26 rfl kk) rfl ?_
 exact ⟨rfl, I.out.below⟩
theorem ackm_c (w : World) : Calls Tryz.prog 25 #[.int .i64 3] w fun e w' => ∃ g, e = .returned (.agg (pkC 5 3 7 (⟨#[97]⟩ : ByteArray) false 0 0 false 0 167772161 false 0 0 false (.slice (some ⟨g, 0, none⟩) 1 1))) ∧ Foot (fun W => Kd.C k62 W (some ⟨g, 0, none⟩) 1 [(⟨51, (⟨#[0, 0, 0, 100]⟩ : ByteArray)⟩ : S62)]) w' (fun k => w.heap.size ≤ k) ∧ Below w.heap.size w w' := by
 have hu26 := Tryz.underlying28
 have hu39 := Tryz.underlying38
 have hu24 := Tryz.underlying26
 have hu60 := Tryz.underlying62
 have I := Aside0.mk (Inv.start0 (w0 := w))
 go_enter Tryz.func25, Tryz.ntmps25
 go_wp2_with (first
  | (refine ak rfl (al_P rfl) I ?_; clear I; intro gb w1 I)
  | (refine gD 4 rfl ?_; refine ck rfl Tryz.func24 kk rfl #[.int .u64 1] rfl zh (ten_c _) ?_; rintro e_ w1 ⟨rfl, hb⟩; refine ⟨_, rfl, ?_⟩; replace I := callK I hb; clear hb)
  | ((with_reducible refine gate_dst (N := 6) rfl ?_); refine wl_val (v := .slice (some ⟨w1.heap.size, 0, none⟩) 1 1) (w1 := World.alloc w1 (.cells #[.int .i64 51, .string (⟨#[0, 0, 0, 100]⟩ : ByteArray)] 62 (0, 0))) rfl (by first | (go_simp; done) | (go_simp; rfl)) ?_; have I2 := Aside0.mk (I.out.buildK k62 (⟨51, (⟨#[0, 0, 0, 100]⟩ : ByteArray)⟩ : S62) #[.int .i64 51, .string (⟨#[0, 0, 0, 100]⟩ : ByteArray)] 62 rfl (fun W _ => k62_mk W ⟨51, (⟨#[0, 0, 0, 100]⟩ : ByteArray)⟩)); clear I; have I := I2; clear I2)
  | (refine gS rfl ?_; refine sk rfl rfl rfl rfl rfl I zm (by first | exact sr_pk rfl) zu ?_; clear I; intro w1 I)
  )
 refine bodyPost_ret (ret_c rfl _ I.out _ rfl zm Tryz.underlying38 rfl kk) rfl ?_
 exact ⟨_, rfl, (I.out.foot.imp (fun W hW => hW.2)).mono (fun k hk => hk.1.resolve_left id), I.out.below⟩
end Go.Proofs.YtlabnocmmeciaaaGreatDoor.BQ
