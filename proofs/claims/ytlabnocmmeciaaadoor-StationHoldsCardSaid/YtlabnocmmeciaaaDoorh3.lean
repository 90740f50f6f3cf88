/- Parts of the proof of this claim's statement (joined by a program of this session): Wk9, Wka, Wkb, Msg, Wkc. -/
import Derived.Test.YtlabnocmmeciaaaDoorh2
namespace Go.Proofs.YtlabnocmmeciaaaDoor.BQ
open Go Go.RowKit Go.Proofs.YtlabnocmmeciaaaDoorW.PrintWords Go.Proofs.YtlabnocmmeciaaaDoorW.PrintLast Go.Proofs.YtlabnocmmeciaaaDoorW.PrintMore Go.Proofs.YtlabnocmmeciaaaDoor.Pa Go.Proofs.YtlabnocmmeciaaaDoor.STN
set_option linter.unusedVariables false
set_option linter.unusedSimpArgs false
theorem bytes_inj {a b : ByteArray} (h : a.toList = b.toList) : a = b := by
  rw [ByteArray.toList_eq, ByteArray.toList_eq] at h; exact ByteArray.ext (Array.toList_inj.mp h)
def recvF (s : Stn) (ki pxid psv : Int) (pc : ByteArray) (y : S24) (n u1 u2 : Int) (ok : Bool) (now : Int) : Stn × List S39 :=
  if ¬ (pxid = s.xid ∧ pc = s.c) then (s, []) else if ki = 2 ∧ s.st = 1 then offF s psv y now else if ki = 5 ∧ (s.st = 2 ∨ s.st = 4 ∨ s.st = 5) then (ackF s psv y n u1 u2 ok, []) else if ki = 6 ∧ (s.st = 2 ∨ s.st = 4 ∨ s.st = 5) then (initF s, []) else (s, [])
set_option maxHeartbeats 4000000 in
set_option maxRecDepth 100000 in
theorem recv_c (s : Stn) (ki pxid psv : Int) (pc : ByteArray) (v1 : Bool) (hi1 lo1 : Int) (y : S24) (v3 : Bool) (hi3 lo3 : Int) (hr : Bool) (A : Option Addr) (cc : Nat) (l : List S60) (B : Nat → Prop) (n u1 u2 : Int) (ok : Bool) (now : Int) (w : World) (hx0 : 0 ≤ s.xid) (hs : 0 ≤ s.se ∧ s.se ≤ 4294967295) (hV : addr_Valid.f y.f0 y.f1 y.f2 = some (validF y)) (hW : ∃ b, option_Value.f 1000 [y] = some (wantF y, b)) (hB : Foot (fun W => Kd.C k60 W A l.length l) w B) (hc : l.length ≤ cc) (hL : dhcp_Lease.f 1000 ki pxid psv pc v1 hi1 lo1 y.f0 y.f1 y.f2 v3 hi3 lo3 hr l = some (n, u1, u2, ok)) (hn : ok = true → 0 ≤ u1 ∧ u1 ≤ u2 ∧ u2 ≤ n ∧ n ≤ 4294967295) :
  Calls Tryd.prog 12 #[.agg (stA s), .agg (pkC ki pxid psv pc v1 hi1 lo1 y.f0 y.f1 y.f2 v3 hi3 lo3 hr (.slice A l.length cc)), .int .i64 now] w (Ret (recvF s ki pxid psv pc y n u1 u2 ok now) w) := by
 have hu26 := Tryd.underlying26
 have hu39 := Tryd.underlying39
 have hu24 := Tryd.underlying24
 obtain ⟨c, h, st, xid, sv, ⟨v6, hi, lo⟩, t1, t2, un, se, at_⟩ := s
 obtain ⟨v2, hi2, lo2⟩ := y
 replace hx0 : 0 ≤ xid := hx0
 replace hs : 0 ≤ se ∧ se ≤ 4294967295 := hs
 show Calls Tryd.prog 12 #[.agg (stC c h st xid sv v6 hi lo t1 t2 un se at_), .agg (pkC ki pxid psv pc v1 hi1 lo1 v2 hi2 lo2 v3 hi3 lo3 hr (.slice A l.length cc)), .int .i64 now] w _
 by_cases hp : pxid = xid
 · subst hp
   by_cases hq : pc = c
   · subst hq
     by_cases k2 : ki = 2
     · subst k2
       by_cases s1 : st = 1
       · subst s1
         have eF : recvF ⟨pc, h, 1, pxid, sv, ⟨v6, hi, lo⟩, t1, t2, un, se, at_⟩ 2 pxid psv pc ⟨v2, hi2, lo2⟩ n u1 u2 ok now = offF ⟨pc, h, 1, pxid, sv, ⟨v6, hi, lo⟩, t1, t2, un, se, at_⟩ psv ⟨v2, hi2, lo2⟩ now := by unfold recvF; rw [if_neg (fun hq => hq ⟨rfl, rfl⟩), if_pos ⟨rfl, rfl⟩]
         rw [eF]
         clear eF
         have I := Aside0.mk (Inv.start0 (w0 := w))
         go_enter Tryd.func12, Tryd.ntmps12
         go_wp2_with (first
          | ((with_reducible refine gate_box rfl ?_); refine wl_bx rfl rfl rfl I.out ?_; intro gb w1 hI; clear I; have I := Aside0.mk hI; clear hI)
          | ((with_reducible refine gate_alloc (ty := 26) rfl ?_); refine wl_box (t := 26) (cs := (stC (⟨#[]⟩ : ByteArray) (⟨#[]⟩ : ByteArray) 0 0 0 false 0 0 0 0 0 0 0)) rfl ?hr I.out ?_; (case hr => first | (go_simp; done) | (go_simp; rfl)); intro gb w1 hI; clear I; have I := Aside0.mk hI; clear hI)
          | ((with_reducible refine gate_ld rfl ?_); (try (refine gate_guard (by rfl) ?_; dsimp only)); refine wl_ld rfl rfl rfl I.out (by first | exact .head _ | exact .tail _ (.head _) | exact .tail _ (.tail _ (.head _)) | exact .tail _ (.tail _ (.tail _ (.head _)))) (by first | exact ld_pk | exact ld_pk0 | exact ld_pk1 | exact ld_pk3 | exact ld_st0 | exact ld_st2 | exact ld_st3 | exact ld_st) ?_)
          | ((with_reducible refine gate_callee (f := 33) rfl ?_); (try (refine gate_guard (by rfl) ?_; dsimp only)); refine goesL_ (some 47) rfl rfl Tryd.func33 (by kernel_rfl) rfl #[.agg (stC pc h 1 pxid sv v6 hi lo t1 t2 un se at_), .agg (pkC 2 pxid psv pc v1 hi1 lo1 v2 hi2 lo2 v3 hi3 lo3 hr (.slice A l.length cc)), .int .i64 now] rfl (by (try simp only [List.map_toArray, List.map_cons, List.map_nil]); first | done | rfl) ?_; (refine (offered_c ⟨pc, h, 1, pxid, sv, ⟨v6, hi, lo⟩, t1, t2, un, se, at_⟩ 2 pxid psv pc v1 hi1 lo1 ⟨v2, hi2, lo2⟩ v3 hi3 lo3 hr (.slice A l.length cc) now _ hx0 hV hW).mono ?_); rintro e_ w1 ⟨v, rfl, hf, hb⟩; refine ⟨_, rfl, ?_⟩; have I2 := Aside0.mk (I.out.addNew hb hf (fun k hk _ => I.out.new_out k hk)); clear I hb hf; have I := I2; clear I2)
          | ((with_reducible refine gate_sr rfl ?_); refine wl_sr2 rfl rfl rfl rfl rfl I.out (by first | exact .head _ | exact .tail _ (.head _) | exact .tail _ (.tail _ (.head _)) | exact .tail _ (.tail _ (.tail _ (.head _)))) (by first | exact sr_st | exact sr_stA) (by first | exact .head | exact .tail .head | exact .tail (.tail .head) | exact .tail (.tail (.tail .head))) ?_; intro w1 hI; clear I; have I := Aside0.mk hI; clear hI)
          )
         refine bodyPost_ret (ret_ct rfl _ I.out _ rfl (by first | exact .head _ | exact .tail _ (.head _) | exact .tail _ (.tail _ (.head _)) | exact .tail _ (.tail _ (.tail _ (.head _)))) Tryd.underlying26 rfl (by kernel_rfl)) rfl ?_
         exact ⟨_, rfl, foot_new (I.out.foot.imp (fun W hW => hW.2)), I.out.below⟩
       by_cases s2 : st = 2
       · subst s2
         have eF : recvF ⟨pc, h, 2, pxid, sv, ⟨v6, hi, lo⟩, t1, t2, un, se, at_⟩ 2 pxid psv pc ⟨v2, hi2, lo2⟩ n u1 u2 ok now = (⟨pc, h, 2, pxid, sv, ⟨v6, hi, lo⟩, t1, t2, un, se, at_⟩, []) := by unfold recvF; rw [if_neg (fun hq => hq ⟨rfl, rfl⟩), if_neg (fun hq => absurd hq.2 (by show ¬ ((2 : Int) = 1); decide)), if_neg (fun hq => absurd hq.1 (by decide)), if_neg (fun hq => absurd hq.1 (by decide))]
         rw [eF]
         clear eF
         have I := Aside0.mk (Inv.start0 (w0 := w))
         go_enter Tryd.func12, Tryd.ntmps12
         go_wp2_with (first
          | ((with_reducible refine gate_box rfl ?_); refine wl_bx rfl rfl rfl I.out ?_; intro gb w1 hI; clear I; have I := Aside0.mk hI; clear hI)
          | ((with_reducible refine gate_alloc (ty := 26) rfl ?_); refine wl_box (t := 26) (cs := (stC (⟨#[]⟩ : ByteArray) (⟨#[]⟩ : ByteArray) 0 0 0 false 0 0 0 0 0 0 0)) rfl ?hr I.out ?_; (case hr => first | (go_simp; done) | (go_simp; rfl)); intro gb w1 hI; clear I; have I := Aside0.mk hI; clear hI)
          | ((with_reducible refine gate_ld rfl ?_); (try (refine gate_guard (by rfl) ?_; dsimp only)); refine wl_ld rfl rfl rfl I.out (by first | exact .head _ | exact .tail _ (.head _) | exact .tail _ (.tail _ (.head _)) | exact .tail _ (.tail _ (.tail _ (.head _)))) (by first | exact ld_pk | exact ld_pk0 | exact ld_pk1 | exact ld_pk3 | exact ld_st0 | exact ld_st2 | exact ld_st3 | exact ld_st) ?_)
          | ((with_reducible refine gate_sr rfl ?_); refine wl_sr2 rfl rfl rfl rfl rfl I.out (by first | exact .head _ | exact .tail _ (.head _) | exact .tail _ (.tail _ (.head _)) | exact .tail _ (.tail _ (.tail _ (.head _)))) (by first | exact sr_st) (by first | exact .head | exact .tail .head | exact .tail (.tail .head) | exact .tail (.tail (.tail .head))) ?_; intro w1 hI; clear I; have I := Aside0.mk hI; clear hI)
          )
         refine bodyPost_ret (ret_ct rfl _ I.out _ rfl (by first | exact .head _ | exact .tail _ (.head _) | exact .tail _ (.tail _ (.head _)) | exact .tail _ (.tail _ (.tail _ (.head _)))) Tryd.underlying26 rfl (by kernel_rfl)) rfl ?_
         exact ⟨_, rfl, Pks_nil _ _, I.out.below⟩
       by_cases s4 : st = 4
       · subst s4
         have eF : recvF ⟨pc, h, 4, pxid, sv, ⟨v6, hi, lo⟩, t1, t2, un, se, at_⟩ 2 pxid psv pc ⟨v2, hi2, lo2⟩ n u1 u2 ok now = (⟨pc, h, 4, pxid, sv, ⟨v6, hi, lo⟩, t1, t2, un, se, at_⟩, []) := by unfold recvF; rw [if_neg (fun hq => hq ⟨rfl, rfl⟩), if_neg (fun hq => absurd hq.2 (by show ¬ ((4 : Int) = 1); decide)), if_neg (fun hq => absurd hq.1 (by decide)), if_neg (fun hq => absurd hq.1 (by decide))]
         rw [eF]
         clear eF
         have I := Aside0.mk (Inv.start0 (w0 := w))
         go_enter Tryd.func12, Tryd.ntmps12
         go_wp2_with (first
          | ((with_reducible refine gate_box rfl ?_); refine wl_bx rfl rfl rfl I.out ?_; intro gb w1 hI; clear I; have I := Aside0.mk hI; clear hI)
          | ((with_reducible refine gate_alloc (ty := 26) rfl ?_); refine wl_box (t := 26) (cs := (stC (⟨#[]⟩ : ByteArray) (⟨#[]⟩ : ByteArray) 0 0 0 false 0 0 0 0 0 0 0)) rfl ?hr I.out ?_; (case hr => first | (go_simp; done) | (go_simp; rfl)); intro gb w1 hI; clear I; have I := Aside0.mk hI; clear hI)
          | ((with_reducible refine gate_ld rfl ?_); (try (refine gate_guard (by rfl) ?_; dsimp only)); refine wl_ld rfl rfl rfl I.out (by first | exact .head _ | exact .tail _ (.head _) | exact .tail _ (.tail _ (.head _)) | exact .tail _ (.tail _ (.tail _ (.head _)))) (by first | exact ld_pk | exact ld_pk0 | exact ld_pk1 | exact ld_pk3 | exact ld_st0 | exact ld_st2 | exact ld_st3 | exact ld_st) ?_)
          | ((with_reducible refine gate_sr rfl ?_); refine wl_sr2 rfl rfl rfl rfl rfl I.out (by first | exact .head _ | exact .tail _ (.head _) | exact .tail _ (.tail _ (.head _)) | exact .tail _ (.tail _ (.tail _ (.head _)))) (by first | exact sr_st) (by first | exact .head | exact .tail .head | exact .tail (.tail .head) | exact .tail (.tail (.tail .head))) ?_; intro w1 hI; clear I; have I := Aside0.mk hI; clear hI)
          )
         refine bodyPost_ret (ret_ct rfl _ I.out _ rfl (by first | exact .head _ | exact .tail _ (.head _) | exact .tail _ (.tail _ (.head _)) | exact .tail _ (.tail _ (.tail _ (.head _)))) Tryd.underlying26 rfl (by kernel_rfl)) rfl ?_
         exact ⟨_, rfl, Pks_nil _ _, I.out.below⟩
       by_cases s5 : st = 5
       · subst s5
         have eF : recvF ⟨pc, h, 5, pxid, sv, ⟨v6, hi, lo⟩, t1, t2, un, se, at_⟩ 2 pxid psv pc ⟨v2, hi2, lo2⟩ n u1 u2 ok now = (⟨pc, h, 5, pxid, sv, ⟨v6, hi, lo⟩, t1, t2, un, se, at_⟩, []) := by unfold recvF; rw [if_neg (fun hq => hq ⟨rfl, rfl⟩), if_neg (fun hq => absurd hq.2 (by show ¬ ((5 : Int) = 1); decide)), if_neg (fun hq => absurd hq.1 (by decide)), if_neg (fun hq => absurd hq.1 (by decide))]
         rw [eF]
         clear eF
         have I := Aside0.mk (Inv.start0 (w0 := w))
         go_enter Tryd.func12, Tryd.ntmps12
         go_wp2_with (first
          | ((with_reducible refine gate_box rfl ?_); refine wl_bx rfl rfl rfl I.out ?_; intro gb w1 hI; clear I; have I := Aside0.mk hI; clear hI)
          | ((with_reducible refine gate_alloc (ty := 26) rfl ?_); refine wl_box (t := 26) (cs := (stC (⟨#[]⟩ : ByteArray) (⟨#[]⟩ : ByteArray) 0 0 0 false 0 0 0 0 0 0 0)) rfl ?hr I.out ?_; (case hr => first | (go_simp; done) | (go_simp; rfl)); intro gb w1 hI; clear I; have I := Aside0.mk hI; clear hI)
          | ((with_reducible refine gate_ld rfl ?_); (try (refine gate_guard (by rfl) ?_; dsimp only)); refine wl_ld rfl rfl rfl I.out (by first | exact .head _ | exact .tail _ (.head _) | exact .tail _ (.tail _ (.head _)) | exact .tail _ (.tail _ (.tail _ (.head _)))) (by first | exact ld_pk | exact ld_pk0 | exact ld_pk1 | exact ld_pk3 | exact ld_st0 | exact ld_st2 | exact ld_st3 | exact ld_st) ?_)
          | ((with_reducible refine gate_sr rfl ?_); refine wl_sr2 rfl rfl rfl rfl rfl I.out (by first | exact .head _ | exact .tail _ (.head _) | exact .tail _ (.tail _ (.head _)) | exact .tail _ (.tail _ (.tail _ (.head _)))) (by first | exact sr_st) (by first | exact .head | exact .tail .head | exact .tail (.tail .head) | exact .tail (.tail (.tail .head))) ?_; intro w1 hI; clear I; have I := Aside0.mk hI; clear hI)
          )
         refine bodyPost_ret (ret_ct rfl _ I.out _ rfl (by first | exact .head _ | exact .tail _ (.head _) | exact .tail _ (.tail _ (.head _)) | exact .tail _ (.tail _ (.tail _ (.head _)))) Tryd.underlying26 rfl (by kernel_rfl)) rfl ?_
         exact ⟨_, rfl, Pks_nil _ _, I.out.below⟩
       have e1 : (st == 1) = false := beq_eq_false_iff_ne.mpr s1
       have e2 : (st == 2) = false := beq_eq_false_iff_ne.mpr s2
       have e4 : (st == 4) = false := beq_eq_false_iff_ne.mpr s4
       have e5 : (st == 5) = false := beq_eq_false_iff_ne.mpr s5
       have eF : recvF ⟨pc, h, st, pxid, sv, ⟨v6, hi, lo⟩, t1, t2, un, se, at_⟩ 2 pxid psv pc ⟨v2, hi2, lo2⟩ n u1 u2 ok now = (⟨pc, h, st, pxid, sv, ⟨v6, hi, lo⟩, t1, t2, un, se, at_⟩, []) := by unfold recvF; rw [if_neg (fun hq => hq ⟨rfl, rfl⟩), if_neg (fun hq => s1 hq.2), if_neg (fun hq => absurd hq.1 (by decide)), if_neg (fun hq => absurd hq.1 (by decide))]
       rw [eF]
       clear eF
       have I := Aside0.mk (Inv.start0 (w0 := w))
       go_enter Tryd.func12, Tryd.ntmps12
       go_wp2_with (first
        | ((with_reducible refine gate_box rfl ?_); refine wl_bx rfl rfl rfl I.out ?_; intro gb w1 hI; clear I; have I := Aside0.mk hI; clear hI)
        | ((with_reducible refine gate_alloc (ty := 26) rfl ?_); refine wl_box (t := 26) (cs := (stC (⟨#[]⟩ : ByteArray) (⟨#[]⟩ : ByteArray) 0 0 0 false 0 0 0 0 0 0 0)) rfl ?hr I.out ?_; (case hr => first | (go_simp; done) | (go_simp; rfl)); intro gb w1 hI; clear I; have I := Aside0.mk hI; clear hI)
        | ((with_reducible refine gate_ld rfl ?_); (try (refine gate_guard (by rfl) ?_; dsimp only)); refine wl_ld rfl rfl rfl I.out (by first | exact .head _ | exact .tail _ (.head _) | exact .tail _ (.tail _ (.head _)) | exact .tail _ (.tail _ (.tail _ (.head _)))) (by first | exact ld_pk | exact ld_pk0 | exact ld_pk1 | exact ld_pk3 | exact ld_st0 | exact ld_st2 | exact ld_st3 | exact ld_st) ?_)
        | ((with_reducible refine gate_sr rfl ?_); refine wl_sr2 rfl rfl rfl rfl rfl I.out (by first | exact .head _ | exact .tail _ (.head _) | exact .tail _ (.tail _ (.head _)) | exact .tail _ (.tail _ (.tail _ (.head _)))) (by first | exact sr_st) (by first | exact .head | exact .tail .head | exact .tail (.tail .head) | exact .tail (.tail (.tail .head))) ?_; intro w1 hI; clear I; have I := Aside0.mk hI; clear hI)
        )
       refine bodyPost_ret (ret_ct rfl _ I.out _ rfl (by first | exact .head _ | exact .tail _ (.head _) | exact .tail _ (.tail _ (.head _)) | exact .tail _ (.tail _ (.tail _ (.head _)))) Tryd.underlying26 rfl (by kernel_rfl)) rfl ?_
       exact ⟨_, rfl, Pks_nil _ _, I.out.below⟩
     by_cases k5 : ki = 5
     · subst k5
       by_cases s2 : st = 2
       · subst s2
         have eF : recvF ⟨pc, h, 2, pxid, sv, ⟨v6, hi, lo⟩, t1, t2, un, se, at_⟩ 5 pxid psv pc ⟨v2, hi2, lo2⟩ n u1 u2 ok now = (ackF ⟨pc, h, 2, pxid, sv, ⟨v6, hi, lo⟩, t1, t2, un, se, at_⟩ psv ⟨v2, hi2, lo2⟩ n u1 u2 ok, []) := by unfold recvF; rw [if_neg (fun hq => hq ⟨rfl, rfl⟩), if_neg (fun hq => absurd hq.1 (by decide)), if_pos ⟨rfl, .inl rfl⟩]
         rw [eF]
         clear eF
         have hc := Aside0.mk hc
         have I : Aside0 (Inv B w [] (fun W => Kd.C k60 W A l.length l) w) := ⟨Inv.start hB⟩
         clear hB
         go_enter Tryd.func12, Tryd.ntmps12
         go_wp2_with (first
          | ((with_reducible refine gate_box rfl ?_); refine wl_bx rfl rfl rfl I.out ?_; intro gb w1 hI; clear I; have I := Aside0.mk hI; clear hI)
          | ((with_reducible refine gate_alloc (ty := 26) rfl ?_); refine wl_box (t := 26) (cs := (stC (⟨#[]⟩ : ByteArray) (⟨#[]⟩ : ByteArray) 0 0 0 false 0 0 0 0 0 0 0)) rfl ?hr I.out ?_; (case hr => first | (go_simp; done) | (go_simp; rfl)); intro gb w1 hI; clear I; have I := Aside0.mk hI; clear hI)
          | ((with_reducible refine gate_ld rfl ?_); (try (refine gate_guard (by rfl) ?_; dsimp only)); refine wl_ld rfl rfl rfl I.out (by first | exact .head _ | exact .tail _ (.head _) | exact .tail _ (.tail _ (.head _)) | exact .tail _ (.tail _ (.tail _ (.head _)))) (by first | exact ld_pk | exact ld_pk0 | exact ld_pk1 | exact ld_pk3 | exact ld_st0 | exact ld_st2 | exact ld_st3 | exact ld_st) ?_)
          | ((with_reducible refine gate_callee (f := 34) rfl ?_); (try (refine gate_guard (by rfl) ?_; dsimp only)); refine goesL_ (some 59) rfl rfl Tryd.func34 (by kernel_rfl) rfl #[.agg (stC pc h 2 pxid sv v6 hi lo t1 t2 un se at_), .agg (pkC 5 pxid psv pc v1 hi1 lo1 v2 hi2 lo2 v3 hi3 lo3 hr (.slice A l.length cc))] rfl (by (try simp only [List.map_toArray, List.map_cons, List.map_nil]); first | done | rfl) ?_; (refine (ack_c ⟨pc, h, 2, pxid, sv, ⟨v6, hi, lo⟩, t1, t2, un, se, at_⟩ 5 pxid psv pc v1 hi1 lo1 ⟨v2, hi2, lo2⟩ v3 hi3 lo3 hr A cc l _ n u1 u2 ok _ hs I.out.foot hc.out hL hn).mono ?_); rintro e_ w1 ⟨rfl, hb⟩; refine ⟨_, rfl, ?_⟩; have I2 := Aside0.mk (I.out.call hb); clear I hb; have I := I2; clear I2)
          | ((with_reducible refine gate_sr rfl ?_); refine wl_sr2 rfl rfl rfl rfl rfl I.out (by first | exact .head _ | exact .tail _ (.head _) | exact .tail _ (.tail _ (.head _)) | exact .tail _ (.tail _ (.tail _ (.head _)))) (by first | exact sr_st | exact sr_stA) (by first | exact .head | exact .tail .head | exact .tail (.tail .head) | exact .tail (.tail (.tail .head))) ?_; intro w1 hI; clear I; have I := Aside0.mk hI; clear hI)
          )
         refine bodyPost_ret (ret_ct rfl _ I.out _ rfl (by first | exact .head _ | exact .tail _ (.head _) | exact .tail _ (.tail _ (.head _)) | exact .tail _ (.tail _ (.tail _ (.head _)))) Tryd.underlying26 rfl (by kernel_rfl)) rfl ?_
         exact ⟨_, rfl, Pks_nil _ _, I.out.below⟩
       by_cases s4 : st = 4
       · subst s4
         have eF : recvF ⟨pc, h, 4, pxid, sv, ⟨v6, hi, lo⟩, t1, t2, un, se, at_⟩ 5 pxid psv pc ⟨v2, hi2, lo2⟩ n u1 u2 ok now = (ackF ⟨pc, h, 4, pxid, sv, ⟨v6, hi, lo⟩, t1, t2, un, se, at_⟩ psv ⟨v2, hi2, lo2⟩ n u1 u2 ok, []) := by unfold recvF; rw [if_neg (fun hq => hq ⟨rfl, rfl⟩), if_neg (fun hq => absurd hq.1 (by decide)), if_pos ⟨rfl, .inr (.inl rfl)⟩]
         rw [eF]
         clear eF
         have hc := Aside0.mk hc
         have I : Aside0 (Inv B w [] (fun W => Kd.C k60 W A l.length l) w) := ⟨Inv.start hB⟩
         clear hB
         go_enter Tryd.func12, Tryd.ntmps12
         go_wp2_with (first
          | ((with_reducible refine gate_box rfl ?_); refine wl_bx rfl rfl rfl I.out ?_; intro gb w1 hI; clear I; have I := Aside0.mk hI; clear hI)
          | ((with_reducible refine gate_alloc (ty := 26) rfl ?_); refine wl_box (t := 26) (cs := (stC (⟨#[]⟩ : ByteArray) (⟨#[]⟩ : ByteArray) 0 0 0 false 0 0 0 0 0 0 0)) rfl ?hr I.out ?_; (case hr => first | (go_simp; done) | (go_simp; rfl)); intro gb w1 hI; clear I; have I := Aside0.mk hI; clear hI)
          | ((with_reducible refine gate_ld rfl ?_); (try (refine gate_guard (by rfl) ?_; dsimp only)); refine wl_ld rfl rfl rfl I.out (by first | exact .head _ | exact .tail _ (.head _) | exact .tail _ (.tail _ (.head _)) | exact .tail _ (.tail _ (.tail _ (.head _)))) (by first | exact ld_pk | exact ld_pk0 | exact ld_pk1 | exact ld_pk3 | exact ld_st0 | exact ld_st2 | exact ld_st3 | exact ld_st) ?_)
          | ((with_reducible refine gate_callee (f := 34) rfl ?_); (try (refine gate_guard (by rfl) ?_; dsimp only)); refine goesL_ (some 59) rfl rfl Tryd.func34 (by kernel_rfl) rfl #[.agg (stC pc h 4 pxid sv v6 hi lo t1 t2 un se at_), .agg (pkC 5 pxid psv pc v1 hi1 lo1 v2 hi2 lo2 v3 hi3 lo3 hr (.slice A l.length cc))] rfl (by (try simp only [List.map_toArray, List.map_cons, List.map_nil]); first | done | rfl) ?_; (refine (ack_c ⟨pc, h, 4, pxid, sv, ⟨v6, hi, lo⟩, t1, t2, un, se, at_⟩ 5 pxid psv pc v1 hi1 lo1 ⟨v2, hi2, lo2⟩ v3 hi3 lo3 hr A cc l _ n u1 u2 ok _ hs I.out.foot hc.out hL hn).mono ?_); rintro e_ w1 ⟨rfl, hb⟩; refine ⟨_, rfl, ?_⟩; have I2 := Aside0.mk (I.out.call hb); clear I hb; have I := I2; clear I2)
          | ((with_reducible refine gate_sr rfl ?_); refine wl_sr2 rfl rfl rfl rfl rfl I.out (by first | exact .head _ | exact .tail _ (.head _) | exact .tail _ (.tail _ (.head _)) | exact .tail _ (.tail _ (.tail _ (.head _)))) (by first | exact sr_st | exact sr_stA) (by first | exact .head | exact .tail .head | exact .tail (.tail .head) | exact .tail (.tail (.tail .head))) ?_; intro w1 hI; clear I; have I := Aside0.mk hI; clear hI)
          )
         refine bodyPost_ret (ret_ct rfl _ I.out _ rfl (by first | exact .head _ | exact .tail _ (.head _) | exact .tail _ (.tail _ (.head _)) | exact .tail _ (.tail _ (.tail _ (.head _)))) Tryd.underlying26 rfl (by kernel_rfl)) rfl ?_
         exact ⟨_, rfl, Pks_nil _ _, I.out.below⟩
       by_cases s5 : st = 5
       · subst s5
         have eF : recvF ⟨pc, h, 5, pxid, sv, ⟨v6, hi, lo⟩, t1, t2, un, se, at_⟩ 5 pxid psv pc ⟨v2, hi2, lo2⟩ n u1 u2 ok now = (ackF ⟨pc, h, 5, pxid, sv, ⟨v6, hi, lo⟩, t1, t2, un, se, at_⟩ psv ⟨v2, hi2, lo2⟩ n u1 u2 ok, []) := by unfold recvF; rw [if_neg (fun hq => hq ⟨rfl, rfl⟩), if_neg (fun hq => absurd hq.1 (by decide)), if_pos ⟨rfl, .inr (.inr rfl)⟩]
         rw [eF]
         clear eF
         have hc := Aside0.mk hc
         have I : Aside0 (Inv B w [] (fun W => Kd.C k60 W A l.length l) w) := ⟨Inv.start hB⟩
         clear hB
         go_enter Tryd.func12, Tryd.ntmps12
         go_wp2_with (first
          | ((with_reducible refine gate_box rfl ?_); refine wl_bx rfl rfl rfl I.out ?_; intro gb w1 hI; clear I; have I := Aside0.mk hI; clear hI)
          | ((with_reducible refine gate_alloc (ty := 26) rfl ?_); refine wl_box (t := 26) (cs := (stC (⟨#[]⟩ : ByteArray) (⟨#[]⟩ : ByteArray) 0 0 0 false 0 0 0 0 0 0 0)) rfl ?hr I.out ?_; (case hr => first | (go_simp; done) | (go_simp; rfl)); intro gb w1 hI; clear I; have I := Aside0.mk hI; clear hI)
          | ((with_reducible refine gate_ld rfl ?_); (try (refine gate_guard (by rfl) ?_; dsimp only)); refine wl_ld rfl rfl rfl I.out (by first | exact .head _ | exact .tail _ (.head _) | exact .tail _ (.tail _ (.head _)) | exact .tail _ (.tail _ (.tail _ (.head _)))) (by first | exact ld_pk | exact ld_pk0 | exact ld_pk1 | exact ld_pk3 | exact ld_st0 | exact ld_st2 | exact ld_st3 | exact ld_st) ?_)
          | ((with_reducible refine gate_callee (f := 34) rfl ?_); (try (refine gate_guard (by rfl) ?_; dsimp only)); refine goesL_ (some 59) rfl rfl Tryd.func34 (by kernel_rfl) rfl #[.agg (stC pc h 5 pxid sv v6 hi lo t1 t2 un se at_), .agg (pkC 5 pxid psv pc v1 hi1 lo1 v2 hi2 lo2 v3 hi3 lo3 hr (.slice A l.length cc))] rfl (by (try simp only [List.map_toArray, List.map_cons, List.map_nil]); first | done | rfl) ?_; (refine (ack_c ⟨pc, h, 5, pxid, sv, ⟨v6, hi, lo⟩, t1, t2, un, se, at_⟩ 5 pxid psv pc v1 hi1 lo1 ⟨v2, hi2, lo2⟩ v3 hi3 lo3 hr A cc l _ n u1 u2 ok _ hs I.out.foot hc.out hL hn).mono ?_); rintro e_ w1 ⟨rfl, hb⟩; refine ⟨_, rfl, ?_⟩; have I2 := Aside0.mk (I.out.call hb); clear I hb; have I := I2; clear I2)
          | ((with_reducible refine gate_sr rfl ?_); refine wl_sr2 rfl rfl rfl rfl rfl I.out (by first | exact .head _ | exact .tail _ (.head _) | exact .tail _ (.tail _ (.head _)) | exact .tail _ (.tail _ (.tail _ (.head _)))) (by first | exact sr_st | exact sr_stA) (by first | exact .head | exact .tail .head | exact .tail (.tail .head) | exact .tail (.tail (.tail .head))) ?_; intro w1 hI; clear I; have I := Aside0.mk hI; clear hI)
          )
         refine bodyPost_ret (ret_ct rfl _ I.out _ rfl (by first | exact .head _ | exact .tail _ (.head _) | exact .tail _ (.tail _ (.head _)) | exact .tail _ (.tail _ (.tail _ (.head _)))) Tryd.underlying26 rfl (by kernel_rfl)) rfl ?_
         exact ⟨_, rfl, Pks_nil _ _, I.out.below⟩
       have e2 : (st == 2) = false := beq_eq_false_iff_ne.mpr s2
       have e4 : (st == 4) = false := beq_eq_false_iff_ne.mpr s4
       have e5 : (st == 5) = false := beq_eq_false_iff_ne.mpr s5
       have eF : recvF ⟨pc, h, st, pxid, sv, ⟨v6, hi, lo⟩, t1, t2, un, se, at_⟩ 5 pxid psv pc ⟨v2, hi2, lo2⟩ n u1 u2 ok now = (⟨pc, h, st, pxid, sv, ⟨v6, hi, lo⟩, t1, t2, un, se, at_⟩, []) := by unfold recvF; rw [if_neg (fun hq => hq ⟨rfl, rfl⟩), if_neg (fun hq => absurd hq.1 (by decide)), if_neg (fun hq => (fun hs => hs.elim s2 (fun hs => hs.elim s4 s5)) hq.2), if_neg (fun hq => absurd hq.1 (by decide))]
       rw [eF]
       clear eF
       have I := Aside0.mk (Inv.start0 (w0 := w))
       go_enter Tryd.func12, Tryd.ntmps12
       go_wp2_with (first
        | ((with_reducible refine gate_box rfl ?_); refine wl_bx rfl rfl rfl I.out ?_; intro gb w1 hI; clear I; have I := Aside0.mk hI; clear hI)
        | ((with_reducible refine gate_alloc (ty := 26) rfl ?_); refine wl_box (t := 26) (cs := (stC (⟨#[]⟩ : ByteArray) (⟨#[]⟩ : ByteArray) 0 0 0 false 0 0 0 0 0 0 0)) rfl ?hr I.out ?_; (case hr => first | (go_simp; done) | (go_simp; rfl)); intro gb w1 hI; clear I; have I := Aside0.mk hI; clear hI)
        | ((with_reducible refine gate_ld rfl ?_); (try (refine gate_guard (by rfl) ?_; dsimp only)); refine wl_ld rfl rfl rfl I.out (by first | exact .head _ | exact .tail _ (.head _) | exact .tail _ (.tail _ (.head _)) | exact .tail _ (.tail _ (.tail _ (.head _)))) (by first | exact ld_pk | exact ld_pk0 | exact ld_pk1 | exact ld_pk3 | exact ld_st0 | exact ld_st2 | exact ld_st3 | exact ld_st) ?_)
        | ((with_reducible refine gate_sr rfl ?_); refine wl_sr2 rfl rfl rfl rfl rfl I.out (by first | exact .head _ | exact .tail _ (.head _) | exact .tail _ (.tail _ (.head _)) | exact .tail _ (.tail _ (.tail _ (.head _)))) (by first | exact sr_st) (by first | exact .head | exact .tail .head | exact .tail (.tail .head) | exact .tail (.tail (.tail .head))) ?_; intro w1 hI; clear I; have I := Aside0.mk hI; clear hI)
        )
       refine bodyPost_ret (ret_ct rfl _ I.out _ rfl (by first | exact .head _ | exact .tail _ (.head _) | exact .tail _ (.tail _ (.head _)) | exact .tail _ (.tail _ (.tail _ (.head _)))) Tryd.underlying26 rfl (by kernel_rfl)) rfl ?_
       exact ⟨_, rfl, Pks_nil _ _, I.out.below⟩
     by_cases k6 : ki = 6
     · subst k6
       by_cases s2 : st = 2
       · subst s2
         have eF : recvF ⟨pc, h, 2, pxid, sv, ⟨v6, hi, lo⟩, t1, t2, un, se, at_⟩ 6 pxid psv pc ⟨v2, hi2, lo2⟩ n u1 u2 ok now = (initF ⟨pc, h, 2, pxid, sv, ⟨v6, hi, lo⟩, t1, t2, un, se, at_⟩, []) := by unfold recvF; rw [if_neg (fun hq => hq ⟨rfl, rfl⟩), if_neg (fun hq => absurd hq.1 (by decide)), if_neg (fun hq => absurd hq.1 (by decide)), if_pos ⟨rfl, .inl rfl⟩]
         rw [eF]
         clear eF
         have I := Aside0.mk (Inv.start0 (w0 := w))
         go_enter Tryd.func12, Tryd.ntmps12
         go_wp2_with (first
          | ((with_reducible refine gate_box rfl ?_); refine wl_bx rfl rfl rfl I.out ?_; intro gb w1 hI; clear I; have I := Aside0.mk hI; clear hI)
          | ((with_reducible refine gate_alloc (ty := 26) rfl ?_); refine wl_box (t := 26) (cs := (stC (⟨#[]⟩ : ByteArray) (⟨#[]⟩ : ByteArray) 0 0 0 false 0 0 0 0 0 0 0)) rfl ?hr I.out ?_; (case hr => first | (go_simp; done) | (go_simp; rfl)); intro gb w1 hI; clear I; have I := Aside0.mk hI; clear hI)
          | ((with_reducible refine gate_ld rfl ?_); (try (refine gate_guard (by rfl) ?_; dsimp only)); refine wl_ld rfl rfl rfl I.out (by first | exact .head _ | exact .tail _ (.head _) | exact .tail _ (.tail _ (.head _)) | exact .tail _ (.tail _ (.tail _ (.head _)))) (by first | exact ld_pk | exact ld_pk0 | exact ld_pk1 | exact ld_pk3 | exact ld_st0 | exact ld_st2 | exact ld_st3 | exact ld_st) ?_)
          | ((with_reducible refine gate_callee (f := 27) rfl ?_); (try (refine gate_guard (by rfl) ?_; dsimp only)); refine goesL_ (some 68) rfl rfl Tryd.func27 (by kernel_rfl) rfl #[.agg (stC pc h 2 pxid sv v6 hi lo t1 t2 un se at_)] rfl (by (try simp only [List.map_toArray, List.map_cons, List.map_nil]); first | done | rfl) ?_; (refine (initial_c pc h 2 pxid sv v6 hi lo t1 t2 un se at_ _).mono ?_); rintro e_ w1 ⟨rfl, hb⟩; refine ⟨_, rfl, ?_⟩; have I2 := Aside0.mk (I.out.call hb); clear I hb; have I := I2; clear I2)
          | ((with_reducible refine gate_sr rfl ?_); refine wl_sr2 rfl rfl rfl rfl rfl I.out (by first | exact .head _ | exact .tail _ (.head _) | exact .tail _ (.tail _ (.head _)) | exact .tail _ (.tail _ (.tail _ (.head _)))) (by first | exact sr_st) (by first | exact .head | exact .tail .head | exact .tail (.tail .head) | exact .tail (.tail (.tail .head))) ?_; intro w1 hI; clear I; have I := Aside0.mk hI; clear hI)
          )
         refine bodyPost_ret (ret_ct rfl _ I.out _ rfl (by first | exact .head _ | exact .tail _ (.head _) | exact .tail _ (.tail _ (.head _)) | exact .tail _ (.tail _ (.tail _ (.head _)))) Tryd.underlying26 rfl (by kernel_rfl)) rfl ?_
         exact ⟨_, rfl, Pks_nil _ _, I.out.below⟩
       by_cases s4 : st = 4
       · subst s4
         have eF : recvF ⟨pc, h, 4, pxid, sv, ⟨v6, hi, lo⟩, t1, t2, un, se, at_⟩ 6 pxid psv pc ⟨v2, hi2, lo2⟩ n u1 u2 ok now = (initF ⟨pc, h, 4, pxid, sv, ⟨v6, hi, lo⟩, t1, t2, un, se, at_⟩, []) := by unfold recvF; rw [if_neg (fun hq => hq ⟨rfl, rfl⟩), if_neg (fun hq => absurd hq.1 (by decide)), if_neg (fun hq => absurd hq.1 (by decide)), if_pos ⟨rfl, .inr (.inl rfl)⟩]
         rw [eF]
         clear eF
         have I := Aside0.mk (Inv.start0 (w0 := w))
         go_enter Tryd.func12, Tryd.ntmps12
         go_wp2_with (first
          | ((with_reducible refine gate_box rfl ?_); refine wl_bx rfl rfl rfl I.out ?_; intro gb w1 hI; clear I; have I := Aside0.mk hI; clear hI)
          | ((with_reducible refine gate_alloc (ty := 26) rfl ?_); refine wl_box (t := 26) (cs := (stC (⟨#[]⟩ : ByteArray) (⟨#[]⟩ : ByteArray) 0 0 0 false 0 0 0 0 0 0 0)) rfl ?hr I.out ?_; (case hr => first | (go_simp; done) | (go_simp; rfl)); intro gb w1 hI; clear I; have I := Aside0.mk hI; clear hI)
          | ((with_reducible refine gate_ld rfl ?_); (try (refine gate_guard (by rfl) ?_; dsimp only)); refine wl_ld rfl rfl rfl I.out (by first | exact .head _ | exact .tail _ (.head _) | exact .tail _ (.tail _ (.head _)) | exact .tail _ (.tail _ (.tail _ (.head _)))) (by first | exact ld_pk | exact ld_pk0 | exact ld_pk1 | exact ld_pk3 | exact ld_st0 | exact ld_st2 | exact ld_st3 | exact ld_st) ?_)
          | ((with_reducible refine gate_callee (f := 27) rfl ?_); (try (refine gate_guard (by rfl) ?_; dsimp only)); refine goesL_ (some 68) rfl rfl Tryd.func27 (by kernel_rfl) rfl #[.agg (stC pc h 4 pxid sv v6 hi lo t1 t2 un se at_)] rfl (by (try simp only [List.map_toArray, List.map_cons, List.map_nil]); first | done | rfl) ?_; (refine (initial_c pc h 4 pxid sv v6 hi lo t1 t2 un se at_ _).mono ?_); rintro e_ w1 ⟨rfl, hb⟩; refine ⟨_, rfl, ?_⟩; have I2 := Aside0.mk (I.out.call hb); clear I hb; have I := I2; clear I2)
          | ((with_reducible refine gate_sr rfl ?_); refine wl_sr2 rfl rfl rfl rfl rfl I.out (by first | exact .head _ | exact .tail _ (.head _) | exact .tail _ (.tail _ (.head _)) | exact .tail _ (.tail _ (.tail _ (.head _)))) (by first | exact sr_st) (by first | exact .head | exact .tail .head | exact .tail (.tail .head) | exact .tail (.tail (.tail .head))) ?_; intro w1 hI; clear I; have I := Aside0.mk hI; clear hI)
          )
         refine bodyPost_ret (ret_ct rfl _ I.out _ rfl (by first | exact .head _ | exact .tail _ (.head _) | exact .tail _ (.tail _ (.head _)) | exact .tail _ (.tail _ (.tail _ (.head _)))) Tryd.underlying26 rfl (by kernel_rfl)) rfl ?_
         exact ⟨_, rfl, Pks_nil _ _, I.out.below⟩
       by_cases s5 : st = 5
       · subst s5
         have eF : recvF ⟨pc, h, 5, pxid, sv, ⟨v6, hi, lo⟩, t1, t2, un, se, at_⟩ 6 pxid psv pc ⟨v2, hi2, lo2⟩ n u1 u2 ok now = (initF ⟨pc, h, 5, pxid, sv, ⟨v6, hi, lo⟩, t1, t2, un, se, at_⟩, []) := by unfold recvF; rw [if_neg (fun hq => hq ⟨rfl, rfl⟩), if_neg (fun hq => absurd hq.1 (by decide)), if_neg (fun hq => absurd hq.1 (by decide)), if_pos ⟨rfl, .inr (.inr rfl)⟩]
         rw [eF]
         clear eF
         have I := Aside0.mk (Inv.start0 (w0 := w))
         go_enter Tryd.func12, Tryd.ntmps12
         go_wp2_with (first
          | ((with_reducible refine gate_box rfl ?_); refine wl_bx rfl rfl rfl I.out ?_; intro gb w1 hI; clear I; have I := Aside0.mk hI; clear hI)
          | ((with_reducible refine gate_alloc (ty := 26) rfl ?_); refine wl_box (t := 26) (cs := (stC (⟨#[]⟩ : ByteArray) (⟨#[]⟩ : ByteArray) 0 0 0 false 0 0 0 0 0 0 0)) rfl ?hr I.out ?_; (case hr => first | (go_simp; done) | (go_simp; rfl)); intro gb w1 hI; clear I; have I := Aside0.mk hI; clear hI)
          | ((with_reducible refine gate_ld rfl ?_); (try (refine gate_guard (by rfl) ?_; dsimp only)); refine wl_ld rfl rfl rfl I.out (by first | exact .head _ | exact .tail _ (.head _) | exact .tail _ (.tail _ (.head _)) | exact .tail _ (.tail _ (.tail _ (.head _)))) (by first | exact ld_pk | exact ld_pk0 | exact ld_pk1 | exact ld_pk3 | exact ld_st0 | exact ld_st2 | exact ld_st3 | exact ld_st) ?_)
          | ((with_reducible refine gate_callee (f := 27) rfl ?_); (try (refine gate_guard (by rfl) ?_; dsimp only)); refine goesL_ (some 68) rfl rfl Tryd.func27 (by kernel_rfl) rfl #[.agg (stC pc h 5 pxid sv v6 hi lo t1 t2 un se at_)] rfl (by (try simp only [List.map_toArray, List.map_cons, List.map_nil]); first | done | rfl) ?_; (refine (initial_c pc h 5 pxid sv v6 hi lo t1 t2 un se at_ _).mono ?_); rintro e_ w1 ⟨rfl, hb⟩; refine ⟨_, rfl, ?_⟩; have I2 := Aside0.mk (I.out.call hb); clear I hb; have I := I2; clear I2)
          | ((with_reducible refine gate_sr rfl ?_); refine wl_sr2 rfl rfl rfl rfl rfl I.out (by first | exact .head _ | exact .tail _ (.head _) | exact .tail _ (.tail _ (.head _)) | exact .tail _ (.tail _ (.tail _ (.head _)))) (by first | exact sr_st) (by first | exact .head | exact .tail .head | exact .tail (.tail .head) | exact .tail (.tail (.tail .head))) ?_; intro w1 hI; clear I; have I := Aside0.mk hI; clear hI)
          )
         refine bodyPost_ret (ret_ct rfl _ I.out _ rfl (by first | exact .head _ | exact .tail _ (.head _) | exact .tail _ (.tail _ (.head _)) | exact .tail _ (.tail _ (.tail _ (.head _)))) Tryd.underlying26 rfl (by kernel_rfl)) rfl ?_
         exact ⟨_, rfl, Pks_nil _ _, I.out.below⟩
       have e2 : (st == 2) = false := beq_eq_false_iff_ne.mpr s2
       have e4 : (st == 4) = false := beq_eq_false_iff_ne.mpr s4
       have e5 : (st == 5) = false := beq_eq_false_iff_ne.mpr s5
       have eF : recvF ⟨pc, h, st, pxid, sv, ⟨v6, hi, lo⟩, t1, t2, un, se, at_⟩ 6 pxid psv pc ⟨v2, hi2, lo2⟩ n u1 u2 ok now = (⟨pc, h, st, pxid, sv, ⟨v6, hi, lo⟩, t1, t2, un, se, at_⟩, []) := by unfold recvF; rw [if_neg (fun hq => hq ⟨rfl, rfl⟩), if_neg (fun hq => absurd hq.1 (by decide)), if_neg (fun hq => absurd hq.1 (by decide)), if_neg (fun hq => (fun hs => hs.elim s2 (fun hs => hs.elim s4 s5)) hq.2)]
       rw [eF]
       clear eF
       have I := Aside0.mk (Inv.start0 (w0 := w))
       go_enter Tryd.func12, Tryd.ntmps12
       go_wp2_with (first
        | ((with_reducible refine gate_box rfl ?_); refine wl_bx rfl rfl rfl I.out ?_; intro gb w1 hI; clear I; have I := Aside0.mk hI; clear hI)
        | ((with_reducible refine gate_alloc (ty := 26) rfl ?_); refine wl_box (t := 26) (cs := (stC (⟨#[]⟩ : ByteArray) (⟨#[]⟩ : ByteArray) 0 0 0 false 0 0 0 0 0 0 0)) rfl ?hr I.out ?_; (case hr => first | (go_simp; done) | (go_simp; rfl)); intro gb w1 hI; clear I; have I := Aside0.mk hI; clear hI)
        | ((with_reducible refine gate_ld rfl ?_); (try (refine gate_guard (by rfl) ?_; dsimp only)); refine wl_ld rfl rfl rfl I.out (by first | exact .head _ | exact .tail _ (.head _) | exact .tail _ (.tail _ (.head _)) | exact .tail _ (.tail _ (.tail _ (.head _)))) (by first | exact ld_pk | exact ld_pk0 | exact ld_pk1 | exact ld_pk3 | exact ld_st0 | exact ld_st2 | exact ld_st3 | exact ld_st) ?_)
        | ((with_reducible refine gate_sr rfl ?_); refine wl_sr2 rfl rfl rfl rfl rfl I.out (by first | exact .head _ | exact .tail _ (.head _) | exact .tail _ (.tail _ (.head _)) | exact .tail _ (.tail _ (.tail _ (.head _)))) (by first | exact sr_st) (by first | exact .head | exact .tail .head | exact .tail (.tail .head) | exact .tail (.tail (.tail .head))) ?_; intro w1 hI; clear I; have I := Aside0.mk hI; clear hI)
        )
       refine bodyPost_ret (ret_ct rfl _ I.out _ rfl (by first | exact .head _ | exact .tail _ (.head _) | exact .tail _ (.tail _ (.head _)) | exact .tail _ (.tail _ (.tail _ (.head _)))) Tryd.underlying26 rfl (by kernel_rfl)) rfl ?_
       exact ⟨_, rfl, Pks_nil _ _, I.out.below⟩
     by_cases s2 : st = 2
     · subst s2
       have g2 : (ki == 2) = false := beq_eq_false_iff_ne.mpr k2
       have g5 : (ki == 5) = false := beq_eq_false_iff_ne.mpr k5
       have g6 : (ki == 6) = false := beq_eq_false_iff_ne.mpr k6
       have eF : recvF ⟨pc, h, 2, pxid, sv, ⟨v6, hi, lo⟩, t1, t2, un, se, at_⟩ ki pxid psv pc ⟨v2, hi2, lo2⟩ n u1 u2 ok now = (⟨pc, h, 2, pxid, sv, ⟨v6, hi, lo⟩, t1, t2, un, se, at_⟩, []) := by unfold recvF; rw [if_neg (fun hq => hq ⟨rfl, rfl⟩), if_neg (fun hq => k2 hq.1), if_neg (fun hq => k5 hq.1), if_neg (fun hq => k6 hq.1)]
       rw [eF]
       clear eF
       have I := Aside0.mk (Inv.start0 (w0 := w))
       go_enter Tryd.func12, Tryd.ntmps12
       go_wp2_with (first
        | ((with_reducible refine gate_box rfl ?_); refine wl_bx rfl rfl rfl I.out ?_; intro gb w1 hI; clear I; have I := Aside0.mk hI; clear hI)
        | ((with_reducible refine gate_alloc (ty := 26) rfl ?_); refine wl_box (t := 26) (cs := (stC (⟨#[]⟩ : ByteArray) (⟨#[]⟩ : ByteArray) 0 0 0 false 0 0 0 0 0 0 0)) rfl ?hr I.out ?_; (case hr => first | (go_simp; done) | (go_simp; rfl)); intro gb w1 hI; clear I; have I := Aside0.mk hI; clear hI)
        | ((with_reducible refine gate_ld rfl ?_); (try (refine gate_guard (by rfl) ?_; dsimp only)); refine wl_ld rfl rfl rfl I.out (by first | exact .head _ | exact .tail _ (.head _) | exact .tail _ (.tail _ (.head _)) | exact .tail _ (.tail _ (.tail _ (.head _)))) (by first | exact ld_pk | exact ld_pk0 | exact ld_pk1 | exact ld_pk3 | exact ld_st0 | exact ld_st2 | exact ld_st3 | exact ld_st) ?_)
        | ((with_reducible refine gate_sr rfl ?_); refine wl_sr2 rfl rfl rfl rfl rfl I.out (by first | exact .head _ | exact .tail _ (.head _) | exact .tail _ (.tail _ (.head _)) | exact .tail _ (.tail _ (.tail _ (.head _)))) (by first | exact sr_st) (by first | exact .head | exact .tail .head | exact .tail (.tail .head) | exact .tail (.tail (.tail .head))) ?_; intro w1 hI; clear I; have I := Aside0.mk hI; clear hI)
        )
       refine bodyPost_ret (ret_ct rfl _ I.out _ rfl (by first | exact .head _ | exact .tail _ (.head _) | exact .tail _ (.tail _ (.head _)) | exact .tail _ (.tail _ (.tail _ (.head _)))) Tryd.underlying26 rfl (by kernel_rfl)) rfl ?_
       exact ⟨_, rfl, Pks_nil _ _, I.out.below⟩
     by_cases s4 : st = 4
     · subst s4
       have g2 : (ki == 2) = false := beq_eq_false_iff_ne.mpr k2
       have g5 : (ki == 5) = false := beq_eq_false_iff_ne.mpr k5
       have g6 : (ki == 6) = false := beq_eq_false_iff_ne.mpr k6
       have eF : recvF ⟨pc, h, 4, pxid, sv, ⟨v6, hi, lo⟩, t1, t2, un, se, at_⟩ ki pxid psv pc ⟨v2, hi2, lo2⟩ n u1 u2 ok now = (⟨pc, h, 4, pxid, sv, ⟨v6, hi, lo⟩, t1, t2, un, se, at_⟩, []) := by unfold recvF; rw [if_neg (fun hq => hq ⟨rfl, rfl⟩), if_neg (fun hq => k2 hq.1), if_neg (fun hq => k5 hq.1), if_neg (fun hq => k6 hq.1)]
       rw [eF]
       clear eF
       have I := Aside0.mk (Inv.start0 (w0 := w))
       go_enter Tryd.func12, Tryd.ntmps12
       go_wp2_with (first
        | ((with_reducible refine gate_box rfl ?_); refine wl_bx rfl rfl rfl I.out ?_; intro gb w1 hI; clear I; have I := Aside0.mk hI; clear hI)
        | ((with_reducible refine gate_alloc (ty := 26) rfl ?_); refine wl_box (t := 26) (cs := (stC (⟨#[]⟩ : ByteArray) (⟨#[]⟩ : ByteArray) 0 0 0 false 0 0 0 0 0 0 0)) rfl ?hr I.out ?_; (case hr => first | (go_simp; done) | (go_simp; rfl)); intro gb w1 hI; clear I; have I := Aside0.mk hI; clear hI)
        | ((with_reducible refine gate_ld rfl ?_); (try (refine gate_guard (by rfl) ?_; dsimp only)); refine wl_ld rfl rfl rfl I.out (by first | exact .head _ | exact .tail _ (.head _) | exact .tail _ (.tail _ (.head _)) | exact .tail _ (.tail _ (.tail _ (.head _)))) (by first | exact ld_pk | exact ld_pk0 | exact ld_pk1 | exact ld_pk3 | exact ld_st0 | exact ld_st2 | exact ld_st3 | exact ld_st) ?_)
        | ((with_reducible refine gate_sr rfl ?_); refine wl_sr2 rfl rfl rfl rfl rfl I.out (by first | exact .head _ | exact .tail _ (.head _) | exact .tail _ (.tail _ (.head _)) | exact .tail _ (.tail _ (.tail _ (.head _)))) (by first | exact sr_st) (by first | exact .head | exact .tail .head | exact .tail (.tail .head) | exact .tail (.tail (.tail .head))) ?_; intro w1 hI; clear I; have I := Aside0.mk hI; clear hI)
        )
       refine bodyPost_ret (ret_ct rfl _ I.out _ rfl (by first | exact .head _ | exact .tail _ (.head _) | exact .tail _ (.tail _ (.head _)) | exact .tail _ (.tail _ (.tail _ (.head _)))) Tryd.underlying26 rfl (by kernel_rfl)) rfl ?_
       exact ⟨_, rfl, Pks_nil _ _, I.out.below⟩
     by_cases s5 : st = 5
     · subst s5
       have g2 : (ki == 2) = false := beq_eq_false_iff_ne.mpr k2
       have g5 : (ki == 5) = false := beq_eq_false_iff_ne.mpr k5
       have g6 : (ki == 6) = false := beq_eq_false_iff_ne.mpr k6
       have eF : recvF ⟨pc, h, 5, pxid, sv, ⟨v6, hi, lo⟩, t1, t2, un, se, at_⟩ ki pxid psv pc ⟨v2, hi2, lo2⟩ n u1 u2 ok now = (⟨pc, h, 5, pxid, sv, ⟨v6, hi, lo⟩, t1, t2, un, se, at_⟩, []) := by unfold recvF; rw [if_neg (fun hq => hq ⟨rfl, rfl⟩), if_neg (fun hq => k2 hq.1), if_neg (fun hq => k5 hq.1), if_neg (fun hq => k6 hq.1)]
       rw [eF]
       clear eF
       have I := Aside0.mk (Inv.start0 (w0 := w))
       go_enter Tryd.func12, Tryd.ntmps12
       go_wp2_with (first
        | ((with_reducible refine gate_box rfl ?_); refine wl_bx rfl rfl rfl I.out ?_; intro gb w1 hI; clear I; have I := Aside0.mk hI; clear hI)
        | ((with_reducible refine gate_alloc (ty := 26) rfl ?_); refine wl_box (t := 26) (cs := (stC (⟨#[]⟩ : ByteArray) (⟨#[]⟩ : ByteArray) 0 0 0 false 0 0 0 0 0 0 0)) rfl ?hr I.out ?_; (case hr => first | (go_simp; done) | (go_simp; rfl)); intro gb w1 hI; clear I; have I := Aside0.mk hI; clear hI)
        | ((with_reducible refine gate_ld rfl ?_); (try (refine gate_guard (by rfl) ?_; dsimp only)); refine wl_ld rfl rfl rfl I.out (by first | exact .head _ | exact .tail _ (.head _) | exact .tail _ (.tail _ (.head _)) | exact .tail _ (.tail _ (.tail _ (.head _)))) (by first | exact ld_pk | exact ld_pk0 | exact ld_pk1 | exact ld_pk3 | exact ld_st0 | exact ld_st2 | exact ld_st3 | exact ld_st) ?_)
        | ((with_reducible refine gate_sr rfl ?_); refine wl_sr2 rfl rfl rfl rfl rfl I.out (by first | exact .head _ | exact .tail _ (.head _) | exact .tail _ (.tail _ (.head _)) | exact .tail _ (.tail _ (.tail _ (.head _)))) (by first | exact sr_st) (by first | exact .head | exact .tail .head | exact .tail (.tail .head) | exact .tail (.tail (.tail .head))) ?_; intro w1 hI; clear I; have I := Aside0.mk hI; clear hI)
        )
       refine bodyPost_ret (ret_ct rfl _ I.out _ rfl (by first | exact .head _ | exact .tail _ (.head _) | exact .tail _ (.tail _ (.head _)) | exact .tail _ (.tail _ (.tail _ (.head _)))) Tryd.underlying26 rfl (by kernel_rfl)) rfl ?_
       exact ⟨_, rfl, Pks_nil _ _, I.out.below⟩
     have e2 : (st == 2) = false := beq_eq_false_iff_ne.mpr s2
     have e4 : (st == 4) = false := beq_eq_false_iff_ne.mpr s4
     have e5 : (st == 5) = false := beq_eq_false_iff_ne.mpr s5
     have g2 : (ki == 2) = false := beq_eq_false_iff_ne.mpr k2
     have g5 : (ki == 5) = false := beq_eq_false_iff_ne.mpr k5
     have g6 : (ki == 6) = false := beq_eq_false_iff_ne.mpr k6
     have eF : recvF ⟨pc, h, st, pxid, sv, ⟨v6, hi, lo⟩, t1, t2, un, se, at_⟩ ki pxid psv pc ⟨v2, hi2, lo2⟩ n u1 u2 ok now = (⟨pc, h, st, pxid, sv, ⟨v6, hi, lo⟩, t1, t2, un, se, at_⟩, []) := by unfold recvF; rw [if_neg (fun hq => hq ⟨rfl, rfl⟩), if_neg (fun hq => k2 hq.1), if_neg (fun hq => k5 hq.1), if_neg (fun hq => k6 hq.1)]
     rw [eF]
     clear eF
     have I := Aside0.mk (Inv.start0 (w0 := w))
     go_enter Tryd.func12, Tryd.ntmps12
     go_wp2_with (first
      | ((with_reducible refine gate_box rfl ?_); refine wl_bx rfl rfl rfl I.out ?_; intro gb w1 hI; clear I; have I := Aside0.mk hI; clear hI)
      | ((with_reducible refine gate_alloc (ty := 26) rfl ?_); refine wl_box (t := 26) (cs := (stC (⟨#[]⟩ : ByteArray) (⟨#[]⟩ : ByteArray) 0 0 0 false 0 0 0 0 0 0 0)) rfl ?hr I.out ?_; (case hr => first | (go_simp; done) | (go_simp; rfl)); intro gb w1 hI; clear I; have I := Aside0.mk hI; clear hI)
      | ((with_reducible refine gate_ld rfl ?_); (try (refine gate_guard (by rfl) ?_; dsimp only)); refine wl_ld rfl rfl rfl I.out (by first | exact .head _ | exact .tail _ (.head _) | exact .tail _ (.tail _ (.head _)) | exact .tail _ (.tail _ (.tail _ (.head _)))) (by first | exact ld_pk | exact ld_pk0 | exact ld_pk1 | exact ld_pk3 | exact ld_st0 | exact ld_st2 | exact ld_st3 | exact ld_st) ?_)
      | ((with_reducible refine gate_sr rfl ?_); refine wl_sr2 rfl rfl rfl rfl rfl I.out (by first | exact .head _ | exact .tail _ (.head _) | exact .tail _ (.tail _ (.head _)) | exact .tail _ (.tail _ (.tail _ (.head _)))) (by first | exact sr_st) (by first | exact .head | exact .tail .head | exact .tail (.tail .head) | exact .tail (.tail (.tail .head))) ?_; intro w1 hI; clear I; have I := Aside0.mk hI; clear hI)
      )
     refine bodyPost_ret (ret_ct rfl _ I.out _ rfl (by first | exact .head _ | exact .tail _ (.head _) | exact .tail _ (.tail _ (.head _)) | exact .tail _ (.tail _ (.tail _ (.head _)))) Tryd.underlying26 rfl (by kernel_rfl)) rfl ?_
     exact ⟨_, rfl, Pks_nil _ _, I.out.below⟩
   have hL0 : ¬ pc.toList = c.toList := fun h2 => hq (bytes_inj h2)
   have hq2 : (pc.toList == c.toList) = false := beq_eq_false_iff_ne.mpr hL0
   have hq3 : (pc.toList != c.toList) = true := bne_iff_ne.mpr hL0
   have eF : recvF ⟨c, h, st, pxid, sv, ⟨v6, hi, lo⟩, t1, t2, un, se, at_⟩ ki pxid psv pc ⟨v2, hi2, lo2⟩ n u1 u2 ok now = (⟨c, h, st, pxid, sv, ⟨v6, hi, lo⟩, t1, t2, un, se, at_⟩, []) := by unfold recvF; rw [if_pos (fun h2 => hq h2.2)]
   rw [eF]
   clear eF
   have I := Aside0.mk (Inv.start0 (w0 := w))
   go_enter Tryd.func12, Tryd.ntmps12
   go_wp2_with (first
    | ((with_reducible refine gate_box rfl ?_); refine wl_bx rfl rfl rfl I.out ?_; intro gb w1 hI; clear I; have I := Aside0.mk hI; clear hI)
    | ((with_reducible refine gate_alloc (ty := 26) rfl ?_); refine wl_box (t := 26) (cs := (stC (⟨#[]⟩ : ByteArray) (⟨#[]⟩ : ByteArray) 0 0 0 false 0 0 0 0 0 0 0)) rfl ?hr I.out ?_; (case hr => first | (go_simp; done) | (go_simp; rfl)); intro gb w1 hI; clear I; have I := Aside0.mk hI; clear hI)
    | ((with_reducible refine gate_ld rfl ?_); (try (refine gate_guard (by rfl) ?_; dsimp only)); refine wl_ld rfl rfl rfl I.out (by first | exact .head _ | exact .tail _ (.head _) | exact .tail _ (.tail _ (.head _)) | exact .tail _ (.tail _ (.tail _ (.head _)))) (by first | exact ld_pk | exact ld_pk0 | exact ld_pk1 | exact ld_pk3 | exact ld_st0 | exact ld_st2 | exact ld_st3 | exact ld_st) ?_)
    | ((with_reducible refine gate_sr rfl ?_); refine wl_sr2 rfl rfl rfl rfl rfl I.out (by first | exact .head _ | exact .tail _ (.head _) | exact .tail _ (.tail _ (.head _)) | exact .tail _ (.tail _ (.tail _ (.head _)))) (by first | exact sr_st) (by first | exact .head | exact .tail .head | exact .tail (.tail .head) | exact .tail (.tail (.tail .head))) ?_; intro w1 hI; clear I; have I := Aside0.mk hI; clear hI)
    )
   refine bodyPost_ret (ret_ct rfl _ I.out _ rfl (by first | exact .head _ | exact .tail _ (.head _) | exact .tail _ (.tail _ (.head _)) | exact .tail _ (.tail _ (.tail _ (.head _)))) Tryd.underlying26 rfl (by kernel_rfl)) rfl ?_
   exact ⟨_, rfl, Pks_nil _ _, I.out.below⟩
 have hq2 : (pxid == xid) = false := beq_eq_false_iff_ne.mpr hp
 have hq3 : (pxid != xid) = true := bne_iff_ne.mpr hp
 have eF : recvF ⟨c, h, st, xid, sv, ⟨v6, hi, lo⟩, t1, t2, un, se, at_⟩ ki pxid psv pc ⟨v2, hi2, lo2⟩ n u1 u2 ok now = (⟨c, h, st, xid, sv, ⟨v6, hi, lo⟩, t1, t2, un, se, at_⟩, []) := by unfold recvF; rw [if_pos (fun h2 => hp h2.1)]
 rw [eF]
 clear eF
 have I := Aside0.mk (Inv.start0 (w0 := w))
 go_enter Tryd.func12, Tryd.ntmps12
 go_wp2_with (first
  | ((with_reducible refine gate_box rfl ?_); refine wl_bx rfl rfl rfl I.out ?_; intro gb w1 hI; clear I; have I := Aside0.mk hI; clear hI)
  | ((with_reducible refine gate_alloc (ty := 26) rfl ?_); refine wl_box (t := 26) (cs := (stC (⟨#[]⟩ : ByteArray) (⟨#[]⟩ : ByteArray) 0 0 0 false 0 0 0 0 0 0 0)) rfl ?hr I.out ?_; (case hr => first | (go_simp; done) | (go_simp; rfl)); intro gb w1 hI; clear I; have I := Aside0.mk hI; clear hI)
  | ((with_reducible refine gate_ld rfl ?_); (try (refine gate_guard (by rfl) ?_; dsimp only)); refine wl_ld rfl rfl rfl I.out (by first | exact .head _ | exact .tail _ (.head _) | exact .tail _ (.tail _ (.head _)) | exact .tail _ (.tail _ (.tail _ (.head _)))) (by first | exact ld_pk | exact ld_pk0 | exact ld_pk1 | exact ld_pk3 | exact ld_st0 | exact ld_st2 | exact ld_st3 | exact ld_st) ?_)
  | ((with_reducible refine gate_sr rfl ?_); refine wl_sr2 rfl rfl rfl rfl rfl I.out (by first | exact .head _ | exact .tail _ (.head _) | exact .tail _ (.tail _ (.head _)) | exact .tail _ (.tail _ (.tail _ (.head _)))) (by first | exact sr_st) (by first | exact .head | exact .tail .head | exact .tail (.tail .head) | exact .tail (.tail (.tail .head))) ?_; intro w1 hI; clear I; have I := Aside0.mk hI; clear hI)
  )
 refine bodyPost_ret (ret_ct rfl _ I.out _ rfl (by first | exact .head _ | exact .tail _ (.head _) | exact .tail _ (.tail _ (.head _)) | exact .tail _ (.tail _ (.tail _ (.head _)))) Tryd.underlying26 rfl (by kernel_rfl)) rfl ?_
 exact ⟨_, rfl, Pks_nil _ _, I.out.below⟩
end Go.Proofs.YtlabnocmmeciaaaDoor.BQ


namespace Go.Proofs.YtlabnocmmeciaaaDoor.BQ
open Go Go.RowKit Go.Proofs.YtlabnocmmeciaaaDoorW.PrintWords Go.Proofs.YtlabnocmmeciaaaDoorW.PrintLast Go.Proofs.YtlabnocmmeciaaaDoorW.PrintMore Go.Proofs.YtlabnocmmeciaaaDoor.Pa Go.Proofs.YtlabnocmmeciaaaDoor.STN
set_option linter.unusedVariables false
set_option linter.unusedSimpArgs false
set_option maxHeartbeats 4000000 in
set_option maxRecDepth 100000 in
theorem asking_c (s : Stn) (now : Int) (w : World) (hx0 : 0 ≤ s.xid) (hs : 0 ≤ s.se ∧ s.se ≤ 4294967295) (ht : 1 ≤ s.tr ∧ s.tr ≤ 4) (hW : ∃ b, option_Value.f 1000 [s.a] = some (wantF s.a, b)) : Calls Tryd.prog 25 #[.agg (stA s), .int .i64 now] w (Ret (askF s now) w) := by
 have hu26 := Tryd.underlying26
 have hu39 := Tryd.underlying39
 have hu24 := Tryd.underlying24
 obtain ⟨c, h, st, xid, sv, ⟨v6, hi, lo⟩, t1, t2, un, se, at_⟩ := s
 obtain ⟨bW, hW⟩ := hW
 replace hx0 : 0 ≤ xid := hx0
 replace hs : 0 ≤ se ∧ se ≤ 4294967295 := hs
 replace ht : 1 ≤ at_ ∧ at_ ≤ 4 := ht
 have hW := Aside0.mk hW
 show Calls Tryd.prog 25 #[.agg (stC c h st xid sv v6 hi lo t1 t2 un se at_), .int .i64 now] w _
 have h4 : at_ = 1 ∨ at_ = 2 ∨ at_ = 3 ∨ at_ = 4 := by omega
 clear ht
 rcases h4 with rfl | rfl | rfl | rfl
 ·
  by_cases hn : now < min (se + 4) 4294967295
  · have e1 : decide (now < min (se + 4) 4294967295) = true := decide_eq_true hn
    have eF : askF ⟨c, h, st, xid, sv, ⟨v6, hi, lo⟩, t1, t2, un, se, 1⟩ now = (⟨c, h, st, xid, sv, ⟨v6, hi, lo⟩, t1, t2, un, se, 1⟩, []) := by unfold askF; exact if_pos hn
    rw [eF]
    clear eF
    clear hn
    have I := Aside0.mk (Inv.start0 (w0 := w))
    go_enter Tryd.func25, Tryd.ntmps25
    go_wp2_with (first
     | ((with_reducible refine gate_box rfl ?_); refine wl_bx rfl rfl rfl I.out ?_; intro gb w1 hI; clear I; have I := Aside0.mk hI; clear hI)
     | ((with_reducible refine gate_alloc (ty := 26) rfl ?_); refine wl_box (t := 26) (cs := (stC (⟨#[]⟩ : ByteArray) (⟨#[]⟩ : ByteArray) 0 0 0 false 0 0 0 0 0 0 0)) rfl ?hr I.out ?_; (case hr => first | (go_simp; done) | (go_simp; rfl)); intro gb w1 hI; clear I; have I := Aside0.mk hI; clear hI)
     | ((with_reducible refine gate_ld rfl ?_); (try (refine gate_guard (by rfl) ?_; dsimp only)); refine wl_ld rfl rfl rfl I.out (by first | exact .head _ | exact .tail _ (.head _) | exact .tail _ (.tail _ (.head _)) | exact .tail _ (.tail _ (.tail _ (.head _)))) (by first | exact ld_st11 | exact ld_st12 | exact ld_st2 | exact ld_st) ?_)
     | ((with_reducible refine gate_callee (f := 26) rfl ?_); (try (refine gate_guard (by rfl) ?_; dsimp only)); refine goesL_ (some 16) rfl rfl Tryd.func26 (by kernel_rfl) rfl #[.int .i64 se, .int .i64 4] rfl (by kernel_rfl) ?_; (refine (after_c se 4 _ hs.1 hs.2 (by omega) (by omega)).mono ?_); rintro e_ w1 ⟨rfl, rfl⟩; refine ⟨_, rfl, ?_⟩; skip)
     | ((with_reducible refine gate_sr rfl ?_); refine wl_sr2 rfl rfl rfl rfl rfl I.out (by first | exact .head _ | exact .tail _ (.head _) | exact .tail _ (.tail _ (.head _)) | exact .tail _ (.tail _ (.tail _ (.head _)))) (by first | exact sr_st) (by first | exact .head | exact .tail .head | exact .tail (.tail .head) | exact .tail (.tail (.tail .head))) ?_; intro w1 hI; clear I; have I := Aside0.mk hI; clear hI)
     )
    refine bodyPost_ret (ret_ct rfl _ I.out _ rfl (by first | exact .head _ | exact .tail _ (.head _) | exact .tail _ (.tail _ (.head _)) | exact .tail _ (.tail _ (.tail _ (.head _)))) Tryd.underlying26 rfl (by kernel_rfl)) rfl ?_
    exact ⟨_, rfl, Pks_nil _ _, I.out.below⟩
  have e1 : decide (now < min (se + 4) 4294967295) = false := decide_eq_false hn
  by_cases h1 : st = 1
  · subst h1
    have eF : askF ⟨c, h, 1, xid, sv, ⟨v6, hi, lo⟩, t1, t2, un, se, 1⟩ now = stepF ⟨c, h, 1, xid, sv, ⟨v6, hi, lo⟩, t1, t2, un, se, 1⟩ 1 0 zA [] 1 (1 + 1) now := by unfold askF; exact ((if_neg hn).trans (if_neg (show ¬ (4 : Int) ≤ 1 by decide))).trans (if_pos rfl)
    rw [eF]
    clear eF
    clear hn
    have I := Aside0.mk (Inv.start0 (w0 := w))
    go_enter Tryd.func25, Tryd.ntmps25
    go_wp2_with (first
     | ((with_reducible refine gate_box rfl ?_); refine wl_bx rfl rfl rfl I.out ?_; intro gb w1 hI; clear I; have I := Aside0.mk hI; clear hI)
     | ((with_reducible refine gate_alloc (ty := 26) rfl ?_); refine wl_box (t := 26) (cs := (stC (⟨#[]⟩ : ByteArray) (⟨#[]⟩ : ByteArray) 0 0 0 false 0 0 0 0 0 0 0)) rfl ?hr I.out ?_; (case hr => first | (go_simp; done) | (go_simp; rfl)); intro gb w1 hI; clear I; have I := Aside0.mk hI; clear hI)
     | ((with_reducible refine gate_ld rfl ?_); (try (refine gate_guard (by rfl) ?_; dsimp only)); refine wl_ld rfl rfl rfl I.out (by first | exact .head _ | exact .tail _ (.head _) | exact .tail _ (.tail _ (.head _)) | exact .tail _ (.tail _ (.tail _ (.head _)))) (by first | exact ld_st11 | exact ld_st12 | exact ld_st2 | exact ld_st) ?_)
     | ((with_reducible refine gate_callee (f := 26) rfl ?_); (try (refine gate_guard (by rfl) ?_; dsimp only)); refine goesL_ (some 16) rfl rfl Tryd.func26 (by kernel_rfl) rfl #[.int .i64 se, .int .i64 4] rfl (by kernel_rfl) ?_; (refine (after_c se 4 _ hs.1 hs.2 (by omega) (by omega)).mono ?_); rintro e_ w1 ⟨rfl, rfl⟩; refine ⟨_, rfl, ?_⟩; skip)
     | ((with_reducible refine gate_sr rfl ?_); refine wl_sr2 rfl rfl rfl rfl rfl I.out (by first | exact .head _ | exact .tail _ (.head _) | exact .tail _ (.tail _ (.head _)) | exact .tail _ (.tail _ (.tail _ (.head _)))) (by first | exact sr_st) (by first | exact .head | exact .tail .head | exact .tail (.tail .head) | exact .tail (.tail (.tail .head))) ?_; intro w1 hI; clear I; have I := Aside0.mk hI; clear hI)
     )
    have IS := Aside0.mk (I.out.sub (.cons _ (.cons_cons _ .slnil))).drew
    refine draw_ (Inv _ w [_] _) [11] (by kernel_rfl) rfl IS.out ?_
    have I2 := Aside0.mk I.out.drew
    clear I
    have I := I2
    clear I2
    refine ta1 (i := 0) rfl rfl (by kernel_rfl) rfl rfl IS.out (by first | exact .head _ | exact .tail _ (.head _) | exact .tail _ (.tail _ (.head _)) | exact .tail _ (.tail _ (.tail _ (.head _)))) (by exact ld_st) ?_ (ha := by (go_simp; rfl))
    refine pu1 (i := 2) rfl rfl (by kernel_rfl) ?_ (ha := by (go_simp; rfl))
    refine ta1 (i := 3) rfl rfl (by kernel_rfl) rfl rfl IS.out (by first | exact .head _ | exact .tail _ (.head _) | exact .tail _ (.tail _ (.head _)) | exact .tail _ (.tail _ (.tail _ (.head _)))) (by exact ld_st2) ?_ (ha := by (go_simp; rfl))
    refine pu1 (i := 4) rfl rfl (by kernel_rfl) ?_ (ha := by (go_simp; rfl))
    refine ta1 (i := 5) rfl rfl (by kernel_rfl) rfl rfl IS.out (by first | exact .head _ | exact .tail _ (.head _) | exact .tail _ (.tail _ (.head _)) | exact .tail _ (.tail _ (.tail _ (.head _)))) (by exact ld_st12) ?_ (ha := by (go_simp; rfl))
    refine pu1 (i := 6) rfl rfl (by kernel_rfl) ?_ (ha := by (go_simp; rfl))
    refine pu1 (i := 7) rfl rfl (by kernel_rfl) ?_ (ha := by (go_simp; rfl))
    refine ca1 (i := 1) rfl rfl (by kernel_rfl) (by decide) Tryd.func24 (by kernel_rfl) rfl #[] rfl (by (try simp only [List.map_toArray, List.map_cons, List.map_nil]); first | done | rfl) ?_
    refine (discover_c _).mono ?_
    rintro e_ w1 ⟨rfl, hb⟩
    have I2 := Aside0.mk (I.out.call hb)
    clear I hb
    have I := I2
    clear I2
    clear IS
    have IS := Aside0.mk ((I.out.imp (fun _ _ => trivial)).sub (.cons _ (.cons_cons _ .slnil)))
    refine ⟨_, rfl, IS.out, ?_⟩
    refine ca1 (i := 8) rfl rfl (by kernel_rfl) (by decide) Tryd.func23 (by kernel_rfl) rfl #[.agg (stC c h 1 xid sv v6 hi lo t1 t2 un se 1), .agg (pkC 1 0 0 (⟨#[]⟩ : ByteArray) false 0 0 false 0 0 false 0 0 false (.slice none 0 0)), .int .i64 (1), .int .i64 (1 + 1), .int .i64 now] rfl (by (try simp only [List.map_toArray, List.map_cons, List.map_nil]); first | done | rfl) ?_
    refine (step_c ⟨c, h, 1, xid, sv, ⟨v6, hi, lo⟩, t1, t2, un, se, 1⟩ 1 0 zA none 0 [] (fun _ => False) (1) (1 + 1) now _ hx0 (foot_no _ none 0) (Nat.le_refl _) okO_nil).mono ?_
    rintro e_ w1 ⟨v, rfl, hf, hb⟩
    have I2 := Aside0.mk (I.out.addNew hb hf (fun k hk _ => hk.elim False.elim (fun h_ => I.out.new_out k h_)))
    clear hf
    clear I hb
    have I := I2
    clear I2
    clear IS
    have IS := Aside0.mk ((I.out.imp (fun _ _ => trivial)).sub (.cons _ (.cons_cons _ .slnil)))
    refine ⟨_, rfl, IS.out, ?_⟩
    refine pu1 (i := 9) rfl rfl (by kernel_rfl) ?_ (ha := by (go_simp; rfl))
    refine pu1 (i := 10) rfl rfl (by kernel_rfl) ?_ (ha := by (go_simp; rfl))
    refine sl1 (i := 11) rfl rfl (by kernel_rfl) (by decide) rfl rfl rfl I.out (by first | exact .head _ | exact .tail _ (.head _) | exact .tail _ (.tail _ (.head _)) | exact .tail _ (.tail _ (.tail _ (.head _)))) (by first | exact sr_st) (by first | exact .head | exact .tail .head | exact .tail (.tail .head) | exact .tail (.tail (.tail .head))) (fun w1 hI => ?_)
    clear I
    have I := Aside0.mk hI
    clear hI
    refine pu1 (i := 12) rfl rfl (by kernel_rfl) ?_ (ha := by (go_simp; rfl))
    refine do1 (by kernel_rfl) ?_
    clear IS
    try go_wp2
    refine bodyPost_ret (ret_ct rfl _ I.out _ rfl (by first | exact .head _ | exact .tail _ (.head _) | exact .tail _ (.tail _ (.head _)) | exact .tail _ (.tail _ (.tail _ (.head _)))) Tryd.underlying26 rfl (by kernel_rfl)) rfl ?_
    exact ⟨_, rfl, foot_new (I.out.foot.imp (fun W hW => hW.2)), I.out.below⟩
  have eF : askF ⟨c, h, st, xid, sv, ⟨v6, hi, lo⟩, t1, t2, un, se, 1⟩ now = stepF ⟨c, h, st, xid, sv, ⟨v6, hi, lo⟩, t1, t2, un, se, 1⟩ 3 sv zA [⟨50, wantF ⟨v6, hi, lo⟩⟩] st (1 + 1) now := by unfold askF; exact ((if_neg hn).trans (if_neg (show ¬ (4 : Int) ≤ 1 by decide))).trans (if_neg h1)
  rw [eF]
  clear eF
  replace h1 : (st == 1) = false := beq_eq_false_iff_ne.mpr h1
  clear hn
  have I := Aside0.mk (Inv.start0 (w0 := w))
  go_enter Tryd.func25, Tryd.ntmps25
  go_wp2_with (first
   | ((with_reducible refine gate_box rfl ?_); refine wl_bx rfl rfl rfl I.out ?_; intro gb w1 hI; clear I; have I := Aside0.mk hI; clear hI)
   | ((with_reducible refine gate_alloc (ty := 26) rfl ?_); refine wl_box (t := 26) (cs := (stC (⟨#[]⟩ : ByteArray) (⟨#[]⟩ : ByteArray) 0 0 0 false 0 0 0 0 0 0 0)) rfl ?hr I.out ?_; (case hr => first | (go_simp; done) | (go_simp; rfl)); intro gb w1 hI; clear I; have I := Aside0.mk hI; clear hI)
   | ((with_reducible refine gate_ld rfl ?_); (try (refine gate_guard (by rfl) ?_; dsimp only)); refine wl_ld rfl rfl rfl I.out (by first | exact .head _ | exact .tail _ (.head _) | exact .tail _ (.tail _ (.head _)) | exact .tail _ (.tail _ (.tail _ (.head _)))) (by first | exact ld_st11 | exact ld_st12 | exact ld_st2 | exact ld_st) ?_)
   | ((with_reducible refine gate_callee (f := 26) rfl ?_); (try (refine gate_guard (by rfl) ?_; dsimp only)); refine goesL_ (some 16) rfl rfl Tryd.func26 (by kernel_rfl) rfl #[.int .i64 se, .int .i64 4] rfl (by kernel_rfl) ?_; (refine (after_c se 4 _ hs.1 hs.2 (by omega) (by omega)).mono ?_); rintro e_ w1 ⟨rfl, rfl⟩; refine ⟨_, rfl, ?_⟩; skip)
   | ((with_reducible refine gate_sr rfl ?_); refine wl_sr2 rfl rfl rfl rfl rfl I.out (by first | exact .head _ | exact .tail _ (.head _) | exact .tail _ (.tail _ (.head _)) | exact .tail _ (.tail _ (.tail _ (.head _)))) (by first | exact sr_st) (by first | exact .head | exact .tail .head | exact .tail (.tail .head) | exact .tail (.tail (.tail .head))) ?_; intro w1 hI; clear I; have I := Aside0.mk hI; clear hI)
   )
  have IS := Aside0.mk (I.out.sub (.cons _ (.cons_cons _ .slnil))).drew
  refine draw_ (Inv _ w [_] _) [12] (by kernel_rfl) rfl IS.out ?_
  have I2 := Aside0.mk I.out.drew
  clear I
  have I := I2
  clear I2
  refine ta1 (i := 0) rfl rfl (by kernel_rfl) rfl rfl IS.out (by first | exact .head _ | exact .tail _ (.head _) | exact .tail _ (.tail _ (.head _)) | exact .tail _ (.tail _ (.tail _ (.head _)))) (by exact ld_st) ?_ (ha := by (go_simp; rfl))
  refine ta1 (i := 1) rfl rfl (by kernel_rfl) rfl rfl IS.out (by first | exact .head _ | exact .tail _ (.head _) | exact .tail _ (.tail _ (.head _)) | exact .tail _ (.tail _ (.tail _ (.head _)))) (by exact ld_st) ?_ (ha := by (go_simp; rfl))
  refine pu1 (i := 3) rfl rfl (by kernel_rfl) ?_ (ha := by (go_simp; rfl))
  refine ta1 (i := 4) rfl rfl (by kernel_rfl) rfl rfl IS.out (by first | exact .head _ | exact .tail _ (.head _) | exact .tail _ (.tail _ (.head _)) | exact .tail _ (.tail _ (.tail _ (.head _)))) (by exact ld_st2) ?_ (ha := by (go_simp; rfl))
  refine pu1 (i := 5) rfl rfl (by kernel_rfl) ?_ (ha := by (go_simp; rfl))
  refine ta1 (i := 6) rfl rfl (by kernel_rfl) rfl rfl IS.out (by first | exact .head _ | exact .tail _ (.head _) | exact .tail _ (.tail _ (.head _)) | exact .tail _ (.tail _ (.tail _ (.head _)))) (by exact ld_st12) ?_ (ha := by (go_simp; rfl))
  refine pu1 (i := 7) rfl rfl (by kernel_rfl) ?_ (ha := by (go_simp; rfl))
  refine pu1 (i := 8) rfl rfl (by kernel_rfl) ?_ (ha := by (go_simp; rfl))
  refine ca1 (i := 2) rfl rfl (by kernel_rfl) (by decide) Tryd.func49 (by kernel_rfl) rfl #[.agg (stC c h st xid sv v6 hi lo t1 t2 un se 1)] rfl (by (try simp only [List.map_toArray, List.map_cons, List.map_nil]); first | done | rfl) ?_
  refine (request_c c h st xid sv v6 hi lo t1 t2 un se 1 1000 (wantF ⟨v6, hi, lo⟩) bW _ hW.out).mono ?_
  rintro e_ w1 ⟨g, rfl, hf, hb⟩
  have I2 := Aside0.mk (I.out.addNew hb hf (fun k hk _ => I.out.new_out k hk))
  clear hf
  clear I hb
  have I := I2
  clear I2
  clear IS
  have IS := Aside0.mk ((I.out.imp (fun _ _ => trivial)).sub (.cons _ (.cons_cons _ .slnil)))
  refine ⟨_, rfl, IS.out, ?_⟩
  refine ca1 (i := 9) rfl rfl (by kernel_rfl) (by decide) Tryd.func23 (by kernel_rfl) rfl #[.agg (stC c h st xid sv v6 hi lo t1 t2 un se 1), .agg (pkC 3 0 sv (⟨#[]⟩ : ByteArray) false 0 0 false 0 0 false 0 0 false (.slice (some ⟨g, 0, none⟩) 1 1)), .int .i64 (st), .int .i64 (1 + 1), .int .i64 now] rfl (by (try simp only [List.map_toArray, List.map_cons, List.map_nil]); first | done | rfl) ?_
  refine (step_c ⟨c, h, st, xid, sv, ⟨v6, hi, lo⟩, t1, t2, un, se, 1⟩ 3 sv zA (some ⟨g, 0, none⟩) 1 [⟨50, wantF ⟨v6, hi, lo⟩⟩] _ (st) (1 + 1) now _ hx0 (I.out.foot.imp (fun W hW => hW.2)) (Nat.le_refl _) (okO_want _)).mono ?_
  rintro e_ w1 ⟨v, rfl, hf, hb⟩
  have I2 := Aside0.mk (I.out.addNew hb hf (fun k hk _ => hk.elim id (fun h_ => I.out.new_out k h_)))
  clear hf
  clear I hb
  have I := I2
  clear I2
  clear IS
  have IS := Aside0.mk ((I.out.imp (fun _ _ => trivial)).sub (.cons _ (.cons_cons _ .slnil)))
  refine ⟨_, rfl, IS.out, ?_⟩
  refine pu1 (i := 10) rfl rfl (by kernel_rfl) ?_ (ha := by (go_simp; rfl))
  refine pu1 (i := 11) rfl rfl (by kernel_rfl) ?_ (ha := by (go_simp; rfl))
  refine sl1 (i := 12) rfl rfl (by kernel_rfl) (by decide) rfl rfl rfl I.out (by first | exact .head _ | exact .tail _ (.head _) | exact .tail _ (.tail _ (.head _)) | exact .tail _ (.tail _ (.tail _ (.head _)))) (by first | exact sr_st) (by first | exact .head | exact .tail .head | exact .tail (.tail .head) | exact .tail (.tail (.tail .head))) (fun w1 hI => ?_)
  clear I
  have I := Aside0.mk hI
  clear hI
  refine pu1 (i := 13) rfl rfl (by kernel_rfl) ?_ (ha := by (go_simp; rfl))
  refine do1 (by kernel_rfl) ?_
  clear IS
  try go_wp2
  refine bodyPost_ret (ret_ct rfl _ I.out _ rfl (by first | exact .head _ | exact .tail _ (.head _) | exact .tail _ (.tail _ (.head _)) | exact .tail _ (.tail _ (.tail _ (.head _)))) Tryd.underlying26 rfl (by kernel_rfl)) rfl ?_
  exact ⟨_, rfl, foot_new (I.out.foot.imp (fun W hW => hW.2)), I.out.below⟩
 ·
  by_cases hn : now < min (se + 8) 4294967295
  · have e1 : decide (now < min (se + 8) 4294967295) = true := decide_eq_true hn
    have eF : askF ⟨c, h, st, xid, sv, ⟨v6, hi, lo⟩, t1, t2, un, se, 2⟩ now = (⟨c, h, st, xid, sv, ⟨v6, hi, lo⟩, t1, t2, un, se, 2⟩, []) := by unfold askF; exact if_pos hn
    rw [eF]
    clear eF
    clear hn
    have I := Aside0.mk (Inv.start0 (w0 := w))
    go_enter Tryd.func25, Tryd.ntmps25
    go_wp2_with (first
     | ((with_reducible refine gate_box rfl ?_); refine wl_bx rfl rfl rfl I.out ?_; intro gb w1 hI; clear I; have I := Aside0.mk hI; clear hI)
     | ((with_reducible refine gate_alloc (ty := 26) rfl ?_); refine wl_box (t := 26) (cs := (stC (⟨#[]⟩ : ByteArray) (⟨#[]⟩ : ByteArray) 0 0 0 false 0 0 0 0 0 0 0)) rfl ?hr I.out ?_; (case hr => first | (go_simp; done) | (go_simp; rfl)); intro gb w1 hI; clear I; have I := Aside0.mk hI; clear hI)
     | ((with_reducible refine gate_ld rfl ?_); (try (refine gate_guard (by rfl) ?_; dsimp only)); refine wl_ld rfl rfl rfl I.out (by first | exact .head _ | exact .tail _ (.head _) | exact .tail _ (.tail _ (.head _)) | exact .tail _ (.tail _ (.tail _ (.head _)))) (by first | exact ld_st11 | exact ld_st12 | exact ld_st2 | exact ld_st) ?_)
     | ((with_reducible refine gate_callee (f := 26) rfl ?_); (try (refine gate_guard (by rfl) ?_; dsimp only)); refine goesL_ (some 16) rfl rfl Tryd.func26 (by kernel_rfl) rfl #[.int .i64 se, .int .i64 8] rfl (by kernel_rfl) ?_; (refine (after_c se 8 _ hs.1 hs.2 (by omega) (by omega)).mono ?_); rintro e_ w1 ⟨rfl, rfl⟩; refine ⟨_, rfl, ?_⟩; skip)
     | ((with_reducible refine gate_sr rfl ?_); refine wl_sr2 rfl rfl rfl rfl rfl I.out (by first | exact .head _ | exact .tail _ (.head _) | exact .tail _ (.tail _ (.head _)) | exact .tail _ (.tail _ (.tail _ (.head _)))) (by first | exact sr_st) (by first | exact .head | exact .tail .head | exact .tail (.tail .head) | exact .tail (.tail (.tail .head))) ?_; intro w1 hI; clear I; have I := Aside0.mk hI; clear hI)
     )
    refine bodyPost_ret (ret_ct rfl _ I.out _ rfl (by first | exact .head _ | exact .tail _ (.head _) | exact .tail _ (.tail _ (.head _)) | exact .tail _ (.tail _ (.tail _ (.head _)))) Tryd.underlying26 rfl (by kernel_rfl)) rfl ?_
    exact ⟨_, rfl, Pks_nil _ _, I.out.below⟩
  have e1 : decide (now < min (se + 8) 4294967295) = false := decide_eq_false hn
  by_cases h1 : st = 1
  · subst h1
    have eF : askF ⟨c, h, 1, xid, sv, ⟨v6, hi, lo⟩, t1, t2, un, se, 2⟩ now = stepF ⟨c, h, 1, xid, sv, ⟨v6, hi, lo⟩, t1, t2, un, se, 2⟩ 1 0 zA [] 1 (2 + 1) now := by unfold askF; exact ((if_neg hn).trans (if_neg (show ¬ (4 : Int) ≤ 2 by decide))).trans (if_pos rfl)
    rw [eF]
    clear eF
    clear hn
    have I := Aside0.mk (Inv.start0 (w0 := w))
    go_enter Tryd.func25, Tryd.ntmps25
    go_wp2_with (first
     | ((with_reducible refine gate_box rfl ?_); refine wl_bx rfl rfl rfl I.out ?_; intro gb w1 hI; clear I; have I := Aside0.mk hI; clear hI)
     | ((with_reducible refine gate_alloc (ty := 26) rfl ?_); refine wl_box (t := 26) (cs := (stC (⟨#[]⟩ : ByteArray) (⟨#[]⟩ : ByteArray) 0 0 0 false 0 0 0 0 0 0 0)) rfl ?hr I.out ?_; (case hr => first | (go_simp; done) | (go_simp; rfl)); intro gb w1 hI; clear I; have I := Aside0.mk hI; clear hI)
     | ((with_reducible refine gate_ld rfl ?_); (try (refine gate_guard (by rfl) ?_; dsimp only)); refine wl_ld rfl rfl rfl I.out (by first | exact .head _ | exact .tail _ (.head _) | exact .tail _ (.tail _ (.head _)) | exact .tail _ (.tail _ (.tail _ (.head _)))) (by first | exact ld_st11 | exact ld_st12 | exact ld_st2 | exact ld_st) ?_)
     | ((with_reducible refine gate_callee (f := 26) rfl ?_); (try (refine gate_guard (by rfl) ?_; dsimp only)); refine goesL_ (some 16) rfl rfl Tryd.func26 (by kernel_rfl) rfl #[.int .i64 se, .int .i64 8] rfl (by kernel_rfl) ?_; (refine (after_c se 8 _ hs.1 hs.2 (by omega) (by omega)).mono ?_); rintro e_ w1 ⟨rfl, rfl⟩; refine ⟨_, rfl, ?_⟩; skip)
     | ((with_reducible refine gate_sr rfl ?_); refine wl_sr2 rfl rfl rfl rfl rfl I.out (by first | exact .head _ | exact .tail _ (.head _) | exact .tail _ (.tail _ (.head _)) | exact .tail _ (.tail _ (.tail _ (.head _)))) (by first | exact sr_st) (by first | exact .head | exact .tail .head | exact .tail (.tail .head) | exact .tail (.tail (.tail .head))) ?_; intro w1 hI; clear I; have I := Aside0.mk hI; clear hI)
     )
    have IS := Aside0.mk (I.out.sub (.cons _ (.cons_cons _ .slnil))).drew
    refine draw_ (Inv _ w [_] _) [11] (by kernel_rfl) rfl IS.out ?_
    have I2 := Aside0.mk I.out.drew
    clear I
    have I := I2
    clear I2
    refine ta1 (i := 0) rfl rfl (by kernel_rfl) rfl rfl IS.out (by first | exact .head _ | exact .tail _ (.head _) | exact .tail _ (.tail _ (.head _)) | exact .tail _ (.tail _ (.tail _ (.head _)))) (by exact ld_st) ?_ (ha := by (go_simp; rfl))
    refine pu1 (i := 2) rfl rfl (by kernel_rfl) ?_ (ha := by (go_simp; rfl))
    refine ta1 (i := 3) rfl rfl (by kernel_rfl) rfl rfl IS.out (by first | exact .head _ | exact .tail _ (.head _) | exact .tail _ (.tail _ (.head _)) | exact .tail _ (.tail _ (.tail _ (.head _)))) (by exact ld_st2) ?_ (ha := by (go_simp; rfl))
    refine pu1 (i := 4) rfl rfl (by kernel_rfl) ?_ (ha := by (go_simp; rfl))
    refine ta1 (i := 5) rfl rfl (by kernel_rfl) rfl rfl IS.out (by first | exact .head _ | exact .tail _ (.head _) | exact .tail _ (.tail _ (.head _)) | exact .tail _ (.tail _ (.tail _ (.head _)))) (by exact ld_st12) ?_ (ha := by (go_simp; rfl))
    refine pu1 (i := 6) rfl rfl (by kernel_rfl) ?_ (ha := by (go_simp; rfl))
    refine pu1 (i := 7) rfl rfl (by kernel_rfl) ?_ (ha := by (go_simp; rfl))
    refine ca1 (i := 1) rfl rfl (by kernel_rfl) (by decide) Tryd.func24 (by kernel_rfl) rfl #[] rfl (by (try simp only [List.map_toArray, List.map_cons, List.map_nil]); first | done | rfl) ?_
    refine (discover_c _).mono ?_
    rintro e_ w1 ⟨rfl, hb⟩
    have I2 := Aside0.mk (I.out.call hb)
    clear I hb
    have I := I2
    clear I2
    clear IS
    have IS := Aside0.mk ((I.out.imp (fun _ _ => trivial)).sub (.cons _ (.cons_cons _ .slnil)))
    refine ⟨_, rfl, IS.out, ?_⟩
    refine ca1 (i := 8) rfl rfl (by kernel_rfl) (by decide) Tryd.func23 (by kernel_rfl) rfl #[.agg (stC c h 1 xid sv v6 hi lo t1 t2 un se 2), .agg (pkC 1 0 0 (⟨#[]⟩ : ByteArray) false 0 0 false 0 0 false 0 0 false (.slice none 0 0)), .int .i64 (1), .int .i64 (2 + 1), .int .i64 now] rfl (by (try simp only [List.map_toArray, List.map_cons, List.map_nil]); first | done | rfl) ?_
    refine (step_c ⟨c, h, 1, xid, sv, ⟨v6, hi, lo⟩, t1, t2, un, se, 2⟩ 1 0 zA none 0 [] (fun _ => False) (1) (2 + 1) now _ hx0 (foot_no _ none 0) (Nat.le_refl _) okO_nil).mono ?_
    rintro e_ w1 ⟨v, rfl, hf, hb⟩
    have I2 := Aside0.mk (I.out.addNew hb hf (fun k hk _ => hk.elim False.elim (fun h_ => I.out.new_out k h_)))
    clear hf
    clear I hb
    have I := I2
    clear I2
    clear IS
    have IS := Aside0.mk ((I.out.imp (fun _ _ => trivial)).sub (.cons _ (.cons_cons _ .slnil)))
    refine ⟨_, rfl, IS.out, ?_⟩
    refine pu1 (i := 9) rfl rfl (by kernel_rfl) ?_ (ha := by (go_simp; rfl))
    refine pu1 (i := 10) rfl rfl (by kernel_rfl) ?_ (ha := by (go_simp; rfl))
    refine sl1 (i := 11) rfl rfl (by kernel_rfl) (by decide) rfl rfl rfl I.out (by first | exact .head _ | exact .tail _ (.head _) | exact .tail _ (.tail _ (.head _)) | exact .tail _ (.tail _ (.tail _ (.head _)))) (by first | exact sr_st) (by first | exact .head | exact .tail .head | exact .tail (.tail .head) | exact .tail (.tail (.tail .head))) (fun w1 hI => ?_)
    clear I
    have I := Aside0.mk hI
    clear hI
    refine pu1 (i := 12) rfl rfl (by kernel_rfl) ?_ (ha := by (go_simp; rfl))
    refine do1 (by kernel_rfl) ?_
    clear IS
    try go_wp2
    refine bodyPost_ret (ret_ct rfl _ I.out _ rfl (by first | exact .head _ | exact .tail _ (.head _) | exact .tail _ (.tail _ (.head _)) | exact .tail _ (.tail _ (.tail _ (.head _)))) Tryd.underlying26 rfl (by kernel_rfl)) rfl ?_
    exact ⟨_, rfl, foot_new (I.out.foot.imp (fun W hW => hW.2)), I.out.below⟩
  have eF : askF ⟨c, h, st, xid, sv, ⟨v6, hi, lo⟩, t1, t2, un, se, 2⟩ now = stepF ⟨c, h, st, xid, sv, ⟨v6, hi, lo⟩, t1, t2, un, se, 2⟩ 3 sv zA [⟨50, wantF ⟨v6, hi, lo⟩⟩] st (2 + 1) now := by unfold askF; exact ((if_neg hn).trans (if_neg (show ¬ (4 : Int) ≤ 2 by decide))).trans (if_neg h1)
  rw [eF]
  clear eF
  replace h1 : (st == 1) = false := beq_eq_false_iff_ne.mpr h1
  clear hn
  have I := Aside0.mk (Inv.start0 (w0 := w))
  go_enter Tryd.func25, Tryd.ntmps25
  go_wp2_with (first
   | ((with_reducible refine gate_box rfl ?_); refine wl_bx rfl rfl rfl I.out ?_; intro gb w1 hI; clear I; have I := Aside0.mk hI; clear hI)
   | ((with_reducible refine gate_alloc (ty := 26) rfl ?_); refine wl_box (t := 26) (cs := (stC (⟨#[]⟩ : ByteArray) (⟨#[]⟩ : ByteArray) 0 0 0 false 0 0 0 0 0 0 0)) rfl ?hr I.out ?_; (case hr => first | (go_simp; done) | (go_simp; rfl)); intro gb w1 hI; clear I; have I := Aside0.mk hI; clear hI)
   | ((with_reducible refine gate_ld rfl ?_); (try (refine gate_guard (by rfl) ?_; dsimp only)); refine wl_ld rfl rfl rfl I.out (by first | exact .head _ | exact .tail _ (.head _) | exact .tail _ (.tail _ (.head _)) | exact .tail _ (.tail _ (.tail _ (.head _)))) (by first | exact ld_st11 | exact ld_st12 | exact ld_st2 | exact ld_st) ?_)
   | ((with_reducible refine gate_callee (f := 26) rfl ?_); (try (refine gate_guard (by rfl) ?_; dsimp only)); refine goesL_ (some 16) rfl rfl Tryd.func26 (by kernel_rfl) rfl #[.int .i64 se, .int .i64 8] rfl (by kernel_rfl) ?_; (refine (after_c se 8 _ hs.1 hs.2 (by omega) (by omega)).mono ?_); rintro e_ w1 ⟨rfl, rfl⟩; refine ⟨_, rfl, ?_⟩; skip)
   | ((with_reducible refine gate_sr rfl ?_); refine wl_sr2 rfl rfl rfl rfl rfl I.out (by first | exact .head _ | exact .tail _ (.head _) | exact .tail _ (.tail _ (.head _)) | exact .tail _ (.tail _ (.tail _ (.head _)))) (by first | exact sr_st) (by first | exact .head | exact .tail .head | exact .tail (.tail .head) | exact .tail (.tail (.tail .head))) ?_; intro w1 hI; clear I; have I := Aside0.mk hI; clear hI)
   )
  have IS := Aside0.mk (I.out.sub (.cons _ (.cons_cons _ .slnil))).drew
  refine draw_ (Inv _ w [_] _) [12] (by kernel_rfl) rfl IS.out ?_
  have I2 := Aside0.mk I.out.drew
  clear I
  have I := I2
  clear I2
  refine ta1 (i := 0) rfl rfl (by kernel_rfl) rfl rfl IS.out (by first | exact .head _ | exact .tail _ (.head _) | exact .tail _ (.tail _ (.head _)) | exact .tail _ (.tail _ (.tail _ (.head _)))) (by exact ld_st) ?_ (ha := by (go_simp; rfl))
  refine ta1 (i := 1) rfl rfl (by kernel_rfl) rfl rfl IS.out (by first | exact .head _ | exact .tail _ (.head _) | exact .tail _ (.tail _ (.head _)) | exact .tail _ (.tail _ (.tail _ (.head _)))) (by exact ld_st) ?_ (ha := by (go_simp; rfl))
  refine pu1 (i := 3) rfl rfl (by kernel_rfl) ?_ (ha := by (go_simp; rfl))
  refine ta1 (i := 4) rfl rfl (by kernel_rfl) rfl rfl IS.out (by first | exact .head _ | exact .tail _ (.head _) | exact .tail _ (.tail _ (.head _)) | exact .tail _ (.tail _ (.tail _ (.head _)))) (by exact ld_st2) ?_ (ha := by (go_simp; rfl))
  refine pu1 (i := 5) rfl rfl (by kernel_rfl) ?_ (ha := by (go_simp; rfl))
  refine ta1 (i := 6) rfl rfl (by kernel_rfl) rfl rfl IS.out (by first | exact .head _ | exact .tail _ (.head _) | exact .tail _ (.tail _ (.head _)) | exact .tail _ (.tail _ (.tail _ (.head _)))) (by exact ld_st12) ?_ (ha := by (go_simp; rfl))
  refine pu1 (i := 7) rfl rfl (by kernel_rfl) ?_ (ha := by (go_simp; rfl))
  refine pu1 (i := 8) rfl rfl (by kernel_rfl) ?_ (ha := by (go_simp; rfl))
  refine ca1 (i := 2) rfl rfl (by kernel_rfl) (by decide) Tryd.func49 (by kernel_rfl) rfl #[.agg (stC c h st xid sv v6 hi lo t1 t2 un se 2)] rfl (by (try simp only [List.map_toArray, List.map_cons, List.map_nil]); first | done | rfl) ?_
  refine (request_c c h st xid sv v6 hi lo t1 t2 un se 2 1000 (wantF ⟨v6, hi, lo⟩) bW _ hW.out).mono ?_
  rintro e_ w1 ⟨g, rfl, hf, hb⟩
  have I2 := Aside0.mk (I.out.addNew hb hf (fun k hk _ => I.out.new_out k hk))
  clear hf
  clear I hb
  have I := I2
  clear I2
  clear IS
  have IS := Aside0.mk ((I.out.imp (fun _ _ => trivial)).sub (.cons _ (.cons_cons _ .slnil)))
  refine ⟨_, rfl, IS.out, ?_⟩
  refine ca1 (i := 9) rfl rfl (by kernel_rfl) (by decide) Tryd.func23 (by kernel_rfl) rfl #[.agg (stC c h st xid sv v6 hi lo t1 t2 un se 2), .agg (pkC 3 0 sv (⟨#[]⟩ : ByteArray) false 0 0 false 0 0 false 0 0 false (.slice (some ⟨g, 0, none⟩) 1 1)), .int .i64 (st), .int .i64 (2 + 1), .int .i64 now] rfl (by (try simp only [List.map_toArray, List.map_cons, List.map_nil]); first | done | rfl) ?_
  refine (step_c ⟨c, h, st, xid, sv, ⟨v6, hi, lo⟩, t1, t2, un, se, 2⟩ 3 sv zA (some ⟨g, 0, none⟩) 1 [⟨50, wantF ⟨v6, hi, lo⟩⟩] _ (st) (2 + 1) now _ hx0 (I.out.foot.imp (fun W hW => hW.2)) (Nat.le_refl _) (okO_want _)).mono ?_
  rintro e_ w1 ⟨v, rfl, hf, hb⟩
  have I2 := Aside0.mk (I.out.addNew hb hf (fun k hk _ => hk.elim id (fun h_ => I.out.new_out k h_)))
  clear hf
  clear I hb
  have I := I2
  clear I2
  clear IS
  have IS := Aside0.mk ((I.out.imp (fun _ _ => trivial)).sub (.cons _ (.cons_cons _ .slnil)))
  refine ⟨_, rfl, IS.out, ?_⟩
  refine pu1 (i := 10) rfl rfl (by kernel_rfl) ?_ (ha := by (go_simp; rfl))
  refine pu1 (i := 11) rfl rfl (by kernel_rfl) ?_ (ha := by (go_simp; rfl))
  refine sl1 (i := 12) rfl rfl (by kernel_rfl) (by decide) rfl rfl rfl I.out (by first | exact .head _ | exact .tail _ (.head _) | exact .tail _ (.tail _ (.head _)) | exact .tail _ (.tail _ (.tail _ (.head _)))) (by first | exact sr_st) (by first | exact .head | exact .tail .head | exact .tail (.tail .head) | exact .tail (.tail (.tail .head))) (fun w1 hI => ?_)
  clear I
  have I := Aside0.mk hI
  clear hI
  refine pu1 (i := 13) rfl rfl (by kernel_rfl) ?_ (ha := by (go_simp; rfl))
  refine do1 (by kernel_rfl) ?_
  clear IS
  try go_wp2
  refine bodyPost_ret (ret_ct rfl _ I.out _ rfl (by first | exact .head _ | exact .tail _ (.head _) | exact .tail _ (.tail _ (.head _)) | exact .tail _ (.tail _ (.tail _ (.head _)))) Tryd.underlying26 rfl (by kernel_rfl)) rfl ?_
  exact ⟨_, rfl, foot_new (I.out.foot.imp (fun W hW => hW.2)), I.out.below⟩
 ·
  by_cases hn : now < min (se + 16) 4294967295
  · have e1 : decide (now < min (se + 16) 4294967295) = true := decide_eq_true hn
    have eF : askF ⟨c, h, st, xid, sv, ⟨v6, hi, lo⟩, t1, t2, un, se, 3⟩ now = (⟨c, h, st, xid, sv, ⟨v6, hi, lo⟩, t1, t2, un, se, 3⟩, []) := by unfold askF; exact if_pos hn
    rw [eF]
    clear eF
    clear hn
    have I := Aside0.mk (Inv.start0 (w0 := w))
    go_enter Tryd.func25, Tryd.ntmps25
    go_wp2_with (first
     | ((with_reducible refine gate_box rfl ?_); refine wl_bx rfl rfl rfl I.out ?_; intro gb w1 hI; clear I; have I := Aside0.mk hI; clear hI)
     | ((with_reducible refine gate_alloc (ty := 26) rfl ?_); refine wl_box (t := 26) (cs := (stC (⟨#[]⟩ : ByteArray) (⟨#[]⟩ : ByteArray) 0 0 0 false 0 0 0 0 0 0 0)) rfl ?hr I.out ?_; (case hr => first | (go_simp; done) | (go_simp; rfl)); intro gb w1 hI; clear I; have I := Aside0.mk hI; clear hI)
     | ((with_reducible refine gate_ld rfl ?_); (try (refine gate_guard (by rfl) ?_; dsimp only)); refine wl_ld rfl rfl rfl I.out (by first | exact .head _ | exact .tail _ (.head _) | exact .tail _ (.tail _ (.head _)) | exact .tail _ (.tail _ (.tail _ (.head _)))) (by first | exact ld_st11 | exact ld_st12 | exact ld_st2 | exact ld_st) ?_)
     | ((with_reducible refine gate_callee (f := 26) rfl ?_); (try (refine gate_guard (by rfl) ?_; dsimp only)); refine goesL_ (some 16) rfl rfl Tryd.func26 (by kernel_rfl) rfl #[.int .i64 se, .int .i64 16] rfl (by kernel_rfl) ?_; (refine (after_c se 16 _ hs.1 hs.2 (by omega) (by omega)).mono ?_); rintro e_ w1 ⟨rfl, rfl⟩; refine ⟨_, rfl, ?_⟩; skip)
     | ((with_reducible refine gate_sr rfl ?_); refine wl_sr2 rfl rfl rfl rfl rfl I.out (by first | exact .head _ | exact .tail _ (.head _) | exact .tail _ (.tail _ (.head _)) | exact .tail _ (.tail _ (.tail _ (.head _)))) (by first | exact sr_st) (by first | exact .head | exact .tail .head | exact .tail (.tail .head) | exact .tail (.tail (.tail .head))) ?_; intro w1 hI; clear I; have I := Aside0.mk hI; clear hI)
     )
    refine bodyPost_ret (ret_ct rfl _ I.out _ rfl (by first | exact .head _ | exact .tail _ (.head _) | exact .tail _ (.tail _ (.head _)) | exact .tail _ (.tail _ (.tail _ (.head _)))) Tryd.underlying26 rfl (by kernel_rfl)) rfl ?_
    exact ⟨_, rfl, Pks_nil _ _, I.out.below⟩
  have e1 : decide (now < min (se + 16) 4294967295) = false := decide_eq_false hn
  by_cases h1 : st = 1
  · subst h1
    have eF : askF ⟨c, h, 1, xid, sv, ⟨v6, hi, lo⟩, t1, t2, un, se, 3⟩ now = stepF ⟨c, h, 1, xid, sv, ⟨v6, hi, lo⟩, t1, t2, un, se, 3⟩ 1 0 zA [] 1 (3 + 1) now := by unfold askF; exact ((if_neg hn).trans (if_neg (show ¬ (4 : Int) ≤ 3 by decide))).trans (if_pos rfl)
    rw [eF]
    clear eF
    clear hn
    have I := Aside0.mk (Inv.start0 (w0 := w))
    go_enter Tryd.func25, Tryd.ntmps25
    go_wp2_with (first
     | ((with_reducible refine gate_box rfl ?_); refine wl_bx rfl rfl rfl I.out ?_; intro gb w1 hI; clear I; have I := Aside0.mk hI; clear hI)
     | ((with_reducible refine gate_alloc (ty := 26) rfl ?_); refine wl_box (t := 26) (cs := (stC (⟨#[]⟩ : ByteArray) (⟨#[]⟩ : ByteArray) 0 0 0 false 0 0 0 0 0 0 0)) rfl ?hr I.out ?_; (case hr => first | (go_simp; done) | (go_simp; rfl)); intro gb w1 hI; clear I; have I := Aside0.mk hI; clear hI)
     | ((with_reducible refine gate_ld rfl ?_); (try (refine gate_guard (by rfl) ?_; dsimp only)); refine wl_ld rfl rfl rfl I.out (by first | exact .head _ | exact .tail _ (.head _) | exact .tail _ (.tail _ (.head _)) | exact .tail _ (.tail _ (.tail _ (.head _)))) (by first | exact ld_st11 | exact ld_st12 | exact ld_st2 | exact ld_st) ?_)
     | ((with_reducible refine gate_callee (f := 26) rfl ?_); (try (refine gate_guard (by rfl) ?_; dsimp only)); refine goesL_ (some 16) rfl rfl Tryd.func26 (by kernel_rfl) rfl #[.int .i64 se, .int .i64 16] rfl (by kernel_rfl) ?_; (refine (after_c se 16 _ hs.1 hs.2 (by omega) (by omega)).mono ?_); rintro e_ w1 ⟨rfl, rfl⟩; refine ⟨_, rfl, ?_⟩; skip)
     | ((with_reducible refine gate_sr rfl ?_); refine wl_sr2 rfl rfl rfl rfl rfl I.out (by first | exact .head _ | exact .tail _ (.head _) | exact .tail _ (.tail _ (.head _)) | exact .tail _ (.tail _ (.tail _ (.head _)))) (by first | exact sr_st) (by first | exact .head | exact .tail .head | exact .tail (.tail .head) | exact .tail (.tail (.tail .head))) ?_; intro w1 hI; clear I; have I := Aside0.mk hI; clear hI)
     )
    have IS := Aside0.mk (I.out.sub (.cons _ (.cons_cons _ .slnil))).drew
    refine draw_ (Inv _ w [_] _) [11] (by kernel_rfl) rfl IS.out ?_
    have I2 := Aside0.mk I.out.drew
    clear I
    have I := I2
    clear I2
    refine ta1 (i := 0) rfl rfl (by kernel_rfl) rfl rfl IS.out (by first | exact .head _ | exact .tail _ (.head _) | exact .tail _ (.tail _ (.head _)) | exact .tail _ (.tail _ (.tail _ (.head _)))) (by exact ld_st) ?_ (ha := by (go_simp; rfl))
    refine pu1 (i := 2) rfl rfl (by kernel_rfl) ?_ (ha := by (go_simp; rfl))
    refine ta1 (i := 3) rfl rfl (by kernel_rfl) rfl rfl IS.out (by first | exact .head _ | exact .tail _ (.head _) | exact .tail _ (.tail _ (.head _)) | exact .tail _ (.tail _ (.tail _ (.head _)))) (by exact ld_st2) ?_ (ha := by (go_simp; rfl))
    refine pu1 (i := 4) rfl rfl (by kernel_rfl) ?_ (ha := by (go_simp; rfl))
    refine ta1 (i := 5) rfl rfl (by kernel_rfl) rfl rfl IS.out (by first | exact .head _ | exact .tail _ (.head _) | exact .tail _ (.tail _ (.head _)) | exact .tail _ (.tail _ (.tail _ (.head _)))) (by exact ld_st12) ?_ (ha := by (go_simp; rfl))
    refine pu1 (i := 6) rfl rfl (by kernel_rfl) ?_ (ha := by (go_simp; rfl))
    refine pu1 (i := 7) rfl rfl (by kernel_rfl) ?_ (ha := by (go_simp; rfl))
    refine ca1 (i := 1) rfl rfl (by kernel_rfl) (by decide) Tryd.func24 (by kernel_rfl) rfl #[] rfl (by (try simp only [List.map_toArray, List.map_cons, List.map_nil]); first | done | rfl) ?_
    refine (discover_c _).mono ?_
    rintro e_ w1 ⟨rfl, hb⟩
    have I2 := Aside0.mk (I.out.call hb)
    clear I hb
    have I := I2
    clear I2
    clear IS
    have IS := Aside0.mk ((I.out.imp (fun _ _ => trivial)).sub (.cons _ (.cons_cons _ .slnil)))
    refine ⟨_, rfl, IS.out, ?_⟩
    refine ca1 (i := 8) rfl rfl (by kernel_rfl) (by decide) Tryd.func23 (by kernel_rfl) rfl #[.agg (stC c h 1 xid sv v6 hi lo t1 t2 un se 3), .agg (pkC 1 0 0 (⟨#[]⟩ : ByteArray) false 0 0 false 0 0 false 0 0 false (.slice none 0 0)), .int .i64 (1), .int .i64 (3 + 1), .int .i64 now] rfl (by (try simp only [List.map_toArray, List.map_cons, List.map_nil]); first | done | rfl) ?_
    refine (step_c ⟨c, h, 1, xid, sv, ⟨v6, hi, lo⟩, t1, t2, un, se, 3⟩ 1 0 zA none 0 [] (fun _ => False) (1) (3 + 1) now _ hx0 (foot_no _ none 0) (Nat.le_refl _) okO_nil).mono ?_
    rintro e_ w1 ⟨v, rfl, hf, hb⟩
    have I2 := Aside0.mk (I.out.addNew hb hf (fun k hk _ => hk.elim False.elim (fun h_ => I.out.new_out k h_)))
    clear hf
    clear I hb
    have I := I2
    clear I2
    clear IS
    have IS := Aside0.mk ((I.out.imp (fun _ _ => trivial)).sub (.cons _ (.cons_cons _ .slnil)))
    refine ⟨_, rfl, IS.out, ?_⟩
    refine pu1 (i := 9) rfl rfl (by kernel_rfl) ?_ (ha := by (go_simp; rfl))
    refine pu1 (i := 10) rfl rfl (by kernel_rfl) ?_ (ha := by (go_simp; rfl))
    refine sl1 (i := 11) rfl rfl (by kernel_rfl) (by decide) rfl rfl rfl I.out (by first | exact .head _ | exact .tail _ (.head _) | exact .tail _ (.tail _ (.head _)) | exact .tail _ (.tail _ (.tail _ (.head _)))) (by first | exact sr_st) (by first | exact .head | exact .tail .head | exact .tail (.tail .head) | exact .tail (.tail (.tail .head))) (fun w1 hI => ?_)
    clear I
    have I := Aside0.mk hI
    clear hI
    refine pu1 (i := 12) rfl rfl (by kernel_rfl) ?_ (ha := by (go_simp; rfl))
    refine do1 (by kernel_rfl) ?_
    clear IS
    try go_wp2
    refine bodyPost_ret (ret_ct rfl _ I.out _ rfl (by first | exact .head _ | exact .tail _ (.head _) | exact .tail _ (.tail _ (.head _)) | exact .tail _ (.tail _ (.tail _ (.head _)))) Tryd.underlying26 rfl (by kernel_rfl)) rfl ?_
    exact ⟨_, rfl, foot_new (I.out.foot.imp (fun W hW => hW.2)), I.out.below⟩
  have eF : askF ⟨c, h, st, xid, sv, ⟨v6, hi, lo⟩, t1, t2, un, se, 3⟩ now = stepF ⟨c, h, st, xid, sv, ⟨v6, hi, lo⟩, t1, t2, un, se, 3⟩ 3 sv zA [⟨50, wantF ⟨v6, hi, lo⟩⟩] st (3 + 1) now := by unfold askF; exact ((if_neg hn).trans (if_neg (show ¬ (4 : Int) ≤ 3 by decide))).trans (if_neg h1)
  rw [eF]
  clear eF
  replace h1 : (st == 1) = false := beq_eq_false_iff_ne.mpr h1
  clear hn
  have I := Aside0.mk (Inv.start0 (w0 := w))
  go_enter Tryd.func25, Tryd.ntmps25
  go_wp2_with (first
   | ((with_reducible refine gate_box rfl ?_); refine wl_bx rfl rfl rfl I.out ?_; intro gb w1 hI; clear I; have I := Aside0.mk hI; clear hI)
   | ((with_reducible refine gate_alloc (ty := 26) rfl ?_); refine wl_box (t := 26) (cs := (stC (⟨#[]⟩ : ByteArray) (⟨#[]⟩ : ByteArray) 0 0 0 false 0 0 0 0 0 0 0)) rfl ?hr I.out ?_; (case hr => first | (go_simp; done) | (go_simp; rfl)); intro gb w1 hI; clear I; have I := Aside0.mk hI; clear hI)
   | ((with_reducible refine gate_ld rfl ?_); (try (refine gate_guard (by rfl) ?_; dsimp only)); refine wl_ld rfl rfl rfl I.out (by first | exact .head _ | exact .tail _ (.head _) | exact .tail _ (.tail _ (.head _)) | exact .tail _ (.tail _ (.tail _ (.head _)))) (by first | exact ld_st11 | exact ld_st12 | exact ld_st2 | exact ld_st) ?_)
   | ((with_reducible refine gate_callee (f := 26) rfl ?_); (try (refine gate_guard (by rfl) ?_; dsimp only)); refine goesL_ (some 16) rfl rfl Tryd.func26 (by kernel_rfl) rfl #[.int .i64 se, .int .i64 16] rfl (by kernel_rfl) ?_; (refine (after_c se 16 _ hs.1 hs.2 (by omega) (by omega)).mono ?_); rintro e_ w1 ⟨rfl, rfl⟩; refine ⟨_, rfl, ?_⟩; skip)
   | ((with_reducible refine gate_sr rfl ?_); refine wl_sr2 rfl rfl rfl rfl rfl I.out (by first | exact .head _ | exact .tail _ (.head _) | exact .tail _ (.tail _ (.head _)) | exact .tail _ (.tail _ (.tail _ (.head _)))) (by first | exact sr_st) (by first | exact .head | exact .tail .head | exact .tail (.tail .head) | exact .tail (.tail (.tail .head))) ?_; intro w1 hI; clear I; have I := Aside0.mk hI; clear hI)
   )
  have IS := Aside0.mk (I.out.sub (.cons _ (.cons_cons _ .slnil))).drew
  refine draw_ (Inv _ w [_] _) [12] (by kernel_rfl) rfl IS.out ?_
  have I2 := Aside0.mk I.out.drew
  clear I
  have I := I2
  clear I2
  refine ta1 (i := 0) rfl rfl (by kernel_rfl) rfl rfl IS.out (by first | exact .head _ | exact .tail _ (.head _) | exact .tail _ (.tail _ (.head _)) | exact .tail _ (.tail _ (.tail _ (.head _)))) (by exact ld_st) ?_ (ha := by (go_simp; rfl))
  refine ta1 (i := 1) rfl rfl (by kernel_rfl) rfl rfl IS.out (by first | exact .head _ | exact .tail _ (.head _) | exact .tail _ (.tail _ (.head _)) | exact .tail _ (.tail _ (.tail _ (.head _)))) (by exact ld_st) ?_ (ha := by (go_simp; rfl))
  refine pu1 (i := 3) rfl rfl (by kernel_rfl) ?_ (ha := by (go_simp; rfl))
  refine ta1 (i := 4) rfl rfl (by kernel_rfl) rfl rfl IS.out (by first | exact .head _ | exact .tail _ (.head _) | exact .tail _ (.tail _ (.head _)) | exact .tail _ (.tail _ (.tail _ (.head _)))) (by exact ld_st2) ?_ (ha := by (go_simp; rfl))
  refine pu1 (i := 5) rfl rfl (by kernel_rfl) ?_ (ha := by (go_simp; rfl))
  refine ta1 (i := 6) rfl rfl (by kernel_rfl) rfl rfl IS.out (by first | exact .head _ | exact .tail _ (.head _) | exact .tail _ (.tail _ (.head _)) | exact .tail _ (.tail _ (.tail _ (.head _)))) (by exact ld_st12) ?_ (ha := by (go_simp; rfl))
  refine pu1 (i := 7) rfl rfl (by kernel_rfl) ?_ (ha := by (go_simp; rfl))
  refine pu1 (i := 8) rfl rfl (by kernel_rfl) ?_ (ha := by (go_simp; rfl))
  refine ca1 (i := 2) rfl rfl (by kernel_rfl) (by decide) Tryd.func49 (by kernel_rfl) rfl #[.agg (stC c h st xid sv v6 hi lo t1 t2 un se 3)] rfl (by (try simp only [List.map_toArray, List.map_cons, List.map_nil]); first | done | rfl) ?_
  refine (request_c c h st xid sv v6 hi lo t1 t2 un se 3 1000 (wantF ⟨v6, hi, lo⟩) bW _ hW.out).mono ?_
  rintro e_ w1 ⟨g, rfl, hf, hb⟩
  have I2 := Aside0.mk (I.out.addNew hb hf (fun k hk _ => I.out.new_out k hk))
  clear hf
  clear I hb
  have I := I2
  clear I2
  clear IS
  have IS := Aside0.mk ((I.out.imp (fun _ _ => trivial)).sub (.cons _ (.cons_cons _ .slnil)))
  refine ⟨_, rfl, IS.out, ?_⟩
  refine ca1 (i := 9) rfl rfl (by kernel_rfl) (by decide) Tryd.func23 (by kernel_rfl) rfl #[.agg (stC c h st xid sv v6 hi lo t1 t2 un se 3), .agg (pkC 3 0 sv (⟨#[]⟩ : ByteArray) false 0 0 false 0 0 false 0 0 false (.slice (some ⟨g, 0, none⟩) 1 1)), .int .i64 (st), .int .i64 (3 + 1), .int .i64 now] rfl (by (try simp only [List.map_toArray, List.map_cons, List.map_nil]); first | done | rfl) ?_
  refine (step_c ⟨c, h, st, xid, sv, ⟨v6, hi, lo⟩, t1, t2, un, se, 3⟩ 3 sv zA (some ⟨g, 0, none⟩) 1 [⟨50, wantF ⟨v6, hi, lo⟩⟩] _ (st) (3 + 1) now _ hx0 (I.out.foot.imp (fun W hW => hW.2)) (Nat.le_refl _) (okO_want _)).mono ?_
  rintro e_ w1 ⟨v, rfl, hf, hb⟩
  have I2 := Aside0.mk (I.out.addNew hb hf (fun k hk _ => hk.elim id (fun h_ => I.out.new_out k h_)))
  clear hf
  clear I hb
  have I := I2
  clear I2
  clear IS
  have IS := Aside0.mk ((I.out.imp (fun _ _ => trivial)).sub (.cons _ (.cons_cons _ .slnil)))
  refine ⟨_, rfl, IS.out, ?_⟩
  refine pu1 (i := 10) rfl rfl (by kernel_rfl) ?_ (ha := by (go_simp; rfl))
  refine pu1 (i := 11) rfl rfl (by kernel_rfl) ?_ (ha := by (go_simp; rfl))
  refine sl1 (i := 12) rfl rfl (by kernel_rfl) (by decide) rfl rfl rfl I.out (by first | exact .head _ | exact .tail _ (.head _) | exact .tail _ (.tail _ (.head _)) | exact .tail _ (.tail _ (.tail _ (.head _)))) (by first | exact sr_st) (by first | exact .head | exact .tail .head | exact .tail (.tail .head) | exact .tail (.tail (.tail .head))) (fun w1 hI => ?_)
  clear I
  have I := Aside0.mk hI
  clear hI
  refine pu1 (i := 13) rfl rfl (by kernel_rfl) ?_ (ha := by (go_simp; rfl))
  refine do1 (by kernel_rfl) ?_
  clear IS
  try go_wp2
  refine bodyPost_ret (ret_ct rfl _ I.out _ rfl (by first | exact .head _ | exact .tail _ (.head _) | exact .tail _ (.tail _ (.head _)) | exact .tail _ (.tail _ (.tail _ (.head _)))) Tryd.underlying26 rfl (by kernel_rfl)) rfl ?_
  exact ⟨_, rfl, foot_new (I.out.foot.imp (fun W hW => hW.2)), I.out.below⟩
 ·
  by_cases hn : now < min (se + 32) 4294967295
  · have e1 : decide (now < min (se + 32) 4294967295) = true := decide_eq_true hn
    have eF : askF ⟨c, h, st, xid, sv, ⟨v6, hi, lo⟩, t1, t2, un, se, 4⟩ now = (⟨c, h, st, xid, sv, ⟨v6, hi, lo⟩, t1, t2, un, se, 4⟩, []) := by unfold askF; exact if_pos hn
    rw [eF]
    clear eF
    clear hn
    have I := Aside0.mk (Inv.start0 (w0 := w))
    go_enter Tryd.func25, Tryd.ntmps25
    go_wp2_with (first
     | ((with_reducible refine gate_box rfl ?_); refine wl_bx rfl rfl rfl I.out ?_; intro gb w1 hI; clear I; have I := Aside0.mk hI; clear hI)
     | ((with_reducible refine gate_alloc (ty := 26) rfl ?_); refine wl_box (t := 26) (cs := (stC (⟨#[]⟩ : ByteArray) (⟨#[]⟩ : ByteArray) 0 0 0 false 0 0 0 0 0 0 0)) rfl ?hr I.out ?_; (case hr => first | (go_simp; done) | (go_simp; rfl)); intro gb w1 hI; clear I; have I := Aside0.mk hI; clear hI)
     | ((with_reducible refine gate_ld rfl ?_); (try (refine gate_guard (by rfl) ?_; dsimp only)); refine wl_ld rfl rfl rfl I.out (by first | exact .head _ | exact .tail _ (.head _) | exact .tail _ (.tail _ (.head _)) | exact .tail _ (.tail _ (.tail _ (.head _)))) (by first | exact ld_st11 | exact ld_st12 | exact ld_st2 | exact ld_st) ?_)
     | ((with_reducible refine gate_callee (f := 26) rfl ?_); (try (refine gate_guard (by rfl) ?_; dsimp only)); refine goesL_ (some 16) rfl rfl Tryd.func26 (by kernel_rfl) rfl #[.int .i64 se, .int .i64 32] rfl (by kernel_rfl) ?_; (refine (after_c se 32 _ hs.1 hs.2 (by omega) (by omega)).mono ?_); rintro e_ w1 ⟨rfl, rfl⟩; refine ⟨_, rfl, ?_⟩; skip)
     | ((with_reducible refine gate_sr rfl ?_); refine wl_sr2 rfl rfl rfl rfl rfl I.out (by first | exact .head _ | exact .tail _ (.head _) | exact .tail _ (.tail _ (.head _)) | exact .tail _ (.tail _ (.tail _ (.head _)))) (by first | exact sr_st) (by first | exact .head | exact .tail .head | exact .tail (.tail .head) | exact .tail (.tail (.tail .head))) ?_; intro w1 hI; clear I; have I := Aside0.mk hI; clear hI)
     )
    refine bodyPost_ret (ret_ct rfl _ I.out _ rfl (by first | exact .head _ | exact .tail _ (.head _) | exact .tail _ (.tail _ (.head _)) | exact .tail _ (.tail _ (.tail _ (.head _)))) Tryd.underlying26 rfl (by kernel_rfl)) rfl ?_
    exact ⟨_, rfl, Pks_nil _ _, I.out.below⟩
  have e1 : decide (now < min (se + 32) 4294967295) = false := decide_eq_false hn
  have eF : askF ⟨c, h, st, xid, sv, ⟨v6, hi, lo⟩, t1, t2, un, se, 4⟩ now = (initF ⟨c, h, st, xid, sv, ⟨v6, hi, lo⟩, t1, t2, un, se, 4⟩, []) := by unfold askF; exact (if_neg hn).trans (if_pos (show (4 : Int) ≤ 4 by decide))
  rw [eF]
  clear eF
  clear hn
  have I := Aside0.mk (Inv.start0 (w0 := w))
  go_enter Tryd.func25, Tryd.ntmps25
  go_wp2_with (first
   | ((with_reducible refine gate_box rfl ?_); refine wl_bx rfl rfl rfl I.out ?_; intro gb w1 hI; clear I; have I := Aside0.mk hI; clear hI)
   | ((with_reducible refine gate_alloc (ty := 26) rfl ?_); refine wl_box (t := 26) (cs := (stC (⟨#[]⟩ : ByteArray) (⟨#[]⟩ : ByteArray) 0 0 0 false 0 0 0 0 0 0 0)) rfl ?hr I.out ?_; (case hr => first | (go_simp; done) | (go_simp; rfl)); intro gb w1 hI; clear I; have I := Aside0.mk hI; clear hI)
   | ((with_reducible refine gate_ld rfl ?_); (try (refine gate_guard (by rfl) ?_; dsimp only)); refine wl_ld rfl rfl rfl I.out (by first | exact .head _ | exact .tail _ (.head _) | exact .tail _ (.tail _ (.head _)) | exact .tail _ (.tail _ (.tail _ (.head _)))) (by first | exact ld_st11 | exact ld_st12 | exact ld_st2 | exact ld_st) ?_)
   | ((with_reducible refine gate_callee (f := 26) rfl ?_); (try (refine gate_guard (by rfl) ?_; dsimp only)); refine goesL_ (some 16) rfl rfl Tryd.func26 (by kernel_rfl) rfl #[.int .i64 se, .int .i64 32] rfl (by kernel_rfl) ?_; (refine (after_c se 32 _ hs.1 hs.2 (by omega) (by omega)).mono ?_); rintro e_ w1 ⟨rfl, rfl⟩; refine ⟨_, rfl, ?_⟩; skip)
   | ((with_reducible refine gate_callee (f := 27) rfl ?_); (try (refine gate_guard (by rfl) ?_; dsimp only)); refine goesL_ (some 23) rfl rfl Tryd.func27 (by kernel_rfl) rfl #[.agg (stC c h st xid sv v6 hi lo t1 t2 un se 4)] rfl (by (try simp only [List.map_toArray, List.map_cons, List.map_nil]); first | done | rfl) ?_; (refine (initial_c c h st xid sv v6 hi lo t1 t2 un se 4 _).mono ?_); rintro e_ w1 ⟨rfl, hb⟩; refine ⟨_, rfl, ?_⟩; have I2 := Aside0.mk (I.out.call hb); clear I hb; have I := I2; clear I2)
   | ((with_reducible refine gate_sr rfl ?_); refine wl_sr2 rfl rfl rfl rfl rfl I.out (by first | exact .head _ | exact .tail _ (.head _) | exact .tail _ (.tail _ (.head _)) | exact .tail _ (.tail _ (.tail _ (.head _)))) (by first | exact sr_st) (by first | exact .head | exact .tail .head | exact .tail (.tail .head) | exact .tail (.tail (.tail .head))) ?_; intro w1 hI; clear I; have I := Aside0.mk hI; clear hI)
   )
  refine bodyPost_ret (ret_ct rfl _ I.out _ rfl (by first | exact .head _ | exact .tail _ (.head _) | exact .tail _ (.tail _ (.head _)) | exact .tail _ (.tail _ (.tail _ (.head _)))) Tryd.underlying26 rfl (by kernel_rfl)) rfl ?_
  exact ⟨_, rfl, Pks_nil _ _, I.out.below⟩
end Go.Proofs.YtlabnocmmeciaaaDoor.BQ


namespace Go.Proofs.YtlabnocmmeciaaaDoor.BQ
open Go Go.RowKit Go.Proofs.YtlabnocmmeciaaaDoorW.PrintWords Go.Proofs.YtlabnocmmeciaaaDoorW.PrintLast Go.Proofs.YtlabnocmmeciaaaDoorW.PrintMore Go.Proofs.YtlabnocmmeciaaaDoor.Pa Go.Proofs.YtlabnocmmeciaaaDoor.STN
set_option linter.unusedVariables false
set_option linter.unusedSimpArgs false
attribute [local go_sem] max2_int min2_int max_two min_two
theorem td2 {x : Int} (h : -4294967296 ≤ x) (h2 : x ≤ 4294967296) : -4294967296 ≤ x.tdiv 2 ∧ x.tdiv 2 ≤ 9223372032559808511 := by
  have hs2 : Int.sign 2 = 1 := rfl
  rw [Int.tdiv_eq_ediv]; split <;> omega
set_option maxHeartbeats 4000000 in
set_option maxRecDepth 100000 in
theorem tick_c (s : Stn) (now : Int) (w : World) (hx0 : 0 ≤ s.xid) (hs : 0 ≤ s.se ∧ s.se ≤ 4294967295) (h2 : 0 ≤ s.t2 ∧ s.t2 ≤ 4294967295) (hu : 0 ≤ s.un ∧ s.un ≤ 4294967295) (ht : s.st = 1 ∨ s.st = 2 → 1 ≤ s.tr ∧ s.tr ≤ 4) (hW : ∃ b, option_Value.f 1000 [s.a] = some (wantF s.a, b)) : Calls Tryd.prog 9 #[.agg (stA s), .int .i64 now] w (Ret (tickF s now) w) := by
 have hu26 := Tryd.underlying26
 have hu39 := Tryd.underlying39
 have hu24 := Tryd.underlying24
 obtain ⟨c, h, st, xid, sv, ⟨v6, hi, lo⟩, t1, t2, un, se, at_⟩ := s
 replace hx0 : 0 ≤ xid := hx0
 replace hs : 0 ≤ se ∧ se ≤ 4294967295 := hs
 replace h2 : 0 ≤ t2 ∧ t2 ≤ 4294967295 := h2
 replace hu : 0 ≤ un ∧ un ≤ 4294967295 := hu
 replace ht : st = 1 ∨ st = 2 → 1 ≤ at_ ∧ at_ ≤ 4 := ht
 have hW := Aside0.mk hW
 show Calls Tryd.prog 9 #[.agg (stC c h st xid sv v6 hi lo t1 t2 un se at_), .int .i64 now] w _
 by_cases s0 : st = 0
 · subst s0
   have eF : tickF ⟨c, h, 0, xid, sv, ⟨v6, hi, lo⟩, t1, t2, un, se, at_⟩ now = stepF ⟨c, h, 0, xid, sv, ⟨v6, hi, lo⟩, t1, t2, un, se, at_⟩ 1 0 zA [] 1 1 now := by unfold tickF; exact if_pos rfl
   rw [eF]
   clear eF
   have I := Aside0.mk (Inv.start0 (w0 := w))
   go_enter Tryd.func9, Tryd.ntmps9
   go_wp2_with (first
    | ((with_reducible refine gate_box rfl ?_); refine wl_bx rfl rfl rfl I.out ?_; intro gb w1 hI; clear I; have I := Aside0.mk hI; clear hI)
    | ((with_reducible refine gate_alloc (ty := 26) rfl ?_); refine wl_box (t := 26) (cs := (stC (⟨#[]⟩ : ByteArray) (⟨#[]⟩ : ByteArray) 0 0 0 false 0 0 0 0 0 0 0)) rfl ?hr I.out ?_; (case hr => first | (go_simp; done) | (go_simp; rfl)); intro gb w1 hI; clear I; have I := Aside0.mk hI; clear hI)
    | ((with_reducible refine gate_ld rfl ?_); (try (refine gate_guard (by rfl) ?_; dsimp only)); refine wl_ld rfl rfl rfl I.out (by first | exact .head _ | exact .tail _ (.head _) | exact .tail _ (.tail _ (.head _)) | exact .tail _ (.tail _ (.tail _ (.head _)))) (by first | exact ld_st2 | exact ld_st9 | exact ld_st10 | exact ld_st11 | exact ld_st8 | exact ld_st) ?_)
    | ((with_reducible refine gate_sr rfl ?_); refine wl_sr2 rfl rfl rfl rfl rfl I.out (by first | exact .head _ | exact .tail _ (.head _) | exact .tail _ (.tail _ (.head _)) | exact .tail _ (.tail _ (.tail _ (.head _)))) (by first | exact sr_st) (by first | exact .head | exact .tail .head | exact .tail (.tail .head) | exact .tail (.tail (.tail .head))) ?_; intro w1 hI; clear I; have I := Aside0.mk hI; clear hI)
    )
   have IS := Aside0.mk (I.out.sub (.cons _ (.cons_cons _ .slnil))).drew
   refine draw_ (Inv _ w [_] _) [6] (by kernel_rfl) rfl IS.out ?_
   have I2 := Aside0.mk I.out.drew
   clear I
   have I := I2
   clear I2
   refine ta1 (i := 0) rfl rfl (by kernel_rfl) rfl rfl IS.out (by first | exact .head _ | exact .tail _ (.head _) | exact .tail _ (.tail _ (.head _)) | exact .tail _ (.tail _ (.tail _ (.head _)))) (by exact ld_st) ?_ (ha := by (go_simp; rfl))
   refine pu1 (i := 2) rfl rfl (by kernel_rfl) ?_ (ha := by (go_simp; rfl))
   refine ca1 (i := 1) rfl rfl (by kernel_rfl) (by decide) Tryd.func24 (by kernel_rfl) rfl #[] rfl (by (try simp only [List.map_toArray, List.map_cons, List.map_nil]); first | done | rfl) ?_
   refine (discover_c _).mono ?_
   rintro e_ w1 ⟨rfl, hb⟩
   have I2 := Aside0.mk (I.out.call hb)
   clear I hb
   have I := I2
   clear I2
   clear IS
   have IS := Aside0.mk ((I.out.imp (fun _ _ => trivial)).sub (.cons _ (.cons_cons _ .slnil)))
   refine ⟨_, rfl, IS.out, ?_⟩
   refine ca1 (i := 3) rfl rfl (by kernel_rfl) (by decide) Tryd.func23 (by kernel_rfl) rfl #[.agg (stC c h 0 xid sv v6 hi lo t1 t2 un se at_), .agg (pkC 1 0 0 (⟨#[]⟩ : ByteArray) false 0 0 false 0 0 false 0 0 false (.slice none 0 0)), .int .i64 (1), .int .i64 (1), .int .i64 now] rfl (by (try simp only [List.map_toArray, List.map_cons, List.map_nil]); first | done | rfl) ?_
   refine (step_c ⟨c, h, 0, xid, sv, ⟨v6, hi, lo⟩, t1, t2, un, se, at_⟩ 1 0 zA none 0 [] (fun _ => False) (1) (1) now _ hx0 (foot_no _ none 0) (Nat.le_refl _) okO_nil).mono ?_
   rintro e_ w1 ⟨v, rfl, hf, hb⟩
   have I2 := Aside0.mk (I.out.addNew hb hf (fun k hk _ => hk.elim False.elim (fun h_ => I.out.new_out k h_)))
   clear hf
   clear I hb
   have I := I2
   clear I2
   clear IS
   have IS := Aside0.mk ((I.out.imp (fun _ _ => trivial)).sub (.cons _ (.cons_cons _ .slnil)))
   refine ⟨_, rfl, IS.out, ?_⟩
   refine pu1 (i := 4) rfl rfl (by kernel_rfl) ?_ (ha := by (go_simp; rfl))
   refine pu1 (i := 5) rfl rfl (by kernel_rfl) ?_ (ha := by (go_simp; rfl))
   refine sl1 (i := 6) rfl rfl (by kernel_rfl) (by decide) rfl rfl rfl I.out (by first | exact .head _ | exact .tail _ (.head _) | exact .tail _ (.tail _ (.head _)) | exact .tail _ (.tail _ (.tail _ (.head _)))) (by first | exact sr_st) (by first | exact .head | exact .tail .head | exact .tail (.tail .head) | exact .tail (.tail (.tail .head))) (fun w1 hI => ?_)
   clear I
   have I := Aside0.mk hI
   clear hI
   refine pu1 (i := 7) rfl rfl (by kernel_rfl) ?_ (ha := by (go_simp; rfl))
   refine do1 (by kernel_rfl) ?_
   clear IS
   try go_wp2
   refine bodyPost_ret (ret_ct rfl _ I.out _ rfl (by first | exact .head _ | exact .tail _ (.head _) | exact .tail _ (.tail _ (.head _)) | exact .tail _ (.tail _ (.tail _ (.head _)))) Tryd.underlying26 rfl (by kernel_rfl)) rfl ?_
   exact ⟨_, rfl, foot_new (I.out.foot.imp (fun W hW => hW.2)), I.out.below⟩
 by_cases s1 : st = 1
 · subst s1
   have eF : tickF ⟨c, h, 1, xid, sv, ⟨v6, hi, lo⟩, t1, t2, un, se, at_⟩ now = askF ⟨c, h, 1, xid, sv, ⟨v6, hi, lo⟩, t1, t2, un, se, at_⟩ now := by unfold tickF; exact (if_neg (show ¬ (1 : Int) = 0 by decide)).trans (if_pos (.inl rfl))
   rw [eF]
   clear eF
   have I := Aside0.mk (Inv.start0 (w0 := w))
   go_enter Tryd.func9, Tryd.ntmps9
   go_wp2_with (first
    | ((with_reducible refine gate_box rfl ?_); refine wl_bx rfl rfl rfl I.out ?_; intro gb w1 hI; clear I; have I := Aside0.mk hI; clear hI)
    | ((with_reducible refine gate_alloc (ty := 26) rfl ?_); refine wl_box (t := 26) (cs := (stC (⟨#[]⟩ : ByteArray) (⟨#[]⟩ : ByteArray) 0 0 0 false 0 0 0 0 0 0 0)) rfl ?hr I.out ?_; (case hr => first | (go_simp; done) | (go_simp; rfl)); intro gb w1 hI; clear I; have I := Aside0.mk hI; clear hI)
    | ((with_reducible refine gate_ld rfl ?_); (try (refine gate_guard (by rfl) ?_; dsimp only)); refine wl_ld rfl rfl rfl I.out (by first | exact .head _ | exact .tail _ (.head _) | exact .tail _ (.tail _ (.head _)) | exact .tail _ (.tail _ (.tail _ (.head _)))) (by first | exact ld_st2 | exact ld_st9 | exact ld_st10 | exact ld_st11 | exact ld_st8 | exact ld_st) ?_)
    | ((with_reducible refine gate_callee (f := 25) rfl ?_); (try (refine gate_guard (by rfl) ?_; dsimp only)); refine goesL_ (some 23) rfl rfl Tryd.func25 (by kernel_rfl) rfl #[.agg (stC c h 1 xid sv v6 hi lo t1 t2 un se at_), .int .i64 now] rfl (by (try simp only [List.map_toArray, List.map_cons, List.map_nil]); first | done | rfl) ?_; (refine (asking_c ⟨c, h, 1, xid, sv, ⟨v6, hi, lo⟩, t1, t2, un, se, at_⟩ now _ hx0 hs (ht (.inl rfl)) hW.out).mono ?_); rintro e_ w1 ⟨v, rfl, hf, hb⟩; refine ⟨_, rfl, ?_⟩; have I2 := Aside0.mk (I.out.addNew hb hf (fun k hk _ => I.out.new_out k hk)); clear I hb hf; have I := I2; clear I2)
    | ((with_reducible refine gate_sr rfl ?_); refine wl_sr2 rfl rfl rfl rfl rfl I.out (by first | exact .head _ | exact .tail _ (.head _) | exact .tail _ (.tail _ (.head _)) | exact .tail _ (.tail _ (.tail _ (.head _)))) (by first | exact sr_st) (by first | exact .head | exact .tail .head | exact .tail (.tail .head) | exact .tail (.tail (.tail .head))) ?_; intro w1 hI; clear I; have I := Aside0.mk hI; clear hI)
    )
   refine bodyPost_ret (ret_ct rfl _ I.out _ rfl (by first | exact .head _ | exact .tail _ (.head _) | exact .tail _ (.tail _ (.head _)) | exact .tail _ (.tail _ (.tail _ (.head _)))) Tryd.underlying26 rfl (by kernel_rfl)) rfl ?_
   exact ⟨_, rfl, foot_new (I.out.foot.imp (fun W hW => hW.2)), I.out.below⟩
 by_cases s2 : st = 2
 · subst s2
   have eF : tickF ⟨c, h, 2, xid, sv, ⟨v6, hi, lo⟩, t1, t2, un, se, at_⟩ now = askF ⟨c, h, 2, xid, sv, ⟨v6, hi, lo⟩, t1, t2, un, se, at_⟩ now := by unfold tickF; exact (if_neg (show ¬ (2 : Int) = 0 by decide)).trans (if_pos (.inr rfl))
   rw [eF]
   clear eF
   have I := Aside0.mk (Inv.start0 (w0 := w))
   go_enter Tryd.func9, Tryd.ntmps9
   go_wp2_with (first
    | ((with_reducible refine gate_box rfl ?_); refine wl_bx rfl rfl rfl I.out ?_; intro gb w1 hI; clear I; have I := Aside0.mk hI; clear hI)
    | ((with_reducible refine gate_alloc (ty := 26) rfl ?_); refine wl_box (t := 26) (cs := (stC (⟨#[]⟩ : ByteArray) (⟨#[]⟩ : ByteArray) 0 0 0 false 0 0 0 0 0 0 0)) rfl ?hr I.out ?_; (case hr => first | (go_simp; done) | (go_simp; rfl)); intro gb w1 hI; clear I; have I := Aside0.mk hI; clear hI)
    | ((with_reducible refine gate_ld rfl ?_); (try (refine gate_guard (by rfl) ?_; dsimp only)); refine wl_ld rfl rfl rfl I.out (by first | exact .head _ | exact .tail _ (.head _) | exact .tail _ (.tail _ (.head _)) | exact .tail _ (.tail _ (.tail _ (.head _)))) (by first | exact ld_st2 | exact ld_st9 | exact ld_st10 | exact ld_st11 | exact ld_st8 | exact ld_st) ?_)
    | ((with_reducible refine gate_callee (f := 25) rfl ?_); (try (refine gate_guard (by rfl) ?_; dsimp only)); refine goesL_ (some 23) rfl rfl Tryd.func25 (by kernel_rfl) rfl #[.agg (stC c h 2 xid sv v6 hi lo t1 t2 un se at_), .int .i64 now] rfl (by (try simp only [List.map_toArray, List.map_cons, List.map_nil]); first | done | rfl) ?_; (refine (asking_c ⟨c, h, 2, xid, sv, ⟨v6, hi, lo⟩, t1, t2, un, se, at_⟩ now _ hx0 hs (ht (.inr rfl)) hW.out).mono ?_); rintro e_ w1 ⟨v, rfl, hf, hb⟩; refine ⟨_, rfl, ?_⟩; have I2 := Aside0.mk (I.out.addNew hb hf (fun k hk _ => I.out.new_out k hk)); clear I hb hf; have I := I2; clear I2)
    | ((with_reducible refine gate_sr rfl ?_); refine wl_sr2 rfl rfl rfl rfl rfl I.out (by first | exact .head _ | exact .tail _ (.head _) | exact .tail _ (.tail _ (.head _)) | exact .tail _ (.tail _ (.tail _ (.head _)))) (by first | exact sr_st) (by first | exact .head | exact .tail .head | exact .tail (.tail .head) | exact .tail (.tail (.tail .head))) ?_; intro w1 hI; clear I; have I := Aside0.mk hI; clear hI)
    )
   refine bodyPost_ret (ret_ct rfl _ I.out _ rfl (by first | exact .head _ | exact .tail _ (.head _) | exact .tail _ (.tail _ (.head _)) | exact .tail _ (.tail _ (.tail _ (.head _)))) Tryd.underlying26 rfl (by kernel_rfl)) rfl ?_
   exact ⟨_, rfl, foot_new (I.out.foot.imp (fun W hW => hW.2)), I.out.below⟩
 clear ht
 have e12 : ¬ (st = 1 ∨ st = 2) := fun hq => hq.elim s1 s2
 have b0 : (st == 0) = false := beq_eq_false_iff_ne.mpr s0
 have b1 : (st == 1) = false := beq_eq_false_iff_ne.mpr s1
 have b2 : (st == 2) = false := beq_eq_false_iff_ne.mpr s2
 by_cases hn : un ≤ now
 · have e1 : decide (un ≤ now) = true := decide_eq_true hn
   by_cases s5 : st = 5
   · subst s5
     by_cases hm : 60 < (un - se).tdiv 2
     · have m1 : decide (60 < (un - se).tdiv 2) = true := decide_eq_true hm
       have em : max 60 ((un - se).tdiv 2) = (un - se).tdiv 2 := by omega
       have hd := td2 (x := un - se) (by omega) (by omega)
       have eF : tickF ⟨c, h, 5, xid, sv, ⟨v6, hi, lo⟩, t1, t2, un, se, at_⟩ now = (initF ⟨c, h, 5, xid, sv, ⟨v6, hi, lo⟩, t1, t2, un, se, at_⟩, []) := by unfold tickF; exact (if_neg (show ¬ (5 : Int) = 0 by decide)).trans ((if_neg (fun hq => hq.elim (show ¬ (5 : Int) = 1 by decide) (show ¬ (5 : Int) = 2 by decide))).trans (if_pos hn))
       rw [eF]
       clear eF
       have I := Aside0.mk (Inv.start0 (w0 := w))
       go_enter Tryd.func9, Tryd.ntmps9
       go_wp2_with (first
        | ((with_reducible refine gate_box rfl ?_); refine wl_bx rfl rfl rfl I.out ?_; intro gb w1 hI; clear I; have I := Aside0.mk hI; clear hI)
        | ((with_reducible refine gate_alloc (ty := 26) rfl ?_); refine wl_box (t := 26) (cs := (stC (⟨#[]⟩ : ByteArray) (⟨#[]⟩ : ByteArray) 0 0 0 false 0 0 0 0 0 0 0)) rfl ?hr I.out ?_; (case hr => first | (go_simp; done) | (go_simp; rfl)); intro gb w1 hI; clear I; have I := Aside0.mk hI; clear hI)
        | ((with_reducible refine gate_ld rfl ?_); (try (refine gate_guard (by rfl) ?_; dsimp only)); refine wl_ld rfl rfl rfl I.out (by first | exact .head _ | exact .tail _ (.head _) | exact .tail _ (.tail _ (.head _)) | exact .tail _ (.tail _ (.tail _ (.head _)))) (by first | exact ld_st2 | exact ld_st9 | exact ld_st10 | exact ld_st11 | exact ld_st8 | exact ld_st) ?_)
        | ((with_reducible refine gate_callee (f := 26) rfl ?_); (try (refine gate_guard (by rfl) ?_; dsimp only)); refine goesL_ (some 42) rfl rfl Tryd.func26 (by kernel_rfl) rfl #[.int .i64 se, .int .i64 ((un - se).tdiv 2)] rfl (by (try simp only [List.map_toArray, List.map_cons, List.map_nil]); first | done | rfl) ?_; (refine (after_c se ((un - se).tdiv 2) _ hs.1 hs.2 hd.1 hd.2).mono ?_); rintro e_ w1 ⟨rfl, rfl⟩; refine ⟨_, rfl, ?_⟩; skip)
        | ((with_reducible refine gate_callee (f := 27) rfl ?_); (try (refine gate_guard (by rfl) ?_; dsimp only)); refine goesL_ (some 50) rfl rfl Tryd.func27 (by kernel_rfl) rfl #[.agg (stC c h 5 xid sv v6 hi lo t1 t2 un se at_)] rfl (by (try simp only [List.map_toArray, List.map_cons, List.map_nil]); first | done | rfl) ?_; (refine (initial_c c h 5 xid sv v6 hi lo t1 t2 un se at_ _).mono ?_); rintro e_ w1 ⟨rfl, hb⟩; refine ⟨_, rfl, ?_⟩; have I2 := Aside0.mk (I.out.call hb); clear I hb; have I := I2; clear I2)
        | ((with_reducible refine gate_sr rfl ?_); refine wl_sr2 rfl rfl rfl rfl rfl I.out (by first | exact .head _ | exact .tail _ (.head _) | exact .tail _ (.tail _ (.head _)) | exact .tail _ (.tail _ (.tail _ (.head _)))) (by first | exact sr_st) (by first | exact .head | exact .tail .head | exact .tail (.tail .head) | exact .tail (.tail (.tail .head))) ?_; intro w1 hI; clear I; have I := Aside0.mk hI; clear hI)
        )
       refine bodyPost_ret (ret_ct rfl _ I.out _ rfl (by first | exact .head _ | exact .tail _ (.head _) | exact .tail _ (.tail _ (.head _)) | exact .tail _ (.tail _ (.tail _ (.head _)))) Tryd.underlying26 rfl (by kernel_rfl)) rfl ?_
       exact ⟨_, rfl, Pks_nil _ _, I.out.below⟩
     have m1 : decide (60 < (un - se).tdiv 2) = false := decide_eq_false hm
     replace hm : (un - se).tdiv 2 ≤ 60 := by omega
     have em : max 60 ((un - se).tdiv 2) = 60 := by omega
     have eF : tickF ⟨c, h, 5, xid, sv, ⟨v6, hi, lo⟩, t1, t2, un, se, at_⟩ now = (initF ⟨c, h, 5, xid, sv, ⟨v6, hi, lo⟩, t1, t2, un, se, at_⟩, []) := by unfold tickF; exact (if_neg (show ¬ (5 : Int) = 0 by decide)).trans ((if_neg (fun hq => hq.elim (show ¬ (5 : Int) = 1 by decide) (show ¬ (5 : Int) = 2 by decide))).trans (if_pos hn))
     rw [eF]
     clear eF
     have I := Aside0.mk (Inv.start0 (w0 := w))
     go_enter Tryd.func9, Tryd.ntmps9
     go_wp2_with (first
      | ((with_reducible refine gate_box rfl ?_); refine wl_bx rfl rfl rfl I.out ?_; intro gb w1 hI; clear I; have I := Aside0.mk hI; clear hI)
      | ((with_reducible refine gate_alloc (ty := 26) rfl ?_); refine wl_box (t := 26) (cs := (stC (⟨#[]⟩ : ByteArray) (⟨#[]⟩ : ByteArray) 0 0 0 false 0 0 0 0 0 0 0)) rfl ?hr I.out ?_; (case hr => first | (go_simp; done) | (go_simp; rfl)); intro gb w1 hI; clear I; have I := Aside0.mk hI; clear hI)
      | ((with_reducible refine gate_ld rfl ?_); (try (refine gate_guard (by rfl) ?_; dsimp only)); refine wl_ld rfl rfl rfl I.out (by first | exact .head _ | exact .tail _ (.head _) | exact .tail _ (.tail _ (.head _)) | exact .tail _ (.tail _ (.tail _ (.head _)))) (by first | exact ld_st2 | exact ld_st9 | exact ld_st10 | exact ld_st11 | exact ld_st8 | exact ld_st) ?_)
      | ((with_reducible refine gate_callee (f := 26) rfl ?_); (try (refine gate_guard (by rfl) ?_; dsimp only)); refine goesL_ (some 42) rfl rfl Tryd.func26 (by kernel_rfl) rfl #[.int .i64 se, .int .i64 (60)] rfl (by (try simp only [List.map_toArray, List.map_cons, List.map_nil]); first | done | rfl) ?_; (refine (after_c se (60) _ hs.1 hs.2 (by decide) (by decide)).mono ?_); rintro e_ w1 ⟨rfl, rfl⟩; refine ⟨_, rfl, ?_⟩; skip)
      | ((with_reducible refine gate_callee (f := 27) rfl ?_); (try (refine gate_guard (by rfl) ?_; dsimp only)); refine goesL_ (some 50) rfl rfl Tryd.func27 (by kernel_rfl) rfl #[.agg (stC c h 5 xid sv v6 hi lo t1 t2 un se at_)] rfl (by (try simp only [List.map_toArray, List.map_cons, List.map_nil]); first | done | rfl) ?_; (refine (initial_c c h 5 xid sv v6 hi lo t1 t2 un se at_ _).mono ?_); rintro e_ w1 ⟨rfl, hb⟩; refine ⟨_, rfl, ?_⟩; have I2 := Aside0.mk (I.out.call hb); clear I hb; have I := I2; clear I2)
      | ((with_reducible refine gate_sr rfl ?_); refine wl_sr2 rfl rfl rfl rfl rfl I.out (by first | exact .head _ | exact .tail _ (.head _) | exact .tail _ (.tail _ (.head _)) | exact .tail _ (.tail _ (.tail _ (.head _)))) (by first | exact sr_st) (by first | exact .head | exact .tail .head | exact .tail (.tail .head) | exact .tail (.tail (.tail .head))) ?_; intro w1 hI; clear I; have I := Aside0.mk hI; clear hI)
      )
     refine bodyPost_ret (ret_ct rfl _ I.out _ rfl (by first | exact .head _ | exact .tail _ (.head _) | exact .tail _ (.tail _ (.head _)) | exact .tail _ (.tail _ (.tail _ (.head _)))) Tryd.underlying26 rfl (by kernel_rfl)) rfl ?_
     exact ⟨_, rfl, Pks_nil _ _, I.out.below⟩
   have b5 : (st == 5) = false := beq_eq_false_iff_ne.mpr s5
   by_cases hm : 60 < (t2 - se).tdiv 2
   · have m1 : decide (60 < (t2 - se).tdiv 2) = true := decide_eq_true hm
     have em : max 60 ((t2 - se).tdiv 2) = (t2 - se).tdiv 2 := by omega
     have hd := td2 (x := t2 - se) (by omega) (by omega)
     have eF : tickF ⟨c, h, st, xid, sv, ⟨v6, hi, lo⟩, t1, t2, un, se, at_⟩ now = (initF ⟨c, h, st, xid, sv, ⟨v6, hi, lo⟩, t1, t2, un, se, at_⟩, []) := by unfold tickF; exact (if_neg s0).trans ((if_neg e12).trans (if_pos hn))
     rw [eF]
     clear eF
     have I := Aside0.mk (Inv.start0 (w0 := w))
     go_enter Tryd.func9, Tryd.ntmps9
     go_wp2_with (first
      | ((with_reducible refine gate_box rfl ?_); refine wl_bx rfl rfl rfl I.out ?_; intro gb w1 hI; clear I; have I := Aside0.mk hI; clear hI)
      | ((with_reducible refine gate_alloc (ty := 26) rfl ?_); refine wl_box (t := 26) (cs := (stC (⟨#[]⟩ : ByteArray) (⟨#[]⟩ : ByteArray) 0 0 0 false 0 0 0 0 0 0 0)) rfl ?hr I.out ?_; (case hr => first | (go_simp; done) | (go_simp; rfl)); intro gb w1 hI; clear I; have I := Aside0.mk hI; clear hI)
      | ((with_reducible refine gate_ld rfl ?_); (try (refine gate_guard (by rfl) ?_; dsimp only)); refine wl_ld rfl rfl rfl I.out (by first | exact .head _ | exact .tail _ (.head _) | exact .tail _ (.tail _ (.head _)) | exact .tail _ (.tail _ (.tail _ (.head _)))) (by first | exact ld_st2 | exact ld_st9 | exact ld_st10 | exact ld_st11 | exact ld_st8 | exact ld_st) ?_)
      | ((with_reducible refine gate_callee (f := 26) rfl ?_); (try (refine gate_guard (by rfl) ?_; dsimp only)); refine goesL_ (some 42) rfl rfl Tryd.func26 (by kernel_rfl) rfl #[.int .i64 se, .int .i64 ((t2 - se).tdiv 2)] rfl (by (try simp only [List.map_toArray, List.map_cons, List.map_nil]); first | done | rfl) ?_; (refine (after_c se ((t2 - se).tdiv 2) _ hs.1 hs.2 hd.1 hd.2).mono ?_); rintro e_ w1 ⟨rfl, rfl⟩; refine ⟨_, rfl, ?_⟩; skip)
      | ((with_reducible refine gate_callee (f := 27) rfl ?_); (try (refine gate_guard (by rfl) ?_; dsimp only)); refine goesL_ (some 50) rfl rfl Tryd.func27 (by kernel_rfl) rfl #[.agg (stC c h st xid sv v6 hi lo t1 t2 un se at_)] rfl (by (try simp only [List.map_toArray, List.map_cons, List.map_nil]); first | done | rfl) ?_; (refine (initial_c c h st xid sv v6 hi lo t1 t2 un se at_ _).mono ?_); rintro e_ w1 ⟨rfl, hb⟩; refine ⟨_, rfl, ?_⟩; have I2 := Aside0.mk (I.out.call hb); clear I hb; have I := I2; clear I2)
      | ((with_reducible refine gate_sr rfl ?_); refine wl_sr2 rfl rfl rfl rfl rfl I.out (by first | exact .head _ | exact .tail _ (.head _) | exact .tail _ (.tail _ (.head _)) | exact .tail _ (.tail _ (.tail _ (.head _)))) (by first | exact sr_st) (by first | exact .head | exact .tail .head | exact .tail (.tail .head) | exact .tail (.tail (.tail .head))) ?_; intro w1 hI; clear I; have I := Aside0.mk hI; clear hI)
      )
     refine bodyPost_ret (ret_ct rfl _ I.out _ rfl (by first | exact .head _ | exact .tail _ (.head _) | exact .tail _ (.tail _ (.head _)) | exact .tail _ (.tail _ (.tail _ (.head _)))) Tryd.underlying26 rfl (by kernel_rfl)) rfl ?_
     exact ⟨_, rfl, Pks_nil _ _, I.out.below⟩
   have m1 : decide (60 < (t2 - se).tdiv 2) = false := decide_eq_false hm
   replace hm : (t2 - se).tdiv 2 ≤ 60 := by omega
   have em : max 60 ((t2 - se).tdiv 2) = 60 := by omega
   have eF : tickF ⟨c, h, st, xid, sv, ⟨v6, hi, lo⟩, t1, t2, un, se, at_⟩ now = (initF ⟨c, h, st, xid, sv, ⟨v6, hi, lo⟩, t1, t2, un, se, at_⟩, []) := by unfold tickF; exact (if_neg s0).trans ((if_neg e12).trans (if_pos hn))
   rw [eF]
   clear eF
   have I := Aside0.mk (Inv.start0 (w0 := w))
   go_enter Tryd.func9, Tryd.ntmps9
   go_wp2_with (first
    | ((with_reducible refine gate_box rfl ?_); refine wl_bx rfl rfl rfl I.out ?_; intro gb w1 hI; clear I; have I := Aside0.mk hI; clear hI)
    | ((with_reducible refine gate_alloc (ty := 26) rfl ?_); refine wl_box (t := 26) (cs := (stC (⟨#[]⟩ : ByteArray) (⟨#[]⟩ : ByteArray) 0 0 0 false 0 0 0 0 0 0 0)) rfl ?hr I.out ?_; (case hr => first | (go_simp; done) | (go_simp; rfl)); intro gb w1 hI; clear I; have I := Aside0.mk hI; clear hI)
    | ((with_reducible refine gate_ld rfl ?_); (try (refine gate_guard (by rfl) ?_; dsimp only)); refine wl_ld rfl rfl rfl I.out (by first | exact .head _ | exact .tail _ (.head _) | exact .tail _ (.tail _ (.head _)) | exact .tail _ (.tail _ (.tail _ (.head _)))) (by first | exact ld_st2 | exact ld_st9 | exact ld_st10 | exact ld_st11 | exact ld_st8 | exact ld_st) ?_)
    | ((with_reducible refine gate_callee (f := 26) rfl ?_); (try (refine gate_guard (by rfl) ?_; dsimp only)); refine goesL_ (some 42) rfl rfl Tryd.func26 (by kernel_rfl) rfl #[.int .i64 se, .int .i64 (60)] rfl (by (try simp only [List.map_toArray, List.map_cons, List.map_nil]); first | done | rfl) ?_; (refine (after_c se (60) _ hs.1 hs.2 (by decide) (by decide)).mono ?_); rintro e_ w1 ⟨rfl, rfl⟩; refine ⟨_, rfl, ?_⟩; skip)
    | ((with_reducible refine gate_callee (f := 27) rfl ?_); (try (refine gate_guard (by rfl) ?_; dsimp only)); refine goesL_ (some 50) rfl rfl Tryd.func27 (by kernel_rfl) rfl #[.agg (stC c h st xid sv v6 hi lo t1 t2 un se at_)] rfl (by (try simp only [List.map_toArray, List.map_cons, List.map_nil]); first | done | rfl) ?_; (refine (initial_c c h st xid sv v6 hi lo t1 t2 un se at_ _).mono ?_); rintro e_ w1 ⟨rfl, hb⟩; refine ⟨_, rfl, ?_⟩; have I2 := Aside0.mk (I.out.call hb); clear I hb; have I := I2; clear I2)
    | ((with_reducible refine gate_sr rfl ?_); refine wl_sr2 rfl rfl rfl rfl rfl I.out (by first | exact .head _ | exact .tail _ (.head _) | exact .tail _ (.tail _ (.head _)) | exact .tail _ (.tail _ (.tail _ (.head _)))) (by first | exact sr_st) (by first | exact .head | exact .tail .head | exact .tail (.tail .head) | exact .tail (.tail (.tail .head))) ?_; intro w1 hI; clear I; have I := Aside0.mk hI; clear hI)
    )
   refine bodyPost_ret (ret_ct rfl _ I.out _ rfl (by first | exact .head _ | exact .tail _ (.head _) | exact .tail _ (.tail _ (.head _)) | exact .tail _ (.tail _ (.tail _ (.head _)))) Tryd.underlying26 rfl (by kernel_rfl)) rfl ?_
   exact ⟨_, rfl, Pks_nil _ _, I.out.below⟩
 have e1 : decide (un ≤ now) = false := decide_eq_false hn
 by_cases s5 : st = 5
 · subst s5
   by_cases ha : (min (se + max 60 ((un - se).tdiv 2)) 4294967295 ≤ now)
   ·
     by_cases hm : 60 < (un - se).tdiv 2
     · have m1 : decide (60 < (un - se).tdiv 2) = true := decide_eq_true hm
       have em : max 60 ((un - se).tdiv 2) = (un - se).tdiv 2 := by omega
       have hd := td2 (x := un - se) (by omega) (by omega)
       have eF : tickF ⟨c, h, 5, xid, sv, ⟨v6, hi, lo⟩, t1, t2, un, se, at_⟩ now = stepF ⟨c, h, 5, xid, sv, ⟨v6, hi, lo⟩, t1, t2, un, se, at_⟩ 3 0 ⟨v6, hi, lo⟩ [] 5 at_ now := by unfold tickF; exact (if_neg (show ¬ (5 : Int) = 0 by decide)).trans ((if_neg (fun hq => hq.elim (show ¬ (5 : Int) = 1 by decide) (show ¬ (5 : Int) = 2 by decide))).trans ((if_neg hn).trans ((if_neg (fun hq => hq.1 rfl)).trans ((if_neg (fun hq => absurd hq.1 (show ¬ (5 : Int) = 3 by decide))).trans ((if_neg (fun hq => absurd hq.1 (show ¬ (5 : Int) = 4 by decide))).trans (if_pos ⟨rfl, ha⟩))))))
       rw [eF]
       clear eF
       have ag : decide (min (se + (un - se).tdiv 2) 4294967295 ≤ now) = true := by rw [em] at ha; exact decide_eq_true ha
       clear ha
       have I := Aside0.mk (Inv.start0 (w0 := w))
       go_enter Tryd.func9, Tryd.ntmps9
       go_wp2_with (first
        | ((with_reducible refine gate_box rfl ?_); refine wl_bx rfl rfl rfl I.out ?_; intro gb w1 hI; clear I; have I := Aside0.mk hI; clear hI)
        | ((with_reducible refine gate_alloc (ty := 26) rfl ?_); refine wl_box (t := 26) (cs := (stC (⟨#[]⟩ : ByteArray) (⟨#[]⟩ : ByteArray) 0 0 0 false 0 0 0 0 0 0 0)) rfl ?hr I.out ?_; (case hr => first | (go_simp; done) | (go_simp; rfl)); intro gb w1 hI; clear I; have I := Aside0.mk hI; clear hI)
        | ((with_reducible refine gate_ld rfl ?_); (try (refine gate_guard (by rfl) ?_; dsimp only)); refine wl_ld rfl rfl rfl I.out (by first | exact .head _ | exact .tail _ (.head _) | exact .tail _ (.tail _ (.head _)) | exact .tail _ (.tail _ (.tail _ (.head _)))) (by first | exact ld_st2 | exact ld_st9 | exact ld_st10 | exact ld_st11 | exact ld_st8 | exact ld_st) ?_)
        | ((with_reducible refine gate_callee (f := 26) rfl ?_); (try (refine gate_guard (by rfl) ?_; dsimp only)); refine goesL_ (some 42) rfl rfl Tryd.func26 (by kernel_rfl) rfl #[.int .i64 se, .int .i64 ((un - se).tdiv 2)] rfl (by (try simp only [List.map_toArray, List.map_cons, List.map_nil]); first | done | rfl) ?_; (refine (after_c se ((un - se).tdiv 2) _ hs.1 hs.2 hd.1 hd.2).mono ?_); rintro e_ w1 ⟨rfl, rfl⟩; refine ⟨_, rfl, ?_⟩; skip)
        | ((with_reducible refine gate_sr rfl ?_); refine wl_sr2 rfl rfl rfl rfl rfl I.out (by first | exact .head _ | exact .tail _ (.head _) | exact .tail _ (.tail _ (.head _)) | exact .tail _ (.tail _ (.tail _ (.head _)))) (by first | exact sr_st) (by first | exact .head | exact .tail .head | exact .tail (.tail .head) | exact .tail (.tail (.tail .head))) ?_; intro w1 hI; clear I; have I := Aside0.mk hI; clear hI)
        )
       have IS := Aside0.mk (I.out.sub (.cons _ (.cons_cons _ .slnil))).drew
       refine draw_ (Inv _ w [_] _) [9] (by kernel_rfl) rfl IS.out ?_
       have I2 := Aside0.mk I.out.drew
       clear I
       have I := I2
       clear I2
       refine ta1 (i := 0) rfl rfl (by kernel_rfl) rfl rfl IS.out (by first | exact .head _ | exact .tail _ (.head _) | exact .tail _ (.tail _ (.head _)) | exact .tail _ (.tail _ (.tail _ (.head _)))) (by exact ld_st) ?_ (ha := by (go_simp; rfl))
       refine ta1 (i := 1) rfl rfl (by kernel_rfl) rfl rfl IS.out (by first | exact .head _ | exact .tail _ (.head _) | exact .tail _ (.tail _ (.head _)) | exact .tail _ (.tail _ (.tail _ (.head _)))) (by exact ld_st) ?_ (ha := by (go_simp; rfl))
       refine pu1 (i := 3) rfl rfl (by kernel_rfl) ?_ (ha := by (go_simp; rfl))
       refine ta1 (i := 4) rfl rfl (by kernel_rfl) rfl rfl IS.out (by first | exact .head _ | exact .tail _ (.head _) | exact .tail _ (.tail _ (.head _)) | exact .tail _ (.tail _ (.tail _ (.head _)))) (by exact ld_st12) ?_ (ha := by (go_simp; rfl))
       refine pu1 (i := 5) rfl rfl (by kernel_rfl) ?_ (ha := by (go_simp; rfl))
       refine ca1 (i := 2) rfl rfl (by kernel_rfl) (by decide) Tryd.func28 (by kernel_rfl) rfl #[.agg (stC c h 5 xid sv v6 hi lo t1 t2 un se at_), .bool true] rfl (by (try simp only [List.map_toArray, List.map_cons, List.map_nil]); first | done | rfl) ?_
       refine (renewal_c c h 5 xid sv v6 hi lo t1 t2 un se at_ true _).mono ?_
       rintro e_ w1 ⟨rfl, hb⟩
       have I2 := Aside0.mk (I.out.call hb)
       clear I hb
       have I := I2
       clear I2
       clear IS
       have IS := Aside0.mk ((I.out.imp (fun _ _ => trivial)).sub (.cons _ (.cons_cons _ .slnil)))
       refine ⟨_, rfl, IS.out, ?_⟩
       refine ca1 (i := 6) rfl rfl (by kernel_rfl) (by decide) Tryd.func23 (by kernel_rfl) rfl #[.agg (stC c h 5 xid sv v6 hi lo t1 t2 un se at_), .agg (pkC 3 0 0 (⟨#[]⟩ : ByteArray) v6 hi lo false 0 0 false 0 0 false (.slice none 0 0)), .int .i64 (5), .int .i64 (at_), .int .i64 now] rfl (by (try simp only [List.map_toArray, List.map_cons, List.map_nil]); first | done | rfl) ?_
       refine (step_c ⟨c, h, 5, xid, sv, ⟨v6, hi, lo⟩, t1, t2, un, se, at_⟩ 3 0 ⟨v6, hi, lo⟩ none 0 [] (fun _ => False) (5) (at_) now _ hx0 (foot_no _ none 0) (Nat.le_refl _) okO_nil).mono ?_
       rintro e_ w1 ⟨v, rfl, hf, hb⟩
       have I2 := Aside0.mk (I.out.addNew hb hf (fun k hk _ => hk.elim False.elim (fun h_ => I.out.new_out k h_)))
       clear hf
       clear I hb
       have I := I2
       clear I2
       clear IS
       have IS := Aside0.mk ((I.out.imp (fun _ _ => trivial)).sub (.cons _ (.cons_cons _ .slnil)))
       refine ⟨_, rfl, IS.out, ?_⟩
       refine pu1 (i := 7) rfl rfl (by kernel_rfl) ?_ (ha := by (go_simp; rfl))
       refine pu1 (i := 8) rfl rfl (by kernel_rfl) ?_ (ha := by (go_simp; rfl))
       refine sl1 (i := 9) rfl rfl (by kernel_rfl) (by decide) rfl rfl rfl I.out (by first | exact .head _ | exact .tail _ (.head _) | exact .tail _ (.tail _ (.head _)) | exact .tail _ (.tail _ (.tail _ (.head _)))) (by first | exact sr_st) (by first | exact .head | exact .tail .head | exact .tail (.tail .head) | exact .tail (.tail (.tail .head))) (fun w1 hI => ?_)
       clear I
       have I := Aside0.mk hI
       clear hI
       refine pu1 (i := 10) rfl rfl (by kernel_rfl) ?_ (ha := by (go_simp; rfl))
       refine do1 (by kernel_rfl) ?_
       clear IS
       try go_wp2
       refine bodyPost_ret (ret_ct rfl _ I.out _ rfl (by first | exact .head _ | exact .tail _ (.head _) | exact .tail _ (.tail _ (.head _)) | exact .tail _ (.tail _ (.tail _ (.head _)))) Tryd.underlying26 rfl (by kernel_rfl)) rfl ?_
       exact ⟨_, rfl, foot_new (I.out.foot.imp (fun W hW => hW.2)), I.out.below⟩
     have m1 : decide (60 < (un - se).tdiv 2) = false := decide_eq_false hm
     replace hm : (un - se).tdiv 2 ≤ 60 := by omega
     have em : max 60 ((un - se).tdiv 2) = 60 := by omega
     have eF : tickF ⟨c, h, 5, xid, sv, ⟨v6, hi, lo⟩, t1, t2, un, se, at_⟩ now = stepF ⟨c, h, 5, xid, sv, ⟨v6, hi, lo⟩, t1, t2, un, se, at_⟩ 3 0 ⟨v6, hi, lo⟩ [] 5 at_ now := by unfold tickF; exact (if_neg (show ¬ (5 : Int) = 0 by decide)).trans ((if_neg (fun hq => hq.elim (show ¬ (5 : Int) = 1 by decide) (show ¬ (5 : Int) = 2 by decide))).trans ((if_neg hn).trans ((if_neg (fun hq => hq.1 rfl)).trans ((if_neg (fun hq => absurd hq.1 (show ¬ (5 : Int) = 3 by decide))).trans ((if_neg (fun hq => absurd hq.1 (show ¬ (5 : Int) = 4 by decide))).trans (if_pos ⟨rfl, ha⟩))))))
     rw [eF]
     clear eF
     have ag : decide (min (se + 60) 4294967295 ≤ now) = true := by rw [em] at ha; exact decide_eq_true ha
     clear ha
     have I := Aside0.mk (Inv.start0 (w0 := w))
     go_enter Tryd.func9, Tryd.ntmps9
     go_wp2_with (first
      | ((with_reducible refine gate_box rfl ?_); refine wl_bx rfl rfl rfl I.out ?_; intro gb w1 hI; clear I; have I := Aside0.mk hI; clear hI)
      | ((with_reducible refine gate_alloc (ty := 26) rfl ?_); refine wl_box (t := 26) (cs := (stC (⟨#[]⟩ : ByteArray) (⟨#[]⟩ : ByteArray) 0 0 0 false 0 0 0 0 0 0 0)) rfl ?hr I.out ?_; (case hr => first | (go_simp; done) | (go_simp; rfl)); intro gb w1 hI; clear I; have I := Aside0.mk hI; clear hI)
      | ((with_reducible refine gate_ld rfl ?_); (try (refine gate_guard (by rfl) ?_; dsimp only)); refine wl_ld rfl rfl rfl I.out (by first | exact .head _ | exact .tail _ (.head _) | exact .tail _ (.tail _ (.head _)) | exact .tail _ (.tail _ (.tail _ (.head _)))) (by first | exact ld_st2 | exact ld_st9 | exact ld_st10 | exact ld_st11 | exact ld_st8 | exact ld_st) ?_)
      | ((with_reducible refine gate_callee (f := 26) rfl ?_); (try (refine gate_guard (by rfl) ?_; dsimp only)); refine goesL_ (some 42) rfl rfl Tryd.func26 (by kernel_rfl) rfl #[.int .i64 se, .int .i64 (60)] rfl (by (try simp only [List.map_toArray, List.map_cons, List.map_nil]); first | done | rfl) ?_; (refine (after_c se (60) _ hs.1 hs.2 (by decide) (by decide)).mono ?_); rintro e_ w1 ⟨rfl, rfl⟩; refine ⟨_, rfl, ?_⟩; skip)
      | ((with_reducible refine gate_sr rfl ?_); refine wl_sr2 rfl rfl rfl rfl rfl I.out (by first | exact .head _ | exact .tail _ (.head _) | exact .tail _ (.tail _ (.head _)) | exact .tail _ (.tail _ (.tail _ (.head _)))) (by first | exact sr_st) (by first | exact .head | exact .tail .head | exact .tail (.tail .head) | exact .tail (.tail (.tail .head))) ?_; intro w1 hI; clear I; have I := Aside0.mk hI; clear hI)
      )
     have IS := Aside0.mk (I.out.sub (.cons _ (.cons_cons _ .slnil))).drew
     refine draw_ (Inv _ w [_] _) [9] (by kernel_rfl) rfl IS.out ?_
     have I2 := Aside0.mk I.out.drew
     clear I
     have I := I2
     clear I2
     refine ta1 (i := 0) rfl rfl (by kernel_rfl) rfl rfl IS.out (by first | exact .head _ | exact .tail _ (.head _) | exact .tail _ (.tail _ (.head _)) | exact .tail _ (.tail _ (.tail _ (.head _)))) (by exact ld_st) ?_ (ha := by (go_simp; rfl))
     refine ta1 (i := 1) rfl rfl (by kernel_rfl) rfl rfl IS.out (by first | exact .head _ | exact .tail _ (.head _) | exact .tail _ (.tail _ (.head _)) | exact .tail _ (.tail _ (.tail _ (.head _)))) (by exact ld_st) ?_ (ha := by (go_simp; rfl))
     refine pu1 (i := 3) rfl rfl (by kernel_rfl) ?_ (ha := by (go_simp; rfl))
     refine ta1 (i := 4) rfl rfl (by kernel_rfl) rfl rfl IS.out (by first | exact .head _ | exact .tail _ (.head _) | exact .tail _ (.tail _ (.head _)) | exact .tail _ (.tail _ (.tail _ (.head _)))) (by exact ld_st12) ?_ (ha := by (go_simp; rfl))
     refine pu1 (i := 5) rfl rfl (by kernel_rfl) ?_ (ha := by (go_simp; rfl))
     refine ca1 (i := 2) rfl rfl (by kernel_rfl) (by decide) Tryd.func28 (by kernel_rfl) rfl #[.agg (stC c h 5 xid sv v6 hi lo t1 t2 un se at_), .bool true] rfl (by (try simp only [List.map_toArray, List.map_cons, List.map_nil]); first | done | rfl) ?_
     refine (renewal_c c h 5 xid sv v6 hi lo t1 t2 un se at_ true _).mono ?_
     rintro e_ w1 ⟨rfl, hb⟩
     have I2 := Aside0.mk (I.out.call hb)
     clear I hb
     have I := I2
     clear I2
     clear IS
     have IS := Aside0.mk ((I.out.imp (fun _ _ => trivial)).sub (.cons _ (.cons_cons _ .slnil)))
     refine ⟨_, rfl, IS.out, ?_⟩
     refine ca1 (i := 6) rfl rfl (by kernel_rfl) (by decide) Tryd.func23 (by kernel_rfl) rfl #[.agg (stC c h 5 xid sv v6 hi lo t1 t2 un se at_), .agg (pkC 3 0 0 (⟨#[]⟩ : ByteArray) v6 hi lo false 0 0 false 0 0 false (.slice none 0 0)), .int .i64 (5), .int .i64 (at_), .int .i64 now] rfl (by (try simp only [List.map_toArray, List.map_cons, List.map_nil]); first | done | rfl) ?_
     refine (step_c ⟨c, h, 5, xid, sv, ⟨v6, hi, lo⟩, t1, t2, un, se, at_⟩ 3 0 ⟨v6, hi, lo⟩ none 0 [] (fun _ => False) (5) (at_) now _ hx0 (foot_no _ none 0) (Nat.le_refl _) okO_nil).mono ?_
     rintro e_ w1 ⟨v, rfl, hf, hb⟩
     have I2 := Aside0.mk (I.out.addNew hb hf (fun k hk _ => hk.elim False.elim (fun h_ => I.out.new_out k h_)))
     clear hf
     clear I hb
     have I := I2
     clear I2
     clear IS
     have IS := Aside0.mk ((I.out.imp (fun _ _ => trivial)).sub (.cons _ (.cons_cons _ .slnil)))
     refine ⟨_, rfl, IS.out, ?_⟩
     refine pu1 (i := 7) rfl rfl (by kernel_rfl) ?_ (ha := by (go_simp; rfl))
     refine pu1 (i := 8) rfl rfl (by kernel_rfl) ?_ (ha := by (go_simp; rfl))
     refine sl1 (i := 9) rfl rfl (by kernel_rfl) (by decide) rfl rfl rfl I.out (by first | exact .head _ | exact .tail _ (.head _) | exact .tail _ (.tail _ (.head _)) | exact .tail _ (.tail _ (.tail _ (.head _)))) (by first | exact sr_st) (by first | exact .head | exact .tail .head | exact .tail (.tail .head) | exact .tail (.tail (.tail .head))) (fun w1 hI => ?_)
     clear I
     have I := Aside0.mk hI
     clear hI
     refine pu1 (i := 10) rfl rfl (by kernel_rfl) ?_ (ha := by (go_simp; rfl))
     refine do1 (by kernel_rfl) ?_
     clear IS
     try go_wp2
     refine bodyPost_ret (ret_ct rfl _ I.out _ rfl (by first | exact .head _ | exact .tail _ (.head _) | exact .tail _ (.tail _ (.head _)) | exact .tail _ (.tail _ (.tail _ (.head _)))) Tryd.underlying26 rfl (by kernel_rfl)) rfl ?_
     exact ⟨_, rfl, foot_new (I.out.foot.imp (fun W hW => hW.2)), I.out.below⟩
   by_cases hm : 60 < (un - se).tdiv 2
   · have m1 : decide (60 < (un - se).tdiv 2) = true := decide_eq_true hm
     have em : max 60 ((un - se).tdiv 2) = (un - se).tdiv 2 := by omega
     have hd := td2 (x := un - se) (by omega) (by omega)
     have eF : tickF ⟨c, h, 5, xid, sv, ⟨v6, hi, lo⟩, t1, t2, un, se, at_⟩ now = (⟨c, h, 5, xid, sv, ⟨v6, hi, lo⟩, t1, t2, un, se, at_⟩, []) := by unfold tickF; exact (if_neg (show ¬ (5 : Int) = 0 by decide)).trans ((if_neg (fun hq => hq.elim (show ¬ (5 : Int) = 1 by decide) (show ¬ (5 : Int) = 2 by decide))).trans ((if_neg hn).trans ((if_neg (fun hq => hq.1 rfl)).trans ((if_neg (fun hq => absurd hq.1 (show ¬ (5 : Int) = 3 by decide))).trans ((if_neg (fun hq => absurd hq.1 (show ¬ (5 : Int) = 4 by decide))).trans (if_neg (fun hq => ha hq.2)))))))
     rw [eF]
     clear eF
     have ag : decide (min (se + (un - se).tdiv 2) 4294967295 ≤ now) = false := by rw [em] at ha; exact decide_eq_false ha
     clear ha
     have I := Aside0.mk (Inv.start0 (w0 := w))
     go_enter Tryd.func9, Tryd.ntmps9
     go_wp2_with (first
      | ((with_reducible refine gate_box rfl ?_); refine wl_bx rfl rfl rfl I.out ?_; intro gb w1 hI; clear I; have I := Aside0.mk hI; clear hI)
      | ((with_reducible refine gate_alloc (ty := 26) rfl ?_); refine wl_box (t := 26) (cs := (stC (⟨#[]⟩ : ByteArray) (⟨#[]⟩ : ByteArray) 0 0 0 false 0 0 0 0 0 0 0)) rfl ?hr I.out ?_; (case hr => first | (go_simp; done) | (go_simp; rfl)); intro gb w1 hI; clear I; have I := Aside0.mk hI; clear hI)
      | ((with_reducible refine gate_ld rfl ?_); (try (refine gate_guard (by rfl) ?_; dsimp only)); refine wl_ld rfl rfl rfl I.out (by first | exact .head _ | exact .tail _ (.head _) | exact .tail _ (.tail _ (.head _)) | exact .tail _ (.tail _ (.tail _ (.head _)))) (by first | exact ld_st2 | exact ld_st9 | exact ld_st10 | exact ld_st11 | exact ld_st8 | exact ld_st) ?_)
      | ((with_reducible refine gate_callee (f := 26) rfl ?_); (try (refine gate_guard (by rfl) ?_; dsimp only)); refine goesL_ (some 42) rfl rfl Tryd.func26 (by kernel_rfl) rfl #[.int .i64 se, .int .i64 ((un - se).tdiv 2)] rfl (by (try simp only [List.map_toArray, List.map_cons, List.map_nil]); first | done | rfl) ?_; (refine (after_c se ((un - se).tdiv 2) _ hs.1 hs.2 hd.1 hd.2).mono ?_); rintro e_ w1 ⟨rfl, rfl⟩; refine ⟨_, rfl, ?_⟩; skip)
      | ((with_reducible refine gate_sr rfl ?_); refine wl_sr2 rfl rfl rfl rfl rfl I.out (by first | exact .head _ | exact .tail _ (.head _) | exact .tail _ (.tail _ (.head _)) | exact .tail _ (.tail _ (.tail _ (.head _)))) (by first | exact sr_st) (by first | exact .head | exact .tail .head | exact .tail (.tail .head) | exact .tail (.tail (.tail .head))) ?_; intro w1 hI; clear I; have I := Aside0.mk hI; clear hI)
      )
     refine bodyPost_ret (ret_ct rfl _ I.out _ rfl (by first | exact .head _ | exact .tail _ (.head _) | exact .tail _ (.tail _ (.head _)) | exact .tail _ (.tail _ (.tail _ (.head _)))) Tryd.underlying26 rfl (by kernel_rfl)) rfl ?_
     exact ⟨_, rfl, Pks_nil _ _, I.out.below⟩
   have m1 : decide (60 < (un - se).tdiv 2) = false := decide_eq_false hm
   replace hm : (un - se).tdiv 2 ≤ 60 := by omega
   have em : max 60 ((un - se).tdiv 2) = 60 := by omega
   have eF : tickF ⟨c, h, 5, xid, sv, ⟨v6, hi, lo⟩, t1, t2, un, se, at_⟩ now = (⟨c, h, 5, xid, sv, ⟨v6, hi, lo⟩, t1, t2, un, se, at_⟩, []) := by unfold tickF; exact (if_neg (show ¬ (5 : Int) = 0 by decide)).trans ((if_neg (fun hq => hq.elim (show ¬ (5 : Int) = 1 by decide) (show ¬ (5 : Int) = 2 by decide))).trans ((if_neg hn).trans ((if_neg (fun hq => hq.1 rfl)).trans ((if_neg (fun hq => absurd hq.1 (show ¬ (5 : Int) = 3 by decide))).trans ((if_neg (fun hq => absurd hq.1 (show ¬ (5 : Int) = 4 by decide))).trans (if_neg (fun hq => ha hq.2)))))))
   rw [eF]
   clear eF
   have ag : decide (min (se + 60) 4294967295 ≤ now) = false := by rw [em] at ha; exact decide_eq_false ha
   clear ha
   have I := Aside0.mk (Inv.start0 (w0 := w))
   go_enter Tryd.func9, Tryd.ntmps9
   go_wp2_with (first
    | ((with_reducible refine gate_box rfl ?_); refine wl_bx rfl rfl rfl I.out ?_; intro gb w1 hI; clear I; have I := Aside0.mk hI; clear hI)
    | ((with_reducible refine gate_alloc (ty := 26) rfl ?_); refine wl_box (t := 26) (cs := (stC (⟨#[]⟩ : ByteArray) (⟨#[]⟩ : ByteArray) 0 0 0 false 0 0 0 0 0 0 0)) rfl ?hr I.out ?_; (case hr => first | (go_simp; done) | (go_simp; rfl)); intro gb w1 hI; clear I; have I := Aside0.mk hI; clear hI)
    | ((with_reducible refine gate_ld rfl ?_); (try (refine gate_guard (by rfl) ?_; dsimp only)); refine wl_ld rfl rfl rfl I.out (by first | exact .head _ | exact .tail _ (.head _) | exact .tail _ (.tail _ (.head _)) | exact .tail _ (.tail _ (.tail _ (.head _)))) (by first | exact ld_st2 | exact ld_st9 | exact ld_st10 | exact ld_st11 | exact ld_st8 | exact ld_st) ?_)
    | ((with_reducible refine gate_callee (f := 26) rfl ?_); (try (refine gate_guard (by rfl) ?_; dsimp only)); refine goesL_ (some 42) rfl rfl Tryd.func26 (by kernel_rfl) rfl #[.int .i64 se, .int .i64 (60)] rfl (by (try simp only [List.map_toArray, List.map_cons, List.map_nil]); first | done | rfl) ?_; (refine (after_c se (60) _ hs.1 hs.2 (by decide) (by decide)).mono ?_); rintro e_ w1 ⟨rfl, rfl⟩; refine ⟨_, rfl, ?_⟩; skip)
    | ((with_reducible refine gate_sr rfl ?_); refine wl_sr2 rfl rfl rfl rfl rfl I.out (by first | exact .head _ | exact .tail _ (.head _) | exact .tail _ (.tail _ (.head _)) | exact .tail _ (.tail _ (.tail _ (.head _)))) (by first | exact sr_st) (by first | exact .head | exact .tail .head | exact .tail (.tail .head) | exact .tail (.tail (.tail .head))) ?_; intro w1 hI; clear I; have I := Aside0.mk hI; clear hI)
    )
   refine bodyPost_ret (ret_ct rfl _ I.out _ rfl (by first | exact .head _ | exact .tail _ (.head _) | exact .tail _ (.tail _ (.head _)) | exact .tail _ (.tail _ (.tail _ (.head _)))) Tryd.underlying26 rfl (by kernel_rfl)) rfl ?_
   exact ⟨_, rfl, Pks_nil _ _, I.out.below⟩
 have b5 : (st == 5) = false := beq_eq_false_iff_ne.mpr s5
 have c5 : (st != 5) = true := bne_iff_ne.mpr s5
 by_cases h22 : t2 ≤ now
 · have e2 : decide (t2 ≤ now) = true := decide_eq_true h22
   by_cases hm : 60 < (t2 - se).tdiv 2
   · have m1 : decide (60 < (t2 - se).tdiv 2) = true := decide_eq_true hm
     have em : max 60 ((t2 - se).tdiv 2) = (t2 - se).tdiv 2 := by omega
     have hd := td2 (x := t2 - se) (by omega) (by omega)
     have eF : tickF ⟨c, h, st, xid, sv, ⟨v6, hi, lo⟩, t1, t2, un, se, at_⟩ now = stepF ⟨c, h, st, xid, sv, ⟨v6, hi, lo⟩, t1, t2, un, se, at_⟩ 3 0 ⟨v6, hi, lo⟩ [] 5 at_ now := by unfold tickF; exact (if_neg s0).trans ((if_neg e12).trans ((if_neg hn).trans (if_pos ⟨s5, h22⟩)))
     rw [eF]
     clear eF
     have I := Aside0.mk (Inv.start0 (w0 := w))
     go_enter Tryd.func9, Tryd.ntmps9
     go_wp2_with (first
      | ((with_reducible refine gate_box rfl ?_); refine wl_bx rfl rfl rfl I.out ?_; intro gb w1 hI; clear I; have I := Aside0.mk hI; clear hI)
      | ((with_reducible refine gate_alloc (ty := 26) rfl ?_); refine wl_box (t := 26) (cs := (stC (⟨#[]⟩ : ByteArray) (⟨#[]⟩ : ByteArray) 0 0 0 false 0 0 0 0 0 0 0)) rfl ?hr I.out ?_; (case hr => first | (go_simp; done) | (go_simp; rfl)); intro gb w1 hI; clear I; have I := Aside0.mk hI; clear hI)
      | ((with_reducible refine gate_ld rfl ?_); (try (refine gate_guard (by rfl) ?_; dsimp only)); refine wl_ld rfl rfl rfl I.out (by first | exact .head _ | exact .tail _ (.head _) | exact .tail _ (.tail _ (.head _)) | exact .tail _ (.tail _ (.tail _ (.head _)))) (by first | exact ld_st2 | exact ld_st9 | exact ld_st10 | exact ld_st11 | exact ld_st8 | exact ld_st) ?_)
      | ((with_reducible refine gate_callee (f := 26) rfl ?_); (try (refine gate_guard (by rfl) ?_; dsimp only)); refine goesL_ (some 42) rfl rfl Tryd.func26 (by kernel_rfl) rfl #[.int .i64 se, .int .i64 ((t2 - se).tdiv 2)] rfl (by (try simp only [List.map_toArray, List.map_cons, List.map_nil]); first | done | rfl) ?_; (refine (after_c se ((t2 - se).tdiv 2) _ hs.1 hs.2 hd.1 hd.2).mono ?_); rintro e_ w1 ⟨rfl, rfl⟩; refine ⟨_, rfl, ?_⟩; skip)
      | ((with_reducible refine gate_sr rfl ?_); refine wl_sr2 rfl rfl rfl rfl rfl I.out (by first | exact .head _ | exact .tail _ (.head _) | exact .tail _ (.tail _ (.head _)) | exact .tail _ (.tail _ (.tail _ (.head _)))) (by first | exact sr_st) (by first | exact .head | exact .tail .head | exact .tail (.tail .head) | exact .tail (.tail (.tail .head))) ?_; intro w1 hI; clear I; have I := Aside0.mk hI; clear hI)
      )
     have IS := Aside0.mk (I.out.sub (.cons _ (.cons_cons _ .slnil))).drew
     refine draw_ (Inv _ w [_] _) [9] (by kernel_rfl) rfl IS.out ?_
     have I2 := Aside0.mk I.out.drew
     clear I
     have I := I2
     clear I2
     refine ta1 (i := 0) rfl rfl (by kernel_rfl) rfl rfl IS.out (by first | exact .head _ | exact .tail _ (.head _) | exact .tail _ (.tail _ (.head _)) | exact .tail _ (.tail _ (.tail _ (.head _)))) (by exact ld_st) ?_ (ha := by (go_simp; rfl))
     refine ta1 (i := 1) rfl rfl (by kernel_rfl) rfl rfl IS.out (by first | exact .head _ | exact .tail _ (.head _) | exact .tail _ (.tail _ (.head _)) | exact .tail _ (.tail _ (.tail _ (.head _)))) (by exact ld_st) ?_ (ha := by (go_simp; rfl))
     refine pu1 (i := 3) rfl rfl (by kernel_rfl) ?_ (ha := by (go_simp; rfl))
     refine ta1 (i := 4) rfl rfl (by kernel_rfl) rfl rfl IS.out (by first | exact .head _ | exact .tail _ (.head _) | exact .tail _ (.tail _ (.head _)) | exact .tail _ (.tail _ (.tail _ (.head _)))) (by exact ld_st12) ?_ (ha := by (go_simp; rfl))
     refine pu1 (i := 5) rfl rfl (by kernel_rfl) ?_ (ha := by (go_simp; rfl))
     refine ca1 (i := 2) rfl rfl (by kernel_rfl) (by decide) Tryd.func28 (by kernel_rfl) rfl #[.agg (stC c h st xid sv v6 hi lo t1 t2 un se at_), .bool true] rfl (by (try simp only [List.map_toArray, List.map_cons, List.map_nil]); first | done | rfl) ?_
     refine (renewal_c c h st xid sv v6 hi lo t1 t2 un se at_ true _).mono ?_
     rintro e_ w1 ⟨rfl, hb⟩
     have I2 := Aside0.mk (I.out.call hb)
     clear I hb
     have I := I2
     clear I2
     clear IS
     have IS := Aside0.mk ((I.out.imp (fun _ _ => trivial)).sub (.cons _ (.cons_cons _ .slnil)))
     refine ⟨_, rfl, IS.out, ?_⟩
     refine ca1 (i := 6) rfl rfl (by kernel_rfl) (by decide) Tryd.func23 (by kernel_rfl) rfl #[.agg (stC c h st xid sv v6 hi lo t1 t2 un se at_), .agg (pkC 3 0 0 (⟨#[]⟩ : ByteArray) v6 hi lo false 0 0 false 0 0 false (.slice none 0 0)), .int .i64 (5), .int .i64 (at_), .int .i64 now] rfl (by (try simp only [List.map_toArray, List.map_cons, List.map_nil]); first | done | rfl) ?_
     refine (step_c ⟨c, h, st, xid, sv, ⟨v6, hi, lo⟩, t1, t2, un, se, at_⟩ 3 0 ⟨v6, hi, lo⟩ none 0 [] (fun _ => False) (5) (at_) now _ hx0 (foot_no _ none 0) (Nat.le_refl _) okO_nil).mono ?_
     rintro e_ w1 ⟨v, rfl, hf, hb⟩
     have I2 := Aside0.mk (I.out.addNew hb hf (fun k hk _ => hk.elim False.elim (fun h_ => I.out.new_out k h_)))
     clear hf
     clear I hb
     have I := I2
     clear I2
     clear IS
     have IS := Aside0.mk ((I.out.imp (fun _ _ => trivial)).sub (.cons _ (.cons_cons _ .slnil)))
     refine ⟨_, rfl, IS.out, ?_⟩
     refine pu1 (i := 7) rfl rfl (by kernel_rfl) ?_ (ha := by (go_simp; rfl))
     refine pu1 (i := 8) rfl rfl (by kernel_rfl) ?_ (ha := by (go_simp; rfl))
     refine sl1 (i := 9) rfl rfl (by kernel_rfl) (by decide) rfl rfl rfl I.out (by first | exact .head _ | exact .tail _ (.head _) | exact .tail _ (.tail _ (.head _)) | exact .tail _ (.tail _ (.tail _ (.head _)))) (by first | exact sr_st) (by first | exact .head | exact .tail .head | exact .tail (.tail .head) | exact .tail (.tail (.tail .head))) (fun w1 hI => ?_)
     clear I
     have I := Aside0.mk hI
     clear hI
     refine pu1 (i := 10) rfl rfl (by kernel_rfl) ?_ (ha := by (go_simp; rfl))
     refine do1 (by kernel_rfl) ?_
     clear IS
     try go_wp2
     refine bodyPost_ret (ret_ct rfl _ I.out _ rfl (by first | exact .head _ | exact .tail _ (.head _) | exact .tail _ (.tail _ (.head _)) | exact .tail _ (.tail _ (.tail _ (.head _)))) Tryd.underlying26 rfl (by kernel_rfl)) rfl ?_
     exact ⟨_, rfl, foot_new (I.out.foot.imp (fun W hW => hW.2)), I.out.below⟩
   have m1 : decide (60 < (t2 - se).tdiv 2) = false := decide_eq_false hm
   replace hm : (t2 - se).tdiv 2 ≤ 60 := by omega
   have em : max 60 ((t2 - se).tdiv 2) = 60 := by omega
   have eF : tickF ⟨c, h, st, xid, sv, ⟨v6, hi, lo⟩, t1, t2, un, se, at_⟩ now = stepF ⟨c, h, st, xid, sv, ⟨v6, hi, lo⟩, t1, t2, un, se, at_⟩ 3 0 ⟨v6, hi, lo⟩ [] 5 at_ now := by unfold tickF; exact (if_neg s0).trans ((if_neg e12).trans ((if_neg hn).trans (if_pos ⟨s5, h22⟩)))
   rw [eF]
   clear eF
   have I := Aside0.mk (Inv.start0 (w0 := w))
   go_enter Tryd.func9, Tryd.ntmps9
   go_wp2_with (first
    | ((with_reducible refine gate_box rfl ?_); refine wl_bx rfl rfl rfl I.out ?_; intro gb w1 hI; clear I; have I := Aside0.mk hI; clear hI)
    | ((with_reducible refine gate_alloc (ty := 26) rfl ?_); refine wl_box (t := 26) (cs := (stC (⟨#[]⟩ : ByteArray) (⟨#[]⟩ : ByteArray) 0 0 0 false 0 0 0 0 0 0 0)) rfl ?hr I.out ?_; (case hr => first | (go_simp; done) | (go_simp; rfl)); intro gb w1 hI; clear I; have I := Aside0.mk hI; clear hI)
    | ((with_reducible refine gate_ld rfl ?_); (try (refine gate_guard (by rfl) ?_; dsimp only)); refine wl_ld rfl rfl rfl I.out (by first | exact .head _ | exact .tail _ (.head _) | exact .tail _ (.tail _ (.head _)) | exact .tail _ (.tail _ (.tail _ (.head _)))) (by first | exact ld_st2 | exact ld_st9 | exact ld_st10 | exact ld_st11 | exact ld_st8 | exact ld_st) ?_)
    | ((with_reducible refine gate_callee (f := 26) rfl ?_); (try (refine gate_guard (by rfl) ?_; dsimp only)); refine goesL_ (some 42) rfl rfl Tryd.func26 (by kernel_rfl) rfl #[.int .i64 se, .int .i64 (60)] rfl (by (try simp only [List.map_toArray, List.map_cons, List.map_nil]); first | done | rfl) ?_; (refine (after_c se (60) _ hs.1 hs.2 (by decide) (by decide)).mono ?_); rintro e_ w1 ⟨rfl, rfl⟩; refine ⟨_, rfl, ?_⟩; skip)
    | ((with_reducible refine gate_sr rfl ?_); refine wl_sr2 rfl rfl rfl rfl rfl I.out (by first | exact .head _ | exact .tail _ (.head _) | exact .tail _ (.tail _ (.head _)) | exact .tail _ (.tail _ (.tail _ (.head _)))) (by first | exact sr_st) (by first | exact .head | exact .tail .head | exact .tail (.tail .head) | exact .tail (.tail (.tail .head))) ?_; intro w1 hI; clear I; have I := Aside0.mk hI; clear hI)
    )
   have IS := Aside0.mk (I.out.sub (.cons _ (.cons_cons _ .slnil))).drew
   refine draw_ (Inv _ w [_] _) [9] (by kernel_rfl) rfl IS.out ?_
   have I2 := Aside0.mk I.out.drew
   clear I
   have I := I2
   clear I2
   refine ta1 (i := 0) rfl rfl (by kernel_rfl) rfl rfl IS.out (by first | exact .head _ | exact .tail _ (.head _) | exact .tail _ (.tail _ (.head _)) | exact .tail _ (.tail _ (.tail _ (.head _)))) (by exact ld_st) ?_ (ha := by (go_simp; rfl))
   refine ta1 (i := 1) rfl rfl (by kernel_rfl) rfl rfl IS.out (by first | exact .head _ | exact .tail _ (.head _) | exact .tail _ (.tail _ (.head _)) | exact .tail _ (.tail _ (.tail _ (.head _)))) (by exact ld_st) ?_ (ha := by (go_simp; rfl))
   refine pu1 (i := 3) rfl rfl (by kernel_rfl) ?_ (ha := by (go_simp; rfl))
   refine ta1 (i := 4) rfl rfl (by kernel_rfl) rfl rfl IS.out (by first | exact .head _ | exact .tail _ (.head _) | exact .tail _ (.tail _ (.head _)) | exact .tail _ (.tail _ (.tail _ (.head _)))) (by exact ld_st12) ?_ (ha := by (go_simp; rfl))
   refine pu1 (i := 5) rfl rfl (by kernel_rfl) ?_ (ha := by (go_simp; rfl))
   refine ca1 (i := 2) rfl rfl (by kernel_rfl) (by decide) Tryd.func28 (by kernel_rfl) rfl #[.agg (stC c h st xid sv v6 hi lo t1 t2 un se at_), .bool true] rfl (by (try simp only [List.map_toArray, List.map_cons, List.map_nil]); first | done | rfl) ?_
   refine (renewal_c c h st xid sv v6 hi lo t1 t2 un se at_ true _).mono ?_
   rintro e_ w1 ⟨rfl, hb⟩
   have I2 := Aside0.mk (I.out.call hb)
   clear I hb
   have I := I2
   clear I2
   clear IS
   have IS := Aside0.mk ((I.out.imp (fun _ _ => trivial)).sub (.cons _ (.cons_cons _ .slnil)))
   refine ⟨_, rfl, IS.out, ?_⟩
   refine ca1 (i := 6) rfl rfl (by kernel_rfl) (by decide) Tryd.func23 (by kernel_rfl) rfl #[.agg (stC c h st xid sv v6 hi lo t1 t2 un se at_), .agg (pkC 3 0 0 (⟨#[]⟩ : ByteArray) v6 hi lo false 0 0 false 0 0 false (.slice none 0 0)), .int .i64 (5), .int .i64 (at_), .int .i64 now] rfl (by (try simp only [List.map_toArray, List.map_cons, List.map_nil]); first | done | rfl) ?_
   refine (step_c ⟨c, h, st, xid, sv, ⟨v6, hi, lo⟩, t1, t2, un, se, at_⟩ 3 0 ⟨v6, hi, lo⟩ none 0 [] (fun _ => False) (5) (at_) now _ hx0 (foot_no _ none 0) (Nat.le_refl _) okO_nil).mono ?_
   rintro e_ w1 ⟨v, rfl, hf, hb⟩
   have I2 := Aside0.mk (I.out.addNew hb hf (fun k hk _ => hk.elim False.elim (fun h_ => I.out.new_out k h_)))
   clear hf
   clear I hb
   have I := I2
   clear I2
   clear IS
   have IS := Aside0.mk ((I.out.imp (fun _ _ => trivial)).sub (.cons _ (.cons_cons _ .slnil)))
   refine ⟨_, rfl, IS.out, ?_⟩
   refine pu1 (i := 7) rfl rfl (by kernel_rfl) ?_ (ha := by (go_simp; rfl))
   refine pu1 (i := 8) rfl rfl (by kernel_rfl) ?_ (ha := by (go_simp; rfl))
   refine sl1 (i := 9) rfl rfl (by kernel_rfl) (by decide) rfl rfl rfl I.out (by first | exact .head _ | exact .tail _ (.head _) | exact .tail _ (.tail _ (.head _)) | exact .tail _ (.tail _ (.tail _ (.head _)))) (by first | exact sr_st) (by first | exact .head | exact .tail .head | exact .tail (.tail .head) | exact .tail (.tail (.tail .head))) (fun w1 hI => ?_)
   clear I
   have I := Aside0.mk hI
   clear hI
   refine pu1 (i := 10) rfl rfl (by kernel_rfl) ?_ (ha := by (go_simp; rfl))
   refine do1 (by kernel_rfl) ?_
   clear IS
   try go_wp2
   refine bodyPost_ret (ret_ct rfl _ I.out _ rfl (by first | exact .head _ | exact .tail _ (.head _) | exact .tail _ (.tail _ (.head _)) | exact .tail _ (.tail _ (.tail _ (.head _)))) Tryd.underlying26 rfl (by kernel_rfl)) rfl ?_
   exact ⟨_, rfl, foot_new (I.out.foot.imp (fun W hW => hW.2)), I.out.below⟩
 have e2 : decide (t2 ≤ now) = false := decide_eq_false h22
 by_cases s3 : st = 3
 · subst s3
   by_cases h11 : t1 ≤ now
   · have e3 : decide (t1 ≤ now) = true := decide_eq_true h11
     by_cases hm : 60 < (t2 - se).tdiv 2
     · have m1 : decide (60 < (t2 - se).tdiv 2) = true := decide_eq_true hm
       have em : max 60 ((t2 - se).tdiv 2) = (t2 - se).tdiv 2 := by omega
       have hd := td2 (x := t2 - se) (by omega) (by omega)
       have eF : tickF ⟨c, h, 3, xid, sv, ⟨v6, hi, lo⟩, t1, t2, un, se, at_⟩ now = stepF ⟨c, h, 3, xid, sv, ⟨v6, hi, lo⟩, t1, t2, un, se, at_⟩ 3 sv ⟨v6, hi, lo⟩ [] 4 at_ now := by unfold tickF; exact (if_neg (show ¬ (3 : Int) = 0 by decide)).trans ((if_neg (fun hq => hq.elim (show ¬ (3 : Int) = 1 by decide) (show ¬ (3 : Int) = 2 by decide))).trans ((if_neg hn).trans ((if_neg (fun hq => h22 hq.2)).trans (if_pos ⟨rfl, h11⟩))))
       rw [eF]
       clear eF
       have I := Aside0.mk (Inv.start0 (w0 := w))
       go_enter Tryd.func9, Tryd.ntmps9
       go_wp2_with (first
        | ((with_reducible refine gate_box rfl ?_); refine wl_bx rfl rfl rfl I.out ?_; intro gb w1 hI; clear I; have I := Aside0.mk hI; clear hI)
        | ((with_reducible refine gate_alloc (ty := 26) rfl ?_); refine wl_box (t := 26) (cs := (stC (⟨#[]⟩ : ByteArray) (⟨#[]⟩ : ByteArray) 0 0 0 false 0 0 0 0 0 0 0)) rfl ?hr I.out ?_; (case hr => first | (go_simp; done) | (go_simp; rfl)); intro gb w1 hI; clear I; have I := Aside0.mk hI; clear hI)
        | ((with_reducible refine gate_ld rfl ?_); (try (refine gate_guard (by rfl) ?_; dsimp only)); refine wl_ld rfl rfl rfl I.out (by first | exact .head _ | exact .tail _ (.head _) | exact .tail _ (.tail _ (.head _)) | exact .tail _ (.tail _ (.tail _ (.head _)))) (by first | exact ld_st2 | exact ld_st9 | exact ld_st10 | exact ld_st11 | exact ld_st8 | exact ld_st) ?_)
        | ((with_reducible refine gate_callee (f := 26) rfl ?_); (try (refine gate_guard (by rfl) ?_; dsimp only)); refine goesL_ (some 42) rfl rfl Tryd.func26 (by kernel_rfl) rfl #[.int .i64 se, .int .i64 ((t2 - se).tdiv 2)] rfl (by (try simp only [List.map_toArray, List.map_cons, List.map_nil]); first | done | rfl) ?_; (refine (after_c se ((t2 - se).tdiv 2) _ hs.1 hs.2 hd.1 hd.2).mono ?_); rintro e_ w1 ⟨rfl, rfl⟩; refine ⟨_, rfl, ?_⟩; skip)
        | ((with_reducible refine gate_sr rfl ?_); refine wl_sr2 rfl rfl rfl rfl rfl I.out (by first | exact .head _ | exact .tail _ (.head _) | exact .tail _ (.tail _ (.head _)) | exact .tail _ (.tail _ (.tail _ (.head _)))) (by first | exact sr_st) (by first | exact .head | exact .tail .head | exact .tail (.tail .head) | exact .tail (.tail (.tail .head))) ?_; intro w1 hI; clear I; have I := Aside0.mk hI; clear hI)
        )
       have IS := Aside0.mk (I.out.sub (.cons _ (.cons_cons _ .slnil))).drew
       refine draw_ (Inv _ w [_] _) [9] (by kernel_rfl) rfl IS.out ?_
       have I2 := Aside0.mk I.out.drew
       clear I
       have I := I2
       clear I2
       refine ta1 (i := 0) rfl rfl (by kernel_rfl) rfl rfl IS.out (by first | exact .head _ | exact .tail _ (.head _) | exact .tail _ (.tail _ (.head _)) | exact .tail _ (.tail _ (.tail _ (.head _)))) (by exact ld_st) ?_ (ha := by (go_simp; rfl))
       refine ta1 (i := 1) rfl rfl (by kernel_rfl) rfl rfl IS.out (by first | exact .head _ | exact .tail _ (.head _) | exact .tail _ (.tail _ (.head _)) | exact .tail _ (.tail _ (.tail _ (.head _)))) (by exact ld_st) ?_ (ha := by (go_simp; rfl))
       refine pu1 (i := 3) rfl rfl (by kernel_rfl) ?_ (ha := by (go_simp; rfl))
       refine ta1 (i := 4) rfl rfl (by kernel_rfl) rfl rfl IS.out (by first | exact .head _ | exact .tail _ (.head _) | exact .tail _ (.tail _ (.head _)) | exact .tail _ (.tail _ (.tail _ (.head _)))) (by exact ld_st12) ?_ (ha := by (go_simp; rfl))
       refine pu1 (i := 5) rfl rfl (by kernel_rfl) ?_ (ha := by (go_simp; rfl))
       refine ca1 (i := 2) rfl rfl (by kernel_rfl) (by decide) Tryd.func28 (by kernel_rfl) rfl #[.agg (stC c h 3 xid sv v6 hi lo t1 t2 un se at_), .bool false] rfl (by (try simp only [List.map_toArray, List.map_cons, List.map_nil]); first | done | rfl) ?_
       refine (renewal_c c h 3 xid sv v6 hi lo t1 t2 un se at_ false _).mono ?_
       rintro e_ w1 ⟨rfl, hb⟩
       have I2 := Aside0.mk (I.out.call hb)
       clear I hb
       have I := I2
       clear I2
       clear IS
       have IS := Aside0.mk ((I.out.imp (fun _ _ => trivial)).sub (.cons _ (.cons_cons _ .slnil)))
       refine ⟨_, rfl, IS.out, ?_⟩
       refine ca1 (i := 6) rfl rfl (by kernel_rfl) (by decide) Tryd.func23 (by kernel_rfl) rfl #[.agg (stC c h 3 xid sv v6 hi lo t1 t2 un se at_), .agg (pkC 3 0 sv (⟨#[]⟩ : ByteArray) v6 hi lo false 0 0 false 0 0 false (.slice none 0 0)), .int .i64 (4), .int .i64 (at_), .int .i64 now] rfl (by (try simp only [List.map_toArray, List.map_cons, List.map_nil]); first | done | rfl) ?_
       refine (step_c ⟨c, h, 3, xid, sv, ⟨v6, hi, lo⟩, t1, t2, un, se, at_⟩ 3 sv ⟨v6, hi, lo⟩ none 0 [] (fun _ => False) (4) (at_) now _ hx0 (foot_no _ none 0) (Nat.le_refl _) okO_nil).mono ?_
       rintro e_ w1 ⟨v, rfl, hf, hb⟩
       have I2 := Aside0.mk (I.out.addNew hb hf (fun k hk _ => hk.elim False.elim (fun h_ => I.out.new_out k h_)))
       clear hf
       clear I hb
       have I := I2
       clear I2
       clear IS
       have IS := Aside0.mk ((I.out.imp (fun _ _ => trivial)).sub (.cons _ (.cons_cons _ .slnil)))
       refine ⟨_, rfl, IS.out, ?_⟩
       refine pu1 (i := 7) rfl rfl (by kernel_rfl) ?_ (ha := by (go_simp; rfl))
       refine pu1 (i := 8) rfl rfl (by kernel_rfl) ?_ (ha := by (go_simp; rfl))
       refine sl1 (i := 9) rfl rfl (by kernel_rfl) (by decide) rfl rfl rfl I.out (by first | exact .head _ | exact .tail _ (.head _) | exact .tail _ (.tail _ (.head _)) | exact .tail _ (.tail _ (.tail _ (.head _)))) (by first | exact sr_st) (by first | exact .head | exact .tail .head | exact .tail (.tail .head) | exact .tail (.tail (.tail .head))) (fun w1 hI => ?_)
       clear I
       have I := Aside0.mk hI
       clear hI
       refine pu1 (i := 10) rfl rfl (by kernel_rfl) ?_ (ha := by (go_simp; rfl))
       refine do1 (by kernel_rfl) ?_
       clear IS
       try go_wp2
       refine bodyPost_ret (ret_ct rfl _ I.out _ rfl (by first | exact .head _ | exact .tail _ (.head _) | exact .tail _ (.tail _ (.head _)) | exact .tail _ (.tail _ (.tail _ (.head _)))) Tryd.underlying26 rfl (by kernel_rfl)) rfl ?_
       exact ⟨_, rfl, foot_new (I.out.foot.imp (fun W hW => hW.2)), I.out.below⟩
     have m1 : decide (60 < (t2 - se).tdiv 2) = false := decide_eq_false hm
     replace hm : (t2 - se).tdiv 2 ≤ 60 := by omega
     have em : max 60 ((t2 - se).tdiv 2) = 60 := by omega
     have eF : tickF ⟨c, h, 3, xid, sv, ⟨v6, hi, lo⟩, t1, t2, un, se, at_⟩ now = stepF ⟨c, h, 3, xid, sv, ⟨v6, hi, lo⟩, t1, t2, un, se, at_⟩ 3 sv ⟨v6, hi, lo⟩ [] 4 at_ now := by unfold tickF; exact (if_neg (show ¬ (3 : Int) = 0 by decide)).trans ((if_neg (fun hq => hq.elim (show ¬ (3 : Int) = 1 by decide) (show ¬ (3 : Int) = 2 by decide))).trans ((if_neg hn).trans ((if_neg (fun hq => h22 hq.2)).trans (if_pos ⟨rfl, h11⟩))))
     rw [eF]
     clear eF
     have I := Aside0.mk (Inv.start0 (w0 := w))
     go_enter Tryd.func9, Tryd.ntmps9
     go_wp2_with (first
      | ((with_reducible refine gate_box rfl ?_); refine wl_bx rfl rfl rfl I.out ?_; intro gb w1 hI; clear I; have I := Aside0.mk hI; clear hI)
      | ((with_reducible refine gate_alloc (ty := 26) rfl ?_); refine wl_box (t := 26) (cs := (stC (⟨#[]⟩ : ByteArray) (⟨#[]⟩ : ByteArray) 0 0 0 false 0 0 0 0 0 0 0)) rfl ?hr I.out ?_; (case hr => first | (go_simp; done) | (go_simp; rfl)); intro gb w1 hI; clear I; have I := Aside0.mk hI; clear hI)
      | ((with_reducible refine gate_ld rfl ?_); (try (refine gate_guard (by rfl) ?_; dsimp only)); refine wl_ld rfl rfl rfl I.out (by first | exact .head _ | exact .tail _ (.head _) | exact .tail _ (.tail _ (.head _)) | exact .tail _ (.tail _ (.tail _ (.head _)))) (by first | exact ld_st2 | exact ld_st9 | exact ld_st10 | exact ld_st11 | exact ld_st8 | exact ld_st) ?_)
      | ((with_reducible refine gate_callee (f := 26) rfl ?_); (try (refine gate_guard (by rfl) ?_; dsimp only)); refine goesL_ (some 42) rfl rfl Tryd.func26 (by kernel_rfl) rfl #[.int .i64 se, .int .i64 (60)] rfl (by (try simp only [List.map_toArray, List.map_cons, List.map_nil]); first | done | rfl) ?_; (refine (after_c se (60) _ hs.1 hs.2 (by decide) (by decide)).mono ?_); rintro e_ w1 ⟨rfl, rfl⟩; refine ⟨_, rfl, ?_⟩; skip)
      | ((with_reducible refine gate_sr rfl ?_); refine wl_sr2 rfl rfl rfl rfl rfl I.out (by first | exact .head _ | exact .tail _ (.head _) | exact .tail _ (.tail _ (.head _)) | exact .tail _ (.tail _ (.tail _ (.head _)))) (by first | exact sr_st) (by first | exact .head | exact .tail .head | exact .tail (.tail .head) | exact .tail (.tail (.tail .head))) ?_; intro w1 hI; clear I; have I := Aside0.mk hI; clear hI)
      )
     have IS := Aside0.mk (I.out.sub (.cons _ (.cons_cons _ .slnil))).drew
     refine draw_ (Inv _ w [_] _) [9] (by kernel_rfl) rfl IS.out ?_
     have I2 := Aside0.mk I.out.drew
     clear I
     have I := I2
     clear I2
     refine ta1 (i := 0) rfl rfl (by kernel_rfl) rfl rfl IS.out (by first | exact .head _ | exact .tail _ (.head _) | exact .tail _ (.tail _ (.head _)) | exact .tail _ (.tail _ (.tail _ (.head _)))) (by exact ld_st) ?_ (ha := by (go_simp; rfl))
     refine ta1 (i := 1) rfl rfl (by kernel_rfl) rfl rfl IS.out (by first | exact .head _ | exact .tail _ (.head _) | exact .tail _ (.tail _ (.head _)) | exact .tail _ (.tail _ (.tail _ (.head _)))) (by exact ld_st) ?_ (ha := by (go_simp; rfl))
     refine pu1 (i := 3) rfl rfl (by kernel_rfl) ?_ (ha := by (go_simp; rfl))
     refine ta1 (i := 4) rfl rfl (by kernel_rfl) rfl rfl IS.out (by first | exact .head _ | exact .tail _ (.head _) | exact .tail _ (.tail _ (.head _)) | exact .tail _ (.tail _ (.tail _ (.head _)))) (by exact ld_st12) ?_ (ha := by (go_simp; rfl))
     refine pu1 (i := 5) rfl rfl (by kernel_rfl) ?_ (ha := by (go_simp; rfl))
     refine ca1 (i := 2) rfl rfl (by kernel_rfl) (by decide) Tryd.func28 (by kernel_rfl) rfl #[.agg (stC c h 3 xid sv v6 hi lo t1 t2 un se at_), .bool false] rfl (by (try simp only [List.map_toArray, List.map_cons, List.map_nil]); first | done | rfl) ?_
     refine (renewal_c c h 3 xid sv v6 hi lo t1 t2 un se at_ false _).mono ?_
     rintro e_ w1 ⟨rfl, hb⟩
     have I2 := Aside0.mk (I.out.call hb)
     clear I hb
     have I := I2
     clear I2
     clear IS
     have IS := Aside0.mk ((I.out.imp (fun _ _ => trivial)).sub (.cons _ (.cons_cons _ .slnil)))
     refine ⟨_, rfl, IS.out, ?_⟩
     refine ca1 (i := 6) rfl rfl (by kernel_rfl) (by decide) Tryd.func23 (by kernel_rfl) rfl #[.agg (stC c h 3 xid sv v6 hi lo t1 t2 un se at_), .agg (pkC 3 0 sv (⟨#[]⟩ : ByteArray) v6 hi lo false 0 0 false 0 0 false (.slice none 0 0)), .int .i64 (4), .int .i64 (at_), .int .i64 now] rfl (by (try simp only [List.map_toArray, List.map_cons, List.map_nil]); first | done | rfl) ?_
     refine (step_c ⟨c, h, 3, xid, sv, ⟨v6, hi, lo⟩, t1, t2, un, se, at_⟩ 3 sv ⟨v6, hi, lo⟩ none 0 [] (fun _ => False) (4) (at_) now _ hx0 (foot_no _ none 0) (Nat.le_refl _) okO_nil).mono ?_
     rintro e_ w1 ⟨v, rfl, hf, hb⟩
     have I2 := Aside0.mk (I.out.addNew hb hf (fun k hk _ => hk.elim False.elim (fun h_ => I.out.new_out k h_)))
     clear hf
     clear I hb
     have I := I2
     clear I2
     clear IS
     have IS := Aside0.mk ((I.out.imp (fun _ _ => trivial)).sub (.cons _ (.cons_cons _ .slnil)))
     refine ⟨_, rfl, IS.out, ?_⟩
     refine pu1 (i := 7) rfl rfl (by kernel_rfl) ?_ (ha := by (go_simp; rfl))
     refine pu1 (i := 8) rfl rfl (by kernel_rfl) ?_ (ha := by (go_simp; rfl))
     refine sl1 (i := 9) rfl rfl (by kernel_rfl) (by decide) rfl rfl rfl I.out (by first | exact .head _ | exact .tail _ (.head _) | exact .tail _ (.tail _ (.head _)) | exact .tail _ (.tail _ (.tail _ (.head _)))) (by first | exact sr_st) (by first | exact .head | exact .tail .head | exact .tail (.tail .head) | exact .tail (.tail (.tail .head))) (fun w1 hI => ?_)
     clear I
     have I := Aside0.mk hI
     clear hI
     refine pu1 (i := 10) rfl rfl (by kernel_rfl) ?_ (ha := by (go_simp; rfl))
     refine do1 (by kernel_rfl) ?_
     clear IS
     try go_wp2
     refine bodyPost_ret (ret_ct rfl _ I.out _ rfl (by first | exact .head _ | exact .tail _ (.head _) | exact .tail _ (.tail _ (.head _)) | exact .tail _ (.tail _ (.tail _ (.head _)))) Tryd.underlying26 rfl (by kernel_rfl)) rfl ?_
     exact ⟨_, rfl, foot_new (I.out.foot.imp (fun W hW => hW.2)), I.out.below⟩
   have e3 : decide (t1 ≤ now) = false := decide_eq_false h11
   by_cases hm : 60 < (t2 - se).tdiv 2
   · have m1 : decide (60 < (t2 - se).tdiv 2) = true := decide_eq_true hm
     have em : max 60 ((t2 - se).tdiv 2) = (t2 - se).tdiv 2 := by omega
     have hd := td2 (x := t2 - se) (by omega) (by omega)
     have eF : tickF ⟨c, h, 3, xid, sv, ⟨v6, hi, lo⟩, t1, t2, un, se, at_⟩ now = (⟨c, h, 3, xid, sv, ⟨v6, hi, lo⟩, t1, t2, un, se, at_⟩, []) := by unfold tickF; exact (if_neg (show ¬ (3 : Int) = 0 by decide)).trans ((if_neg (fun hq => hq.elim (show ¬ (3 : Int) = 1 by decide) (show ¬ (3 : Int) = 2 by decide))).trans ((if_neg hn).trans ((if_neg (fun hq => h22 hq.2)).trans ((if_neg (fun hq => h11 hq.2)).trans ((if_neg (fun hq => absurd hq.1 (show ¬ (3 : Int) = 4 by decide))).trans (if_neg (fun hq => absurd hq.1 (show ¬ (3 : Int) = 5 by decide))))))))
     rw [eF]
     clear eF
     have I := Aside0.mk (Inv.start0 (w0 := w))
     go_enter Tryd.func9, Tryd.ntmps9
     go_wp2_with (first
      | ((with_reducible refine gate_box rfl ?_); refine wl_bx rfl rfl rfl I.out ?_; intro gb w1 hI; clear I; have I := Aside0.mk hI; clear hI)
      | ((with_reducible refine gate_alloc (ty := 26) rfl ?_); refine wl_box (t := 26) (cs := (stC (⟨#[]⟩ : ByteArray) (⟨#[]⟩ : ByteArray) 0 0 0 false 0 0 0 0 0 0 0)) rfl ?hr I.out ?_; (case hr => first | (go_simp; done) | (go_simp; rfl)); intro gb w1 hI; clear I; have I := Aside0.mk hI; clear hI)
      | ((with_reducible refine gate_ld rfl ?_); (try (refine gate_guard (by rfl) ?_; dsimp only)); refine wl_ld rfl rfl rfl I.out (by first | exact .head _ | exact .tail _ (.head _) | exact .tail _ (.tail _ (.head _)) | exact .tail _ (.tail _ (.tail _ (.head _)))) (by first | exact ld_st2 | exact ld_st9 | exact ld_st10 | exact ld_st11 | exact ld_st8 | exact ld_st) ?_)
      | ((with_reducible refine gate_callee (f := 26) rfl ?_); (try (refine gate_guard (by rfl) ?_; dsimp only)); refine goesL_ (some 42) rfl rfl Tryd.func26 (by kernel_rfl) rfl #[.int .i64 se, .int .i64 ((t2 - se).tdiv 2)] rfl (by (try simp only [List.map_toArray, List.map_cons, List.map_nil]); first | done | rfl) ?_; (refine (after_c se ((t2 - se).tdiv 2) _ hs.1 hs.2 hd.1 hd.2).mono ?_); rintro e_ w1 ⟨rfl, rfl⟩; refine ⟨_, rfl, ?_⟩; skip)
      | ((with_reducible refine gate_sr rfl ?_); refine wl_sr2 rfl rfl rfl rfl rfl I.out (by first | exact .head _ | exact .tail _ (.head _) | exact .tail _ (.tail _ (.head _)) | exact .tail _ (.tail _ (.tail _ (.head _)))) (by first | exact sr_st) (by first | exact .head | exact .tail .head | exact .tail (.tail .head) | exact .tail (.tail (.tail .head))) ?_; intro w1 hI; clear I; have I := Aside0.mk hI; clear hI)
      )
     refine bodyPost_ret (ret_ct rfl _ I.out _ rfl (by first | exact .head _ | exact .tail _ (.head _) | exact .tail _ (.tail _ (.head _)) | exact .tail _ (.tail _ (.tail _ (.head _)))) Tryd.underlying26 rfl (by kernel_rfl)) rfl ?_
     exact ⟨_, rfl, Pks_nil _ _, I.out.below⟩
   have m1 : decide (60 < (t2 - se).tdiv 2) = false := decide_eq_false hm
   replace hm : (t2 - se).tdiv 2 ≤ 60 := by omega
   have em : max 60 ((t2 - se).tdiv 2) = 60 := by omega
   have eF : tickF ⟨c, h, 3, xid, sv, ⟨v6, hi, lo⟩, t1, t2, un, se, at_⟩ now = (⟨c, h, 3, xid, sv, ⟨v6, hi, lo⟩, t1, t2, un, se, at_⟩, []) := by unfold tickF; exact (if_neg (show ¬ (3 : Int) = 0 by decide)).trans ((if_neg (fun hq => hq.elim (show ¬ (3 : Int) = 1 by decide) (show ¬ (3 : Int) = 2 by decide))).trans ((if_neg hn).trans ((if_neg (fun hq => h22 hq.2)).trans ((if_neg (fun hq => h11 hq.2)).trans ((if_neg (fun hq => absurd hq.1 (show ¬ (3 : Int) = 4 by decide))).trans (if_neg (fun hq => absurd hq.1 (show ¬ (3 : Int) = 5 by decide))))))))
   rw [eF]
   clear eF
   have I := Aside0.mk (Inv.start0 (w0 := w))
   go_enter Tryd.func9, Tryd.ntmps9
   go_wp2_with (first
    | ((with_reducible refine gate_box rfl ?_); refine wl_bx rfl rfl rfl I.out ?_; intro gb w1 hI; clear I; have I := Aside0.mk hI; clear hI)
    | ((with_reducible refine gate_alloc (ty := 26) rfl ?_); refine wl_box (t := 26) (cs := (stC (⟨#[]⟩ : ByteArray) (⟨#[]⟩ : ByteArray) 0 0 0 false 0 0 0 0 0 0 0)) rfl ?hr I.out ?_; (case hr => first | (go_simp; done) | (go_simp; rfl)); intro gb w1 hI; clear I; have I := Aside0.mk hI; clear hI)
    | ((with_reducible refine gate_ld rfl ?_); (try (refine gate_guard (by rfl) ?_; dsimp only)); refine wl_ld rfl rfl rfl I.out (by first | exact .head _ | exact .tail _ (.head _) | exact .tail _ (.tail _ (.head _)) | exact .tail _ (.tail _ (.tail _ (.head _)))) (by first | exact ld_st2 | exact ld_st9 | exact ld_st10 | exact ld_st11 | exact ld_st8 | exact ld_st) ?_)
    | ((with_reducible refine gate_callee (f := 26) rfl ?_); (try (refine gate_guard (by rfl) ?_; dsimp only)); refine goesL_ (some 42) rfl rfl Tryd.func26 (by kernel_rfl) rfl #[.int .i64 se, .int .i64 (60)] rfl (by (try simp only [List.map_toArray, List.map_cons, List.map_nil]); first | done | rfl) ?_; (refine (after_c se (60) _ hs.1 hs.2 (by decide) (by decide)).mono ?_); rintro e_ w1 ⟨rfl, rfl⟩; refine ⟨_, rfl, ?_⟩; skip)
    | ((with_reducible refine gate_sr rfl ?_); refine wl_sr2 rfl rfl rfl rfl rfl I.out (by first | exact .head _ | exact .tail _ (.head _) | exact .tail _ (.tail _ (.head _)) | exact .tail _ (.tail _ (.tail _ (.head _)))) (by first | exact sr_st) (by first | exact .head | exact .tail .head | exact .tail (.tail .head) | exact .tail (.tail (.tail .head))) ?_; intro w1 hI; clear I; have I := Aside0.mk hI; clear hI)
    )
   refine bodyPost_ret (ret_ct rfl _ I.out _ rfl (by first | exact .head _ | exact .tail _ (.head _) | exact .tail _ (.tail _ (.head _)) | exact .tail _ (.tail _ (.tail _ (.head _)))) Tryd.underlying26 rfl (by kernel_rfl)) rfl ?_
   exact ⟨_, rfl, Pks_nil _ _, I.out.below⟩
 by_cases s4 : st = 4
 · subst s4
   by_cases ha : (min (se + max 60 ((t2 - se).tdiv 2)) 4294967295 ≤ now)
   ·
     by_cases hm : 60 < (t2 - se).tdiv 2
     · have m1 : decide (60 < (t2 - se).tdiv 2) = true := decide_eq_true hm
       have em : max 60 ((t2 - se).tdiv 2) = (t2 - se).tdiv 2 := by omega
       have hd := td2 (x := t2 - se) (by omega) (by omega)
       have eF : tickF ⟨c, h, 4, xid, sv, ⟨v6, hi, lo⟩, t1, t2, un, se, at_⟩ now = stepF ⟨c, h, 4, xid, sv, ⟨v6, hi, lo⟩, t1, t2, un, se, at_⟩ 3 sv ⟨v6, hi, lo⟩ [] 4 at_ now := by unfold tickF; exact (if_neg (show ¬ (4 : Int) = 0 by decide)).trans ((if_neg (fun hq => hq.elim (show ¬ (4 : Int) = 1 by decide) (show ¬ (4 : Int) = 2 by decide))).trans ((if_neg hn).trans ((if_neg (fun hq => h22 hq.2)).trans ((if_neg (fun hq => absurd hq.1 (show ¬ (4 : Int) = 3 by decide))).trans (if_pos ⟨rfl, ha⟩)))))
       rw [eF]
       clear eF
       have ag : decide (min (se + (t2 - se).tdiv 2) 4294967295 ≤ now) = true := by rw [em] at ha; exact decide_eq_true ha
       clear ha
       have I := Aside0.mk (Inv.start0 (w0 := w))
       go_enter Tryd.func9, Tryd.ntmps9
       go_wp2_with (first
        | ((with_reducible refine gate_box rfl ?_); refine wl_bx rfl rfl rfl I.out ?_; intro gb w1 hI; clear I; have I := Aside0.mk hI; clear hI)
        | ((with_reducible refine gate_alloc (ty := 26) rfl ?_); refine wl_box (t := 26) (cs := (stC (⟨#[]⟩ : ByteArray) (⟨#[]⟩ : ByteArray) 0 0 0 false 0 0 0 0 0 0 0)) rfl ?hr I.out ?_; (case hr => first | (go_simp; done) | (go_simp; rfl)); intro gb w1 hI; clear I; have I := Aside0.mk hI; clear hI)
        | ((with_reducible refine gate_ld rfl ?_); (try (refine gate_guard (by rfl) ?_; dsimp only)); refine wl_ld rfl rfl rfl I.out (by first | exact .head _ | exact .tail _ (.head _) | exact .tail _ (.tail _ (.head _)) | exact .tail _ (.tail _ (.tail _ (.head _)))) (by first | exact ld_st2 | exact ld_st9 | exact ld_st10 | exact ld_st11 | exact ld_st8 | exact ld_st) ?_)
        | ((with_reducible refine gate_callee (f := 26) rfl ?_); (try (refine gate_guard (by rfl) ?_; dsimp only)); refine goesL_ (some 42) rfl rfl Tryd.func26 (by kernel_rfl) rfl #[.int .i64 se, .int .i64 ((t2 - se).tdiv 2)] rfl (by (try simp only [List.map_toArray, List.map_cons, List.map_nil]); first | done | rfl) ?_; (refine (after_c se ((t2 - se).tdiv 2) _ hs.1 hs.2 hd.1 hd.2).mono ?_); rintro e_ w1 ⟨rfl, rfl⟩; refine ⟨_, rfl, ?_⟩; skip)
        | ((with_reducible refine gate_sr rfl ?_); refine wl_sr2 rfl rfl rfl rfl rfl I.out (by first | exact .head _ | exact .tail _ (.head _) | exact .tail _ (.tail _ (.head _)) | exact .tail _ (.tail _ (.tail _ (.head _)))) (by first | exact sr_st) (by first | exact .head | exact .tail .head | exact .tail (.tail .head) | exact .tail (.tail (.tail .head))) ?_; intro w1 hI; clear I; have I := Aside0.mk hI; clear hI)
        )
       have IS := Aside0.mk (I.out.sub (.cons _ (.cons_cons _ .slnil))).drew
       refine draw_ (Inv _ w [_] _) [9] (by kernel_rfl) rfl IS.out ?_
       have I2 := Aside0.mk I.out.drew
       clear I
       have I := I2
       clear I2
       refine ta1 (i := 0) rfl rfl (by kernel_rfl) rfl rfl IS.out (by first | exact .head _ | exact .tail _ (.head _) | exact .tail _ (.tail _ (.head _)) | exact .tail _ (.tail _ (.tail _ (.head _)))) (by exact ld_st) ?_ (ha := by (go_simp; rfl))
       refine ta1 (i := 1) rfl rfl (by kernel_rfl) rfl rfl IS.out (by first | exact .head _ | exact .tail _ (.head _) | exact .tail _ (.tail _ (.head _)) | exact .tail _ (.tail _ (.tail _ (.head _)))) (by exact ld_st) ?_ (ha := by (go_simp; rfl))
       refine pu1 (i := 3) rfl rfl (by kernel_rfl) ?_ (ha := by (go_simp; rfl))
       refine ta1 (i := 4) rfl rfl (by kernel_rfl) rfl rfl IS.out (by first | exact .head _ | exact .tail _ (.head _) | exact .tail _ (.tail _ (.head _)) | exact .tail _ (.tail _ (.tail _ (.head _)))) (by exact ld_st12) ?_ (ha := by (go_simp; rfl))
       refine pu1 (i := 5) rfl rfl (by kernel_rfl) ?_ (ha := by (go_simp; rfl))
       refine ca1 (i := 2) rfl rfl (by kernel_rfl) (by decide) Tryd.func28 (by kernel_rfl) rfl #[.agg (stC c h 4 xid sv v6 hi lo t1 t2 un se at_), .bool false] rfl (by (try simp only [List.map_toArray, List.map_cons, List.map_nil]); first | done | rfl) ?_
       refine (renewal_c c h 4 xid sv v6 hi lo t1 t2 un se at_ false _).mono ?_
       rintro e_ w1 ⟨rfl, hb⟩
       have I2 := Aside0.mk (I.out.call hb)
       clear I hb
       have I := I2
       clear I2
       clear IS
       have IS := Aside0.mk ((I.out.imp (fun _ _ => trivial)).sub (.cons _ (.cons_cons _ .slnil)))
       refine ⟨_, rfl, IS.out, ?_⟩
       refine ca1 (i := 6) rfl rfl (by kernel_rfl) (by decide) Tryd.func23 (by kernel_rfl) rfl #[.agg (stC c h 4 xid sv v6 hi lo t1 t2 un se at_), .agg (pkC 3 0 sv (⟨#[]⟩ : ByteArray) v6 hi lo false 0 0 false 0 0 false (.slice none 0 0)), .int .i64 (4), .int .i64 (at_), .int .i64 now] rfl (by (try simp only [List.map_toArray, List.map_cons, List.map_nil]); first | done | rfl) ?_
       refine (step_c ⟨c, h, 4, xid, sv, ⟨v6, hi, lo⟩, t1, t2, un, se, at_⟩ 3 sv ⟨v6, hi, lo⟩ none 0 [] (fun _ => False) (4) (at_) now _ hx0 (foot_no _ none 0) (Nat.le_refl _) okO_nil).mono ?_
       rintro e_ w1 ⟨v, rfl, hf, hb⟩
       have I2 := Aside0.mk (I.out.addNew hb hf (fun k hk _ => hk.elim False.elim (fun h_ => I.out.new_out k h_)))
       clear hf
       clear I hb
       have I := I2
       clear I2
       clear IS
       have IS := Aside0.mk ((I.out.imp (fun _ _ => trivial)).sub (.cons _ (.cons_cons _ .slnil)))
       refine ⟨_, rfl, IS.out, ?_⟩
       refine pu1 (i := 7) rfl rfl (by kernel_rfl) ?_ (ha := by (go_simp; rfl))
       refine pu1 (i := 8) rfl rfl (by kernel_rfl) ?_ (ha := by (go_simp; rfl))
       refine sl1 (i := 9) rfl rfl (by kernel_rfl) (by decide) rfl rfl rfl I.out (by first | exact .head _ | exact .tail _ (.head _) | exact .tail _ (.tail _ (.head _)) | exact .tail _ (.tail _ (.tail _ (.head _)))) (by first | exact sr_st) (by first | exact .head | exact .tail .head | exact .tail (.tail .head) | exact .tail (.tail (.tail .head))) (fun w1 hI => ?_)
       clear I
       have I := Aside0.mk hI
       clear hI
       refine pu1 (i := 10) rfl rfl (by kernel_rfl) ?_ (ha := by (go_simp; rfl))
       refine do1 (by kernel_rfl) ?_
       clear IS
       try go_wp2
       refine bodyPost_ret (ret_ct rfl _ I.out _ rfl (by first | exact .head _ | exact .tail _ (.head _) | exact .tail _ (.tail _ (.head _)) | exact .tail _ (.tail _ (.tail _ (.head _)))) Tryd.underlying26 rfl (by kernel_rfl)) rfl ?_
       exact ⟨_, rfl, foot_new (I.out.foot.imp (fun W hW => hW.2)), I.out.below⟩
     have m1 : decide (60 < (t2 - se).tdiv 2) = false := decide_eq_false hm
     replace hm : (t2 - se).tdiv 2 ≤ 60 := by omega
     have em : max 60 ((t2 - se).tdiv 2) = 60 := by omega
     have eF : tickF ⟨c, h, 4, xid, sv, ⟨v6, hi, lo⟩, t1, t2, un, se, at_⟩ now = stepF ⟨c, h, 4, xid, sv, ⟨v6, hi, lo⟩, t1, t2, un, se, at_⟩ 3 sv ⟨v6, hi, lo⟩ [] 4 at_ now := by unfold tickF; exact (if_neg (show ¬ (4 : Int) = 0 by decide)).trans ((if_neg (fun hq => hq.elim (show ¬ (4 : Int) = 1 by decide) (show ¬ (4 : Int) = 2 by decide))).trans ((if_neg hn).trans ((if_neg (fun hq => h22 hq.2)).trans ((if_neg (fun hq => absurd hq.1 (show ¬ (4 : Int) = 3 by decide))).trans (if_pos ⟨rfl, ha⟩)))))
     rw [eF]
     clear eF
     have ag : decide (min (se + 60) 4294967295 ≤ now) = true := by rw [em] at ha; exact decide_eq_true ha
     clear ha
     have I := Aside0.mk (Inv.start0 (w0 := w))
     go_enter Tryd.func9, Tryd.ntmps9
     go_wp2_with (first
      | ((with_reducible refine gate_box rfl ?_); refine wl_bx rfl rfl rfl I.out ?_; intro gb w1 hI; clear I; have I := Aside0.mk hI; clear hI)
      | ((with_reducible refine gate_alloc (ty := 26) rfl ?_); refine wl_box (t := 26) (cs := (stC (⟨#[]⟩ : ByteArray) (⟨#[]⟩ : ByteArray) 0 0 0 false 0 0 0 0 0 0 0)) rfl ?hr I.out ?_; (case hr => first | (go_simp; done) | (go_simp; rfl)); intro gb w1 hI; clear I; have I := Aside0.mk hI; clear hI)
      | ((with_reducible refine gate_ld rfl ?_); (try (refine gate_guard (by rfl) ?_; dsimp only)); refine wl_ld rfl rfl rfl I.out (by first | exact .head _ | exact .tail _ (.head _) | exact .tail _ (.tail _ (.head _)) | exact .tail _ (.tail _ (.tail _ (.head _)))) (by first | exact ld_st2 | exact ld_st9 | exact ld_st10 | exact ld_st11 | exact ld_st8 | exact ld_st) ?_)
      | ((with_reducible refine gate_callee (f := 26) rfl ?_); (try (refine gate_guard (by rfl) ?_; dsimp only)); refine goesL_ (some 42) rfl rfl Tryd.func26 (by kernel_rfl) rfl #[.int .i64 se, .int .i64 (60)] rfl (by (try simp only [List.map_toArray, List.map_cons, List.map_nil]); first | done | rfl) ?_; (refine (after_c se (60) _ hs.1 hs.2 (by decide) (by decide)).mono ?_); rintro e_ w1 ⟨rfl, rfl⟩; refine ⟨_, rfl, ?_⟩; skip)
      | ((with_reducible refine gate_sr rfl ?_); refine wl_sr2 rfl rfl rfl rfl rfl I.out (by first | exact .head _ | exact .tail _ (.head _) | exact .tail _ (.tail _ (.head _)) | exact .tail _ (.tail _ (.tail _ (.head _)))) (by first | exact sr_st) (by first | exact .head | exact .tail .head | exact .tail (.tail .head) | exact .tail (.tail (.tail .head))) ?_; intro w1 hI; clear I; have I := Aside0.mk hI; clear hI)
      )
     have IS := Aside0.mk (I.out.sub (.cons _ (.cons_cons _ .slnil))).drew
     refine draw_ (Inv _ w [_] _) [9] (by kernel_rfl) rfl IS.out ?_
     have I2 := Aside0.mk I.out.drew
     clear I
     have I := I2
     clear I2
     refine ta1 (i := 0) rfl rfl (by kernel_rfl) rfl rfl IS.out (by first | exact .head _ | exact .tail _ (.head _) | exact .tail _ (.tail _ (.head _)) | exact .tail _ (.tail _ (.tail _ (.head _)))) (by exact ld_st) ?_ (ha := by (go_simp; rfl))
     refine ta1 (i := 1) rfl rfl (by kernel_rfl) rfl rfl IS.out (by first | exact .head _ | exact .tail _ (.head _) | exact .tail _ (.tail _ (.head _)) | exact .tail _ (.tail _ (.tail _ (.head _)))) (by exact ld_st) ?_ (ha := by (go_simp; rfl))
     refine pu1 (i := 3) rfl rfl (by kernel_rfl) ?_ (ha := by (go_simp; rfl))
     refine ta1 (i := 4) rfl rfl (by kernel_rfl) rfl rfl IS.out (by first | exact .head _ | exact .tail _ (.head _) | exact .tail _ (.tail _ (.head _)) | exact .tail _ (.tail _ (.tail _ (.head _)))) (by exact ld_st12) ?_ (ha := by (go_simp; rfl))
     refine pu1 (i := 5) rfl rfl (by kernel_rfl) ?_ (ha := by (go_simp; rfl))
     refine ca1 (i := 2) rfl rfl (by kernel_rfl) (by decide) Tryd.func28 (by kernel_rfl) rfl #[.agg (stC c h 4 xid sv v6 hi lo t1 t2 un se at_), .bool false] rfl (by (try simp only [List.map_toArray, List.map_cons, List.map_nil]); first | done | rfl) ?_
     refine (renewal_c c h 4 xid sv v6 hi lo t1 t2 un se at_ false _).mono ?_
     rintro e_ w1 ⟨rfl, hb⟩
     have I2 := Aside0.mk (I.out.call hb)
     clear I hb
     have I := I2
     clear I2
     clear IS
     have IS := Aside0.mk ((I.out.imp (fun _ _ => trivial)).sub (.cons _ (.cons_cons _ .slnil)))
     refine ⟨_, rfl, IS.out, ?_⟩
     refine ca1 (i := 6) rfl rfl (by kernel_rfl) (by decide) Tryd.func23 (by kernel_rfl) rfl #[.agg (stC c h 4 xid sv v6 hi lo t1 t2 un se at_), .agg (pkC 3 0 sv (⟨#[]⟩ : ByteArray) v6 hi lo false 0 0 false 0 0 false (.slice none 0 0)), .int .i64 (4), .int .i64 (at_), .int .i64 now] rfl (by (try simp only [List.map_toArray, List.map_cons, List.map_nil]); first | done | rfl) ?_
     refine (step_c ⟨c, h, 4, xid, sv, ⟨v6, hi, lo⟩, t1, t2, un, se, at_⟩ 3 sv ⟨v6, hi, lo⟩ none 0 [] (fun _ => False) (4) (at_) now _ hx0 (foot_no _ none 0) (Nat.le_refl _) okO_nil).mono ?_
     rintro e_ w1 ⟨v, rfl, hf, hb⟩
     have I2 := Aside0.mk (I.out.addNew hb hf (fun k hk _ => hk.elim False.elim (fun h_ => I.out.new_out k h_)))
     clear hf
     clear I hb
     have I := I2
     clear I2
     clear IS
     have IS := Aside0.mk ((I.out.imp (fun _ _ => trivial)).sub (.cons _ (.cons_cons _ .slnil)))
     refine ⟨_, rfl, IS.out, ?_⟩
     refine pu1 (i := 7) rfl rfl (by kernel_rfl) ?_ (ha := by (go_simp; rfl))
     refine pu1 (i := 8) rfl rfl (by kernel_rfl) ?_ (ha := by (go_simp; rfl))
     refine sl1 (i := 9) rfl rfl (by kernel_rfl) (by decide) rfl rfl rfl I.out (by first | exact .head _ | exact .tail _ (.head _) | exact .tail _ (.tail _ (.head _)) | exact .tail _ (.tail _ (.tail _ (.head _)))) (by first | exact sr_st) (by first | exact .head | exact .tail .head | exact .tail (.tail .head) | exact .tail (.tail (.tail .head))) (fun w1 hI => ?_)
     clear I
     have I := Aside0.mk hI
     clear hI
     refine pu1 (i := 10) rfl rfl (by kernel_rfl) ?_ (ha := by (go_simp; rfl))
     refine do1 (by kernel_rfl) ?_
     clear IS
     try go_wp2
     refine bodyPost_ret (ret_ct rfl _ I.out _ rfl (by first | exact .head _ | exact .tail _ (.head _) | exact .tail _ (.tail _ (.head _)) | exact .tail _ (.tail _ (.tail _ (.head _)))) Tryd.underlying26 rfl (by kernel_rfl)) rfl ?_
     exact ⟨_, rfl, foot_new (I.out.foot.imp (fun W hW => hW.2)), I.out.below⟩
   by_cases hm : 60 < (t2 - se).tdiv 2
   · have m1 : decide (60 < (t2 - se).tdiv 2) = true := decide_eq_true hm
     have em : max 60 ((t2 - se).tdiv 2) = (t2 - se).tdiv 2 := by omega
     have hd := td2 (x := t2 - se) (by omega) (by omega)
     have eF : tickF ⟨c, h, 4, xid, sv, ⟨v6, hi, lo⟩, t1, t2, un, se, at_⟩ now = (⟨c, h, 4, xid, sv, ⟨v6, hi, lo⟩, t1, t2, un, se, at_⟩, []) := by unfold tickF; exact (if_neg (show ¬ (4 : Int) = 0 by decide)).trans ((if_neg (fun hq => hq.elim (show ¬ (4 : Int) = 1 by decide) (show ¬ (4 : Int) = 2 by decide))).trans ((if_neg hn).trans ((if_neg (fun hq => h22 hq.2)).trans ((if_neg (fun hq => absurd hq.1 (show ¬ (4 : Int) = 3 by decide))).trans ((if_neg (fun hq => ha hq.2)).trans (if_neg (fun hq => absurd hq.1 (show ¬ (4 : Int) = 5 by decide))))))))
     rw [eF]
     clear eF
     have ag : decide (min (se + (t2 - se).tdiv 2) 4294967295 ≤ now) = false := by rw [em] at ha; exact decide_eq_false ha
     clear ha
     have I := Aside0.mk (Inv.start0 (w0 := w))
     go_enter Tryd.func9, Tryd.ntmps9
     go_wp2_with (first
      | ((with_reducible refine gate_box rfl ?_); refine wl_bx rfl rfl rfl I.out ?_; intro gb w1 hI; clear I; have I := Aside0.mk hI; clear hI)
      | ((with_reducible refine gate_alloc (ty := 26) rfl ?_); refine wl_box (t := 26) (cs := (stC (⟨#[]⟩ : ByteArray) (⟨#[]⟩ : ByteArray) 0 0 0 false 0 0 0 0 0 0 0)) rfl ?hr I.out ?_; (case hr => first | (go_simp; done) | (go_simp; rfl)); intro gb w1 hI; clear I; have I := Aside0.mk hI; clear hI)
      | ((with_reducible refine gate_ld rfl ?_); (try (refine gate_guard (by rfl) ?_; dsimp only)); refine wl_ld rfl rfl rfl I.out (by first | exact .head _ | exact .tail _ (.head _) | exact .tail _ (.tail _ (.head _)) | exact .tail _ (.tail _ (.tail _ (.head _)))) (by first | exact ld_st2 | exact ld_st9 | exact ld_st10 | exact ld_st11 | exact ld_st8 | exact ld_st) ?_)
      | ((with_reducible refine gate_callee (f := 26) rfl ?_); (try (refine gate_guard (by rfl) ?_; dsimp only)); refine goesL_ (some 42) rfl rfl Tryd.func26 (by kernel_rfl) rfl #[.int .i64 se, .int .i64 ((t2 - se).tdiv 2)] rfl (by (try simp only [List.map_toArray, List.map_cons, List.map_nil]); first | done | rfl) ?_; (refine (after_c se ((t2 - se).tdiv 2) _ hs.1 hs.2 hd.1 hd.2).mono ?_); rintro e_ w1 ⟨rfl, rfl⟩; refine ⟨_, rfl, ?_⟩; skip)
      | ((with_reducible refine gate_sr rfl ?_); refine wl_sr2 rfl rfl rfl rfl rfl I.out (by first | exact .head _ | exact .tail _ (.head _) | exact .tail _ (.tail _ (.head _)) | exact .tail _ (.tail _ (.tail _ (.head _)))) (by first | exact sr_st) (by first | exact .head | exact .tail .head | exact .tail (.tail .head) | exact .tail (.tail (.tail .head))) ?_; intro w1 hI; clear I; have I := Aside0.mk hI; clear hI)
      )
     refine bodyPost_ret (ret_ct rfl _ I.out _ rfl (by first | exact .head _ | exact .tail _ (.head _) | exact .tail _ (.tail _ (.head _)) | exact .tail _ (.tail _ (.tail _ (.head _)))) Tryd.underlying26 rfl (by kernel_rfl)) rfl ?_
     exact ⟨_, rfl, Pks_nil _ _, I.out.below⟩
   have m1 : decide (60 < (t2 - se).tdiv 2) = false := decide_eq_false hm
   replace hm : (t2 - se).tdiv 2 ≤ 60 := by omega
   have em : max 60 ((t2 - se).tdiv 2) = 60 := by omega
   have eF : tickF ⟨c, h, 4, xid, sv, ⟨v6, hi, lo⟩, t1, t2, un, se, at_⟩ now = (⟨c, h, 4, xid, sv, ⟨v6, hi, lo⟩, t1, t2, un, se, at_⟩, []) := by unfold tickF; exact (if_neg (show ¬ (4 : Int) = 0 by decide)).trans ((if_neg (fun hq => hq.elim (show ¬ (4 : Int) = 1 by decide) (show ¬ (4 : Int) = 2 by decide))).trans ((if_neg hn).trans ((if_neg (fun hq => h22 hq.2)).trans ((if_neg (fun hq => absurd hq.1 (show ¬ (4 : Int) = 3 by decide))).trans ((if_neg (fun hq => ha hq.2)).trans (if_neg (fun hq => absurd hq.1 (show ¬ (4 : Int) = 5 by decide))))))))
   rw [eF]
   clear eF
   have ag : decide (min (se + 60) 4294967295 ≤ now) = false := by rw [em] at ha; exact decide_eq_false ha
   clear ha
   have I := Aside0.mk (Inv.start0 (w0 := w))
   go_enter Tryd.func9, Tryd.ntmps9
   go_wp2_with (first
    | ((with_reducible refine gate_box rfl ?_); refine wl_bx rfl rfl rfl I.out ?_; intro gb w1 hI; clear I; have I := Aside0.mk hI; clear hI)
    | ((with_reducible refine gate_alloc (ty := 26) rfl ?_); refine wl_box (t := 26) (cs := (stC (⟨#[]⟩ : ByteArray) (⟨#[]⟩ : ByteArray) 0 0 0 false 0 0 0 0 0 0 0)) rfl ?hr I.out ?_; (case hr => first | (go_simp; done) | (go_simp; rfl)); intro gb w1 hI; clear I; have I := Aside0.mk hI; clear hI)
    | ((with_reducible refine gate_ld rfl ?_); (try (refine gate_guard (by rfl) ?_; dsimp only)); refine wl_ld rfl rfl rfl I.out (by first | exact .head _ | exact .tail _ (.head _) | exact .tail _ (.tail _ (.head _)) | exact .tail _ (.tail _ (.tail _ (.head _)))) (by first | exact ld_st2 | exact ld_st9 | exact ld_st10 | exact ld_st11 | exact ld_st8 | exact ld_st) ?_)
    | ((with_reducible refine gate_callee (f := 26) rfl ?_); (try (refine gate_guard (by rfl) ?_; dsimp only)); refine goesL_ (some 42) rfl rfl Tryd.func26 (by kernel_rfl) rfl #[.int .i64 se, .int .i64 (60)] rfl (by (try simp only [List.map_toArray, List.map_cons, List.map_nil]); first | done | rfl) ?_; (refine (after_c se (60) _ hs.1 hs.2 (by decide) (by decide)).mono ?_); rintro e_ w1 ⟨rfl, rfl⟩; refine ⟨_, rfl, ?_⟩; skip)
    | ((with_reducible refine gate_sr rfl ?_); refine wl_sr2 rfl rfl rfl rfl rfl I.out (by first | exact .head _ | exact .tail _ (.head _) | exact .tail _ (.tail _ (.head _)) | exact .tail _ (.tail _ (.tail _ (.head _)))) (by first | exact sr_st) (by first | exact .head | exact .tail .head | exact .tail (.tail .head) | exact .tail (.tail (.tail .head))) ?_; intro w1 hI; clear I; have I := Aside0.mk hI; clear hI)
    )
   refine bodyPost_ret (ret_ct rfl _ I.out _ rfl (by first | exact .head _ | exact .tail _ (.head _) | exact .tail _ (.tail _ (.head _)) | exact .tail _ (.tail _ (.tail _ (.head _)))) Tryd.underlying26 rfl (by kernel_rfl)) rfl ?_
   exact ⟨_, rfl, Pks_nil _ _, I.out.below⟩
 have b3 : (st == 3) = false := beq_eq_false_iff_ne.mpr s3
 have b4 : (st == 4) = false := beq_eq_false_iff_ne.mpr s4
 by_cases hm : 60 < (t2 - se).tdiv 2
 · have m1 : decide (60 < (t2 - se).tdiv 2) = true := decide_eq_true hm
   have em : max 60 ((t2 - se).tdiv 2) = (t2 - se).tdiv 2 := by omega
   have hd := td2 (x := t2 - se) (by omega) (by omega)
   have eF : tickF ⟨c, h, st, xid, sv, ⟨v6, hi, lo⟩, t1, t2, un, se, at_⟩ now = (⟨c, h, st, xid, sv, ⟨v6, hi, lo⟩, t1, t2, un, se, at_⟩, []) := by unfold tickF; exact (if_neg s0).trans ((if_neg e12).trans ((if_neg hn).trans ((if_neg (fun hq => h22 hq.2)).trans ((if_neg (fun hq => s3 hq.1)).trans ((if_neg (fun hq => s4 hq.1)).trans (if_neg (fun hq => s5 hq.1)))))))
   rw [eF]
   clear eF
   have I := Aside0.mk (Inv.start0 (w0 := w))
   go_enter Tryd.func9, Tryd.ntmps9
   go_wp2_with (first
    | ((with_reducible refine gate_box rfl ?_); refine wl_bx rfl rfl rfl I.out ?_; intro gb w1 hI; clear I; have I := Aside0.mk hI; clear hI)
    | ((with_reducible refine gate_alloc (ty := 26) rfl ?_); refine wl_box (t := 26) (cs := (stC (⟨#[]⟩ : ByteArray) (⟨#[]⟩ : ByteArray) 0 0 0 false 0 0 0 0 0 0 0)) rfl ?hr I.out ?_; (case hr => first | (go_simp; done) | (go_simp; rfl)); intro gb w1 hI; clear I; have I := Aside0.mk hI; clear hI)
    | ((with_reducible refine gate_ld rfl ?_); (try (refine gate_guard (by rfl) ?_; dsimp only)); refine wl_ld rfl rfl rfl I.out (by first | exact .head _ | exact .tail _ (.head _) | exact .tail _ (.tail _ (.head _)) | exact .tail _ (.tail _ (.tail _ (.head _)))) (by first | exact ld_st2 | exact ld_st9 | exact ld_st10 | exact ld_st11 | exact ld_st8 | exact ld_st) ?_)
    | ((with_reducible refine gate_callee (f := 26) rfl ?_); (try (refine gate_guard (by rfl) ?_; dsimp only)); refine goesL_ (some 42) rfl rfl Tryd.func26 (by kernel_rfl) rfl #[.int .i64 se, .int .i64 ((t2 - se).tdiv 2)] rfl (by (try simp only [List.map_toArray, List.map_cons, List.map_nil]); first | done | rfl) ?_; (refine (after_c se ((t2 - se).tdiv 2) _ hs.1 hs.2 hd.1 hd.2).mono ?_); rintro e_ w1 ⟨rfl, rfl⟩; refine ⟨_, rfl, ?_⟩; skip)
    | ((with_reducible refine gate_sr rfl ?_); refine wl_sr2 rfl rfl rfl rfl rfl I.out (by first | exact .head _ | exact .tail _ (.head _) | exact .tail _ (.tail _ (.head _)) | exact .tail _ (.tail _ (.tail _ (.head _)))) (by first | exact sr_st) (by first | exact .head | exact .tail .head | exact .tail (.tail .head) | exact .tail (.tail (.tail .head))) ?_; intro w1 hI; clear I; have I := Aside0.mk hI; clear hI)
    )
   refine bodyPost_ret (ret_ct rfl _ I.out _ rfl (by first | exact .head _ | exact .tail _ (.head _) | exact .tail _ (.tail _ (.head _)) | exact .tail _ (.tail _ (.tail _ (.head _)))) Tryd.underlying26 rfl (by kernel_rfl)) rfl ?_
   exact ⟨_, rfl, Pks_nil _ _, I.out.below⟩
 have m1 : decide (60 < (t2 - se).tdiv 2) = false := decide_eq_false hm
 replace hm : (t2 - se).tdiv 2 ≤ 60 := by omega
 have em : max 60 ((t2 - se).tdiv 2) = 60 := by omega
 have eF : tickF ⟨c, h, st, xid, sv, ⟨v6, hi, lo⟩, t1, t2, un, se, at_⟩ now = (⟨c, h, st, xid, sv, ⟨v6, hi, lo⟩, t1, t2, un, se, at_⟩, []) := by unfold tickF; exact (if_neg s0).trans ((if_neg e12).trans ((if_neg hn).trans ((if_neg (fun hq => h22 hq.2)).trans ((if_neg (fun hq => s3 hq.1)).trans ((if_neg (fun hq => s4 hq.1)).trans (if_neg (fun hq => s5 hq.1)))))))
 rw [eF]
 clear eF
 have I := Aside0.mk (Inv.start0 (w0 := w))
 go_enter Tryd.func9, Tryd.ntmps9
 go_wp2_with (first
  | ((with_reducible refine gate_box rfl ?_); refine wl_bx rfl rfl rfl I.out ?_; intro gb w1 hI; clear I; have I := Aside0.mk hI; clear hI)
  | ((with_reducible refine gate_alloc (ty := 26) rfl ?_); refine wl_box (t := 26) (cs := (stC (⟨#[]⟩ : ByteArray) (⟨#[]⟩ : ByteArray) 0 0 0 false 0 0 0 0 0 0 0)) rfl ?hr I.out ?_; (case hr => first | (go_simp; done) | (go_simp; rfl)); intro gb w1 hI; clear I; have I := Aside0.mk hI; clear hI)
  | ((with_reducible refine gate_ld rfl ?_); (try (refine gate_guard (by rfl) ?_; dsimp only)); refine wl_ld rfl rfl rfl I.out (by first | exact .head _ | exact .tail _ (.head _) | exact .tail _ (.tail _ (.head _)) | exact .tail _ (.tail _ (.tail _ (.head _)))) (by first | exact ld_st2 | exact ld_st9 | exact ld_st10 | exact ld_st11 | exact ld_st8 | exact ld_st) ?_)
  | ((with_reducible refine gate_callee (f := 26) rfl ?_); (try (refine gate_guard (by rfl) ?_; dsimp only)); refine goesL_ (some 42) rfl rfl Tryd.func26 (by kernel_rfl) rfl #[.int .i64 se, .int .i64 (60)] rfl (by (try simp only [List.map_toArray, List.map_cons, List.map_nil]); first | done | rfl) ?_; (refine (after_c se (60) _ hs.1 hs.2 (by decide) (by decide)).mono ?_); rintro e_ w1 ⟨rfl, rfl⟩; refine ⟨_, rfl, ?_⟩; skip)
  | ((with_reducible refine gate_sr rfl ?_); refine wl_sr2 rfl rfl rfl rfl rfl I.out (by first | exact .head _ | exact .tail _ (.head _) | exact .tail _ (.tail _ (.head _)) | exact .tail _ (.tail _ (.tail _ (.head _)))) (by first | exact sr_st) (by first | exact .head | exact .tail .head | exact .tail (.tail .head) | exact .tail (.tail (.tail .head))) ?_; intro w1 hI; clear I; have I := Aside0.mk hI; clear hI)
  )
 refine bodyPost_ret (ret_ct rfl _ I.out _ rfl (by first | exact .head _ | exact .tail _ (.head _) | exact .tail _ (.tail _ (.head _)) | exact .tail _ (.tail _ (.tail _ (.head _)))) Tryd.underlying26 rfl (by kernel_rfl)) rfl ?_
 exact ⟨_, rfl, Pks_nil _ _, I.out.below⟩
end Go.Proofs.YtlabnocmmeciaaaDoor.BQ


namespace Go.Proofs.YtlabnocmmeciaaaDoor.BQ
open Go Go.RowKit Go.Proofs.YtlabnocmmeciaaaDoorW.PrintWords Go.Proofs.YtlabnocmmeciaaaDoorW.PrintLast Go.Proofs.YtlabnocmmeciaaaDoorW.PrintMore Go.Proofs.YtlabnocmmeciaaaDoor.Pa Go.Proofs.YtlabnocmmeciaaaDoor.STN
set_option linter.unusedVariables false
set_option linter.unusedSimpArgs false
theorem ret_agg {a b : Array Value} (h : a = b) : Ending.returned (.agg a) = .returned (.agg b) := by rw [h]
def spC (kd by_ : Int) (ki pxid psv : Int) (pc : ByteArray) (v1 : Bool) (hi1 lo1 : Int) (v2 : Bool) (hi2 lo2 : Int) (v3 : Bool) (hi3 lo3 : Int) (hr : Bool) (o : Value) (own : Bool) : Array Value := #[.int .u8 kd, .int .u32 by_, .int .i64 ki, .int .i64 pxid, .int .i64 psv, .string pc, .bool v1, .int .u64 hi1, .int .u64 lo1, .bool v2, .int .u64 hi2, .int .u64 lo2, .bool v3, .int .u64 hi3, .int .u64 lo3, .bool hr, o, .bool own]
theorem ld_sp2 {kd by_ : Int} {ki pxid psv : Int} {pc : ByteArray} {v1 : Bool} {hi1 lo1 : Int} {v2 : Bool} {hi2 lo2 : Int} {v3 : Bool} {hi3 lo3 : Int} {hr : Bool} {o : Value} {own : Bool} : Ld Tryd.prog 39 (spC kd by_ ki pxid psv pc v1 hi1 lo1 v2 hi2 lo2 v3 hi3 lo3 hr o own) 2 (.agg (pkC ki pxid psv pc v1 hi1 lo1 v2 hi2 lo2 v3 hi3 lo3 hr o)) :=
  ld_mid _ Tryd.underlying39 rfl (pkC ki pxid psv pc v1 hi1 lo1 v2 hi2 lo2 v3 hi3 lo3 hr o).toList (by kernel_rfl) (fun j v hv => by
    match j, hv with
    | 0, hv => exact hv
    | 1, hv => exact hv
    | 2, hv => exact hv
    | 3, hv => exact hv
    | 4, hv => exact hv
    | 5, hv => exact hv
    | 6, hv => exact hv
    | 7, hv => exact hv
    | 8, hv => exact hv
    | 9, hv => exact hv
    | 10, hv => exact hv
    | 11, hv => exact hv
    | 12, hv => exact hv
    | 13, hv => exact hv
    | 14, hv => exact hv
    | j + 15, hv => exact absurd hv (by simp [pkC]))
theorem ld_sp17 {kd by_ : Int} {ki pxid psv : Int} {pc : ByteArray} {v1 : Bool} {hi1 lo1 : Int} {v2 : Bool} {hi2 lo2 : Int} {v3 : Bool} {hi3 lo3 : Int} {hr : Bool} {o : Value} {own : Bool} : Ld Tryd.prog 4 (spC kd by_ ki pxid psv pc v1 hi1 lo1 v2 hi2 lo2 v3 hi3 lo3 hr o own) 17 (.bool own) := ld_of _ Tryd.underlying4 rfl rfl
set_option maxHeartbeats 4000000 in
set_option maxRecDepth 100000 in
theorem message_c (kd by_ : Int) (ki pxid psv : Int) (pc : ByteArray) (v1 : Bool) (hi1 lo1 : Int) (v2 : Bool) (hi2 lo2 : Int) (v3 : Bool) (hi3 lo3 : Int) (hr : Bool) (A : Option Addr) (n cc : Nat) (own : Bool) (xid : Int) (v6 : Bool) (hi lo : Int) (w : World) (hx : 0 ≤ xid ∧ xid ≤ 4294967295) (hp : -9223372036854775808 ≤ pxid ∧ pxid ≤ 9223372036854775807) :
  Calls Tryd.prog 10 #[.agg (spC kd by_ ki pxid psv pc v1 hi1 lo1 v2 hi2 lo2 v3 hi3 lo3 hr (.slice A n cc) own), .int .i64 xid, .agg #[.bool v6, .int .u64 hi, .int .u64 lo]] w fun e w' => e = .returned (.agg (pkC ki (if pxid < 0 then (if 0 < xid + pxid + 1 then xid + pxid + 1 else 0) else pxid) psv pc v1 hi1 lo1 (if own then v6 else v2) (if own then hi else hi2) (if own then lo else lo2) v3 hi3 lo3 hr (.slice A n cc))) ∧ Below w.heap.size w w' := by
 have hu26 := Tryd.underlying26
 have hu39 := Tryd.underlying39
 have hu24 := Tryd.underlying24
 have I := Aside0.mk (Inv.start0 (w0 := w))
 by_cases hn : pxid < 0
 · have e1 : decide (pxid < 0) = true := decide_eq_true hn
   rw [if_pos hn]
   cases own
   ·
     go_enter Tryd.func10, Tryd.ntmps10
     go_wp2_with (first
      | ((with_reducible refine gate_box rfl ?_); refine wl_bx rfl rfl rfl I.out ?_; intro gb w1 hI; clear I; have I := Aside0.mk hI; clear hI)
      | ((with_reducible refine gate_alloc (ty := 39) rfl ?_); refine wl_box (t := 39) (cs := (pkC 0 0 0 (⟨#[]⟩ : ByteArray) false 0 0 false 0 0 false 0 0 false (.slice none 0 0))) rfl ?hal I.out ?_; (case hal => first | (go_simp; done) | (go_simp; rfl)); intro gb w1 hI; clear I; have I := Aside0.mk hI; clear hI)
      | ((with_reducible refine gate_ld rfl ?_); (try (refine gate_guard (by rfl) ?_; dsimp only)); refine wl_ld rfl rfl rfl I.out (by first | exact .head _ | exact .tail _ (.head _) | exact .tail _ (.tail _ (.head _)) | exact .tail _ (.tail _ (.tail _ (.head _)))) (by first | exact ld_sp2 | exact ld_sp17 | exact ld_ad | exact ld_pk1 | exact ld_pk) ?_)
      | ((with_reducible refine gate_sr rfl ?_); refine wl_sr2 rfl rfl rfl rfl rfl I.out (by first | exact .head _ | exact .tail _ (.head _) | exact .tail _ (.tail _ (.head _)) | exact .tail _ (.tail _ (.tail _ (.head _)))) (by first | exact sr_pk1 | exact sr_pkA7 | exact sr_pk rfl) (by first | exact .head | exact .tail .head | exact .tail (.tail .head) | exact .tail (.tail (.tail .head))) ?_; intro w1 hI; clear I; have I := Aside0.mk hI; clear hI)
      )
     all_goals (refine bodyPost_ret (ret_c rfl _ I.out _ rfl (by first | exact .head _ | exact .tail _ (.head _) | exact .tail _ (.tail _ (.head _)) | exact .tail _ (.tail _ (.tail _ (.head _)))) Tryd.underlying39 rfl (by kernel_rfl)) rfl ?_; refine ⟨?_, I.out.below⟩; first | rfl | (exact ret_agg (by first | rw [if_pos (by omega)] | rw [if_neg (by omega)] | rw [Int.max_eq_right (by omega)] | rw [Int.max_eq_left (by omega)])))
   ·
     go_enter Tryd.func10, Tryd.ntmps10
     go_wp2_with (first
      | ((with_reducible refine gate_box rfl ?_); refine wl_bx rfl rfl rfl I.out ?_; intro gb w1 hI; clear I; have I := Aside0.mk hI; clear hI)
      | ((with_reducible refine gate_alloc (ty := 39) rfl ?_); refine wl_box (t := 39) (cs := (pkC 0 0 0 (⟨#[]⟩ : ByteArray) false 0 0 false 0 0 false 0 0 false (.slice none 0 0))) rfl ?hal I.out ?_; (case hal => first | (go_simp; done) | (go_simp; rfl)); intro gb w1 hI; clear I; have I := Aside0.mk hI; clear hI)
      | ((with_reducible refine gate_ld rfl ?_); (try (refine gate_guard (by rfl) ?_; dsimp only)); refine wl_ld rfl rfl rfl I.out (by first | exact .head _ | exact .tail _ (.head _) | exact .tail _ (.tail _ (.head _)) | exact .tail _ (.tail _ (.tail _ (.head _)))) (by first | exact ld_sp2 | exact ld_sp17 | exact ld_ad | exact ld_pk1 | exact ld_pk) ?_)
      | ((with_reducible refine gate_sr rfl ?_); refine wl_sr2 rfl rfl rfl rfl rfl I.out (by first | exact .head _ | exact .tail _ (.head _) | exact .tail _ (.tail _ (.head _)) | exact .tail _ (.tail _ (.tail _ (.head _)))) (by first | exact sr_pk1 | exact sr_pkA7 | exact sr_pk rfl) (by first | exact .head | exact .tail .head | exact .tail (.tail .head) | exact .tail (.tail (.tail .head))) ?_; intro w1 hI; clear I; have I := Aside0.mk hI; clear hI)
      )
     all_goals (refine bodyPost_ret (ret_c rfl _ I.out _ rfl (by first | exact .head _ | exact .tail _ (.head _) | exact .tail _ (.tail _ (.head _)) | exact .tail _ (.tail _ (.tail _ (.head _)))) Tryd.underlying39 rfl (by kernel_rfl)) rfl ?_; refine ⟨?_, I.out.below⟩; first | rfl | (exact ret_agg (by first | rw [if_pos (by omega)] | rw [if_neg (by omega)] | rw [Int.max_eq_right (by omega)] | rw [Int.max_eq_left (by omega)])))
 have e1 : decide (pxid < 0) = false := decide_eq_false hn
 rw [if_neg hn]
 clear hn
 cases own
 ·
   go_enter Tryd.func10, Tryd.ntmps10
   go_wp2_with (first
    | ((with_reducible refine gate_box rfl ?_); refine wl_bx rfl rfl rfl I.out ?_; intro gb w1 hI; clear I; have I := Aside0.mk hI; clear hI)
    | ((with_reducible refine gate_alloc (ty := 39) rfl ?_); refine wl_box (t := 39) (cs := (pkC 0 0 0 (⟨#[]⟩ : ByteArray) false 0 0 false 0 0 false 0 0 false (.slice none 0 0))) rfl ?hal I.out ?_; (case hal => first | (go_simp; done) | (go_simp; rfl)); intro gb w1 hI; clear I; have I := Aside0.mk hI; clear hI)
    | ((with_reducible refine gate_ld rfl ?_); (try (refine gate_guard (by rfl) ?_; dsimp only)); refine wl_ld rfl rfl rfl I.out (by first | exact .head _ | exact .tail _ (.head _) | exact .tail _ (.tail _ (.head _)) | exact .tail _ (.tail _ (.tail _ (.head _)))) (by first | exact ld_sp2 | exact ld_sp17 | exact ld_ad | exact ld_pk1 | exact ld_pk) ?_)
    | ((with_reducible refine gate_sr rfl ?_); refine wl_sr2 rfl rfl rfl rfl rfl I.out (by first | exact .head _ | exact .tail _ (.head _) | exact .tail _ (.tail _ (.head _)) | exact .tail _ (.tail _ (.tail _ (.head _)))) (by first | exact sr_pk1 | exact sr_pkA7 | exact sr_pk rfl) (by first | exact .head | exact .tail .head | exact .tail (.tail .head) | exact .tail (.tail (.tail .head))) ?_; intro w1 hI; clear I; have I := Aside0.mk hI; clear hI)
    )
   all_goals (refine bodyPost_ret (ret_c rfl _ I.out _ rfl (by first | exact .head _ | exact .tail _ (.head _) | exact .tail _ (.tail _ (.head _)) | exact .tail _ (.tail _ (.tail _ (.head _)))) Tryd.underlying39 rfl (by kernel_rfl)) rfl ?_; refine ⟨?_, I.out.below⟩; first | rfl | (exact ret_agg (by first | rw [if_pos (by omega)] | rw [if_neg (by omega)] | rw [Int.max_eq_right (by omega)] | rw [Int.max_eq_left (by omega)])))
 ·
   go_enter Tryd.func10, Tryd.ntmps10
   go_wp2_with (first
    | ((with_reducible refine gate_box rfl ?_); refine wl_bx rfl rfl rfl I.out ?_; intro gb w1 hI; clear I; have I := Aside0.mk hI; clear hI)
    | ((with_reducible refine gate_alloc (ty := 39) rfl ?_); refine wl_box (t := 39) (cs := (pkC 0 0 0 (⟨#[]⟩ : ByteArray) false 0 0 false 0 0 false 0 0 false (.slice none 0 0))) rfl ?hal I.out ?_; (case hal => first | (go_simp; done) | (go_simp; rfl)); intro gb w1 hI; clear I; have I := Aside0.mk hI; clear hI)
    | ((with_reducible refine gate_ld rfl ?_); (try (refine gate_guard (by rfl) ?_; dsimp only)); refine wl_ld rfl rfl rfl I.out (by first | exact .head _ | exact .tail _ (.head _) | exact .tail _ (.tail _ (.head _)) | exact .tail _ (.tail _ (.tail _ (.head _)))) (by first | exact ld_sp2 | exact ld_sp17 | exact ld_ad | exact ld_pk1 | exact ld_pk) ?_)
    | ((with_reducible refine gate_sr rfl ?_); refine wl_sr2 rfl rfl rfl rfl rfl I.out (by first | exact .head _ | exact .tail _ (.head _) | exact .tail _ (.tail _ (.head _)) | exact .tail _ (.tail _ (.tail _ (.head _)))) (by first | exact sr_pk1 | exact sr_pkA7 | exact sr_pk rfl) (by first | exact .head | exact .tail .head | exact .tail (.tail .head) | exact .tail (.tail (.tail .head))) ?_; intro w1 hI; clear I; have I := Aside0.mk hI; clear hI)
    )
   all_goals (refine bodyPost_ret (ret_c rfl _ I.out _ rfl (by first | exact .head _ | exact .tail _ (.head _) | exact .tail _ (.tail _ (.head _)) | exact .tail _ (.tail _ (.tail _ (.head _)))) Tryd.underlying39 rfl (by kernel_rfl)) rfl ?_; refine ⟨?_, I.out.below⟩; first | rfl | (exact ret_agg (by first | rw [if_pos (by omega)] | rw [if_neg (by omega)] | rw [Int.max_eq_right (by omega)] | rw [Int.max_eq_left (by omega)])))
end Go.Proofs.YtlabnocmmeciaaaDoor.BQ


namespace Go.Proofs.YtlabnocmmeciaaaDoor.BQ
open Go Go.RowKit Go.Proofs.YtlabnocmmeciaaaDoorW.PrintWords Go.Proofs.YtlabnocmmeciaaaDoorW.PrintLast Go.Proofs.YtlabnocmmeciaaaDoorW.PrintMore Go.Proofs.YtlabnocmmeciaaaDoor.Pa Go.Proofs.YtlabnocmmeciaaaDoor.STN
set_option linter.unusedVariables false
set_option linter.unusedSimpArgs false
set_option maxHeartbeats 4000000 in
set_option maxRecDepth 100000 in
theorem ten_c (w : World) : Calls Tryd.prog 21 #[.int .u64 1] w fun e w' => e = .returned (.agg #[.bool false, .int .u64 0, .int .u64 167772161]) ∧ Below w.heap.size w w' := by
 have hu26 := Tryd.underlying26
 have hu39 := Tryd.underlying39
 have hu24 := Tryd.underlying24
 have I := Aside0.mk (Inv.start0 (w0 := w))
 go_enter Tryd.func21, Tryd.ntmps21
 go_wp2_with (first
  | ((with_reducible refine gate_alloc (ty := 24) rfl ?_); refine wl_box (t := 24) (cs := #[.bool false, .int .u64 0, .int .u64 0]) rfl ?hr I.out ?_; (case hr => first | (go_simp; done) | (go_simp; rfl)); intro gb w1 hI; clear I; have I := Aside0.mk hI; clear hI)
  | ((with_reducible refine gate_sr rfl ?_); refine wl_sr2 rfl rfl rfl rfl rfl I.out (by first | exact .head _ | exact .tail _ (.head _) | exact .tail _ (.tail _ (.head _)) | exact .tail _ (.tail _ (.tail _ (.head _)))) (by first | exact sr_ad) (by first | exact .head | exact .tail .head | exact .tail (.tail .head) | exact .tail (.tail (.tail .head))) ?_; intro w1 hI; clear I; have I := Aside0.mk hI; clear hI)
  )
 refine bodyPost_ret (ret_c rfl _ I.out _ rfl (by first | exact .head _ | exact .tail _ (.head _) | exact .tail _ (.tail _ (.head _)) | exact .tail _ (.tail _ (.tail _ (.head _)))) Tryd.underlying24 rfl (by kernel_rfl)) rfl ?_
 exact ⟨rfl, I.out.below⟩
set_option maxHeartbeats 4000000 in
set_option maxRecDepth 100000 in
theorem ackm_c (w : World) : Calls Tryd.prog 22 #[.int .i64 3] w fun e w' => ∃ g, e = .returned (.agg (pkC 5 3 7 (⟨#[97]⟩ : ByteArray) false 0 0 false 0 167772161 false 0 0 false (.slice (some ⟨g, 0, none⟩) 1 1))) ∧ Foot (fun W => Kd.C k60 W (some ⟨g, 0, none⟩) 1 [(⟨51, (⟨#[0, 0, 0, 100]⟩ : ByteArray)⟩ : S60)]) w' (fun k => w.heap.size ≤ k) ∧ Below w.heap.size w w' := by
 have hu26 := Tryd.underlying26
 have hu39 := Tryd.underlying39
 have hu24 := Tryd.underlying24
 have hu60 := Tryd.underlying60
 have I := Aside0.mk (Inv.start0 (w0 := w))
 go_enter Tryd.func22, Tryd.ntmps22
 go_wp2_with (first
  | ((with_reducible refine gate_alloc (ty := 39) rfl ?_); refine wl_box (t := 39) (cs := (pkC 0 0 0 (⟨#[]⟩ : ByteArray) false 0 0 false 0 0 false 0 0 false (.slice none 0 0))) rfl ?hr I.out ?_; (case hr => first | (go_simp; done) | (go_simp; rfl)); intro gb w1 hI; clear I; have I := Aside0.mk hI; clear hI)
  | ((with_reducible refine gate_callee (f := 21) rfl ?_); (try (refine gate_guard (by rfl) ?_; dsimp only)); refine goesL_ (some 4) rfl rfl Tryd.func21 (by kernel_rfl) rfl #[.int .u64 1] rfl (by (try simp only [List.map_toArray, List.map_cons, List.map_nil]); first | done | rfl) ?_; (refine (ten_c _).mono ?_); rintro e_ w1 ⟨rfl, hb⟩; refine ⟨_, rfl, ?_⟩; have I2 := Aside0.mk (I.out.call hb); clear I hb; have I := I2; clear I2)
  | ((with_reducible refine gate_dst (N := 6) rfl ?_); refine wl_val (v := .slice (some ⟨w1.heap.size, 0, none⟩) 1 1) (w1 := World.alloc w1 (.cells #[.int .i64 51, .string (⟨#[0, 0, 0, 100]⟩ : ByteArray)] 60 (0, 0))) rfl (by first | (go_simp; done) | (go_simp; rfl)) ?_; have I2 := Aside0.mk (I.out.buildK k60 (⟨51, (⟨#[0, 0, 0, 100]⟩ : ByteArray)⟩ : S60) #[.int .i64 51, .string (⟨#[0, 0, 0, 100]⟩ : ByteArray)] 60 rfl (fun W _ => k60_mk W ⟨51, (⟨#[0, 0, 0, 100]⟩ : ByteArray)⟩)); clear I; have I := I2; clear I2)
  | ((with_reducible refine gate_sr rfl ?_); refine wl_sr2 rfl rfl rfl rfl rfl I.out (by first | exact .head _ | exact .tail _ (.head _) | exact .tail _ (.tail _ (.head _)) | exact .tail _ (.tail _ (.tail _ (.head _)))) (by first | exact sr_pk rfl) (by first | exact .head | exact .tail .head | exact .tail (.tail .head) | exact .tail (.tail (.tail .head))) ?_; intro w1 hI; clear I; have I := Aside0.mk hI; clear hI)
  )
 refine bodyPost_ret (ret_c rfl _ I.out _ rfl (by first | exact .head _ | exact .tail _ (.head _) | exact .tail _ (.tail _ (.head _)) | exact .tail _ (.tail _ (.tail _ (.head _)))) Tryd.underlying39 rfl (by kernel_rfl)) rfl ?_
 exact ⟨_, rfl, (I.out.foot.imp (fun W hW => hW.2)).mono (fun k hk => hk.1.resolve_left id), I.out.below⟩
end Go.Proofs.YtlabnocmmeciaaaDoor.BQ

