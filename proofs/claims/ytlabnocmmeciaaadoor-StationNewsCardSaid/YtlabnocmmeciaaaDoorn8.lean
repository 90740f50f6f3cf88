/- Parts of the proof of this claim's statement (joined by a program of this session): Pax23. -/
import Derived.Test.YtlabnocmmeciaaaDoorn1
import Derived.Test.YtlabnocmmeciaaaDoorn7
import Derived.Test.YtlabnocmmeciaaaDoorn6
namespace Go.Proofs.YtlabnocmmeciaaaDoor.Pa
open Go Go.RowKit Go.Proofs.YtlabnocmmeciaaaDoorW.PrintWords Go.Proofs.YtlabnocmmeciaaaDoorW.PrintLast Go.Proofs.YtlabnocmmeciaaaDoorW.PrintMore Go.Proofs.YtlabnocmmeciaaaDoor.BQ Go.Proofs.YtlabnocmmeciaaaDoor.STN
set_option linter.unusedVariables false
set_option linter.unusedSimpArgs false
theorem eqAR (d : Nat) (w : World) (x0 y0 : ByteArray) (x1 y1 : ByteArray) (x2 y2 : Int) (x3 y3 : Int) (x4 y4 : Int) (x5 y5 : Bool) (x6 y6 : Int) (x7 y7 : Int) (x8 y8 : Int) (x9 y9 : Int) (x10 y10 : Int) (x11 y11 : Int) (x12 y12 : Int) :
  (Op.equalIn (d + 3) 30 (.agg (stC x0 x1 x2 x3 x4 x5 x6 x7 x8 x9 x10 x11 x12)) (.agg (stC y0 y1 y2 y3 y4 y5 y6 y7 y8 y9 y10 y11 y12))).run Tryd.prog w = .ok (x0.toList == y0.toList && (x1.toList == y1.toList && (x2 == y2 && (x3 == y3 && (x4 == y4 && ((x5 == y5 && (x6 == y6 && (x7 == y7))) && (x8 == y8 && (x9 == y9 && (x10 == y10 && (x11 == y11 && (x12 == y12))))))))))) w := by
 unfold stC
 refine eqA_of Tryd.underlying30 (by kernel_rfl) ?_
 refine eqf_cons (by rfl) (by go_simp; rfl) (by go_simp; rfl) (by go_simp) ?_
 refine eqf_cons (by rfl) (by go_simp; rfl) (by go_simp; rfl) (by go_simp) ?_
 refine eqf_cons (by rfl) (by go_simp; rfl) (by go_simp; rfl) (by go_simp) ?_
 refine eqf_cons (by rfl) (by go_simp; rfl) (by go_simp; rfl) (by go_simp) ?_
 refine eqf_cons (by rfl) (by go_simp; rfl) (by go_simp; rfl) (by go_simp) ?_
 refine eqf_cons (by rfl) (by go_simp) (by go_simp) (eqA24 (d + 0) w _ _ _ _ _ _) ?_
 refine eqf_cons (by rfl) (by go_simp; rfl) (by go_simp; rfl) (by go_simp) ?_
 refine eqf_cons (by rfl) (by go_simp; rfl) (by go_simp; rfl) (by go_simp) ?_
 refine eqf_cons (by rfl) (by go_simp; rfl) (by go_simp; rfl) (by go_simp) ?_
 refine eqf_cons (by rfl) (by go_simp; rfl) (by go_simp; rfl) (by go_simp) ?_
 exact eqf_last (by rfl) (by go_simp; rfl) (by go_simp; rfl) (by go_simp)
theorem eqSelf (d : Nat) (w : World) (x0 x1 : ByteArray) (x2 x3 x4 : Int) (x5 : Bool) (x6 x7 x8 x9 x10 x11 x12 : Int) : (Op.equalIn (d + 3) 30 (.agg (stC x0 x1 x2 x3 x4 x5 x6 x7 x8 x9 x10 x11 x12)) (.agg (stC x0 x1 x2 x3 x4 x5 x6 x7 x8 x9 x10 x11 x12))).run Tryd.prog w = .ok true w := by
 rw [eqAR]; simp
attribute [local go_sem high] eqSelf
set_option maxHeartbeats 4000000 in
set_option maxRecDepth 100000 in
theorem news_c (k : Nat) (a0 a1 rc rh : ByteArray) (r3 r4 r5 : Int) (b6 : Bool) (r7 r8 r9 r10 r11 r12 r13 r14 : Int) (w : World) (h1 : station_New.f k a0 a1 = some (rc, rh, r3, r4, r5, b6, r7, r8, r9, r10, r11, r12, r13, r14)) (h2 : ddiref42_New.f k a0 a1 = some (rc, rh, r3, r4, r5, b6, r7, r8, r9, r10, r11, r12, r13, r14)) :
  Calls Tryd.prog 3 #[.string a0, .string a1] w fun e w' => e = .returned (.bool true) ∧ Below w.heap.size w w' := by
 have hu26 := Tryd.underlying26
 have hu39 := Tryd.underlying39
 have hu24 := Tryd.underlying24
 have hu30 := Tryd.underlying30
 have h1 := Aside0.mk h1
 have h2 := Aside0.mk h2
 have I := Aside0.mk (Inv.start0 (w0 := w))
 go_enter Tryd.func3, Tryd.ntmps3
 go_wp2_with (first
  | ((with_reducible refine gate_alloc (ty := 26) rfl ?_); refine wl_box (t := 26) (cs := (stC (⟨#[]⟩ : ByteArray) (⟨#[]⟩ : ByteArray) 0 0 0 false 0 0 0 0 0 0 0)) rfl ?hr I.out ?_; (case hr => first | (go_simp; done) | (go_simp; rfl)); intro gb w1 hI; clear I; have I := Aside0.mk hI; clear hI)
  | ((with_reducible refine gate_alloc (ty := 30) rfl ?_); refine wl_box (t := 30) (cs := (stC (⟨#[]⟩ : ByteArray) (⟨#[]⟩ : ByteArray) 0 0 0 false 0 0 0 0 0 0 0)) rfl ?hr I.out ?_; (case hr => first | (go_simp; done) | (go_simp; rfl)); intro gb w1 hI; clear I; have I := Aside0.mk hI; clear hI)
  | ((with_reducible refine gate_ld rfl ?_); (try (refine gate_guard (by rfl) ?_; dsimp only)); refine wl_ld rfl rfl rfl I.out (by first | exact .head _ | exact .tail _ (.head _) | exact .tail _ (.tail _ (.head _)) | exact .tail _ (.tail _ (.tail _ (.head _)))) (by exact ld_st) ?_)
  | ((with_reducible refine gate_ld rfl ?_); (try (refine gate_guard (by rfl) ?_; dsimp only)); refine wl_ld rfl rfl rfl I.out (by first | exact .head _ | exact .tail _ (.head _) | exact .tail _ (.tail _ (.head _)) | exact .tail _ (.tail _ (.tail _ (.head _)))) (ld_row _ Tryd.underlying30 rfl (by kernel_rfl)) ?_)
  | ((with_reducible refine gate_callee (f := 6) rfl ?_); (try (refine gate_guard (by rfl) ?_; dsimp only)); refine goesL_ (some 12) rfl rfl Tryd.func6 (by kernel_rfl) rfl #[.string a0, .string a1] rfl (by (try simp only [List.map_toArray, List.map_cons, List.map_nil]); first | done | rfl) ?_; (refine (station_New.calls k a0 a1 rc rh r3 r4 r5 b6 r7 r8 r9 r10 r11 r12 r13 r14 _ h1.out).mono ?_); rintro e_ w1 ⟨rfl, hb⟩; refine ⟨_, rfl, ?_⟩; have I2 := Aside0.mk (I.out.call hb); clear I hb; have I := I2; clear I2)
  | ((with_reducible refine gate_callee (f := 7) rfl ?_); (try (refine gate_guard (by rfl) ?_; dsimp only)); refine goesL_ (some 18) rfl rfl Tryd.func7 (by kernel_rfl) rfl #[.string a0, .string a1] rfl (by (try simp only [List.map_toArray, List.map_cons, List.map_nil]); first | done | rfl) ?_; (refine (ddiref42_New.calls k a0 a1 rc rh r3 r4 r5 b6 r7 r8 r9 r10 r11 r12 r13 r14 _ h2.out).mono ?_); rintro e_ w1 ⟨rfl, hb⟩; refine ⟨_, rfl, ?_⟩; have I2 := Aside0.mk (I.out.call hb); clear I hb; have I := I2; clear I2)
  | ((with_reducible refine gate_callee (f := 8) rfl ?_); (try (refine gate_guard (by rfl) ?_; dsimp only)); refine goesL_ (some 30) rfl rfl Tryd.func8 (by kernel_rfl) rfl #[] rfl (by (try simp only [List.map_toArray, List.map_cons, List.map_nil]); first | done | rfl) ?_; (refine (BQ.awake_c _).mono ?_); rintro e_ w1 ⟨rfl, hb⟩; refine ⟨_, rfl, ?_⟩; have I2 := Aside0.mk (I.out.call hb); clear I hb; have I := I2; clear I2)
  | ((with_reducible refine gate_sr rfl ?_); refine wl_sr2 rfl rfl rfl rfl rfl I.out (by first | exact .head _ | exact .tail _ (.head _) | exact .tail _ (.tail _ (.head _)) | exact .tail _ (.tail _ (.tail _ (.head _)))) (by first | exact sr_st (c' := rc) (h' := rh) (st' := r3) (xid' := r4) (sv' := r5) (v6' := b6) (hi' := r7) (lo' := r8) (t1' := r9) (t2' := r10) (un' := r11) (se' := r12) (at_' := r13)) (by first | exact .head | exact .tail .head | exact .tail (.tail .head) | exact .tail (.tail (.tail .head))) ?_; intro w1 hI; clear I; have I := Aside0.mk hI; clear hI)
  | ((with_reducible refine gate_sr rfl ?_); refine wl_sr2 rfl rfl rfl rfl rfl I.out (by first | exact .head _ | exact .tail _ (.head _) | exact .tail _ (.tail _ (.head _)) | exact .tail _ (.tail _ (.tail _ (.head _)))) (sr_row (cs' := stC rc rh r3 r4 r5 b6 r7 r8 r9 r10 r11 r12 r13) (by kernel_rfl) rfl (by simp [stC, Value.oneCell'])) (by first | exact .head | exact .tail .head | exact .tail (.tail .head) | exact .tail (.tail (.tail .head))) ?_; intro w1 hI; clear I; have I := Aside0.mk hI; clear hI)
  )
 go_ret
 exact ⟨rfl, I.out.below⟩
def ddilaw42_StationNews.f (k : Nat) (a0 : ByteArray) (a1 : ByteArray) : Option (Bool) := if a0.size ≤ 140737488351232 ∧ a1.size ≤ 140737488351232 ∧ a0.size + a1.size + 3001 ≤ k then some true else none
theorem ddilaw42_StationNews.calls (k : Nat) (a0 : ByteArray) (a1 : ByteArray) (r : Bool) (w : World) (h : ddilaw42_StationNews.f k a0 a1 = some r) :
  Calls Tryd.prog 3 #[.string a0, .string a1] w fun e w' => e = .returned (.bool r) ∧ Below w.heap.size w w' := by
 unfold ddilaw42_StationNews.f at h
 by_cases hc : a0.size ≤ 140737488351232 ∧ a1.size ≤ 140737488351232 ∧ a0.size + a1.size + 3001 ≤ k
 · rw [if_pos hc] at h
   obtain rfl := Option.some.inj h
   exact news_c k a0 a1 _ _ _ _ _ _ _ _ _ _ _ _ _ _ w (new_f a0 a1 hc.1 hc.2.1 k (by omega)) (rnew_f a0 a1 hc.2.1 k (by omega))
 · rw [if_neg hc] at h; exact absurd h (by simp)
end Go.Proofs.YtlabnocmmeciaaaDoor.Pa

