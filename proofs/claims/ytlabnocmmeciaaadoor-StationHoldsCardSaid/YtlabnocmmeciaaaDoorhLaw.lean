/- The row of the law StationHolds and its card: every argument is opened into the print's kinds, the printed call answers, the plain statement says what. Conditions: the arguments' sizes are those that the row allows; the listed tables are tied. -/
import Derived.Test.YtlabnocmmeciaaaDoorRows
import Derived.Test.YtlabnocmmeciaaaDoorCards
import Derived.Test.YtlabnocmmeciaaaDoorTie
import Derived.Test.YtlabnocmmeciaaaDoorh2
import Derived.Test.YtlabnocmmeciaaaDoorh8
import Derived.Test.YtlabnocmmeciaaaDoorh9
import Derived.WalkKit
import Derived.ProofKit
import Derived.OpenShut
import Derived.ShutString
import Derived.ChangeOld
import Derived.Below
import Derived.SizedLaws
import Derived.Lay
import Derived.SevenTiedAt
import Derived.LaidOnce
set_option linter.unusedVariables false
set_option linter.unusedSimpArgs false
namespace Go.Proofs.YtlabnocmmeciaaaDoor.stationHolds
open Go.ChangeShapes Go.WideShapes Go.ChangeAt Go.RowKit Go.Proofs.YtlabnocmmeciaaaDoor.Opn Go.Proofs.YtlabnocmmeciaaaDoor.Pa Go.Proofs.YtlabnocmmeciaaaDoorW.PrintWords
open Go.ChangeMaps (open_string shut_string)
theorem open24 (w : World) : Opens Tryd.prog w 24 k24 Wf24 := by
  have h := opens_struct (inj := (fun y => ⟨y.1, y.2.1, y.2.2⟩ : _ → S24)) Tryd.underlying24 (by kernel_rfl) (opensF_cons (by rfl) (by kernel_rfl) (opens_bool Tryd.underlying4) (opensF_cons (by rfl) (by kernel_rfl) (opens_int Tryd.underlying22) (opensF_one (by rfl) (by kernel_rfl) (opens_int Tryd.underlying22)))) (fun _ => rfl) (P := Tryd.prog) (w := w) (t := 24) (proj := (fun x : S24 => (x.f0, x.f1, x.f2)))
  exact h
theorem open60 (w : World) : Opens Tryd.prog w 60 k60 Wf60 := by
  have h := opens_struct (inj := (fun y => ⟨y.1, y.2⟩ : _ → S60)) Tryd.underlying60 (by kernel_rfl) (opensF_cons (by rfl) (by kernel_rfl) (opens_int Tryd.underlying3) (opensF_one (by rfl) (by kernel_rfl) (opens_string Tryd.underlying9))) (fun _ => rfl) (P := Tryd.prog) (w := w) (t := 60) (proj := (fun x : S60 => (x.f0, x.f1)))
  exact h
theorem open39 (w : World) : Opens Tryd.prog w 39 k39 Wf39 := by
  have h := opens_struct (inj := (fun y => ⟨y.1, y.2.1, y.2.2.1, y.2.2.2.1, y.2.2.2.2.1, y.2.2.2.2.2.1, y.2.2.2.2.2.2.1, y.2.2.2.2.2.2.2.1, y.2.2.2.2.2.2.2.2⟩ : _ → S39)) Tryd.underlying39 (by kernel_rfl) (opensF_cons (by rfl) (by kernel_rfl) (opens_int Tryd.underlying3) (opensF_cons (by rfl) (by kernel_rfl) (opens_int Tryd.underlying3) (opensF_cons (by rfl) (by kernel_rfl) (opens_int Tryd.underlying3) (opensF_cons (by rfl) (by kernel_rfl) (opens_string Tryd.underlying9) (opensF_cons (by rfl) (by kernel_rfl) (open24 w) (opensF_cons (by rfl) (by kernel_rfl) (open24 w) (opensF_cons (by rfl) (by kernel_rfl) (open24 w) (opensF_cons (by rfl) (by kernel_rfl) (opens_bool Tryd.underlying4) (opensF_one (by rfl) (by kernel_rfl) (opens_slice Tryd.underlying37 (by kernel_rfl) (b := 24) (by kernel_rfl) (open60 w))))))))))) (fun _ => rfl) (P := Tryd.prog) (w := w) (t := 39) (proj := (fun x : S39 => (x.f0, x.f1, x.f2, x.f3, x.f4, x.f5, x.f6, x.f7, x.f8)))
  exact h
theorem open41 (w : World) : Opens Tryd.prog w 41 k41 Wf41 := by
  have h := opens_struct (inj := (fun y => ⟨y.1, y.2.1, y.2.2.1, y.2.2.2⟩ : _ → S41)) Tryd.underlying41 (by kernel_rfl) (opensF_cons (by rfl) (by kernel_rfl) (opens_int Tryd.underlying5) (opensF_cons (by rfl) (by kernel_rfl) (opens_int Tryd.underlying35) (opensF_cons (by rfl) (by kernel_rfl) (open39 w) (opensF_one (by rfl) (by kernel_rfl) (opens_bool Tryd.underlying4))))) (fun _ => rfl) (P := Tryd.prog) (w := w) (t := 41) (proj := (fun x : S41 => (x.f0, x.f1, x.f2, x.f3)))
  exact h
theorem own : ownKnob Tryd.prog.godebug = none := by kernel_rfl
theorem laidOut : laidOutB Tryd.prog = true := by kernel_rfl
set_option maxRecDepth 100000 in
theorem lifted (os : Os) (started : os.Started) (H : Type) (enc : TypeId × Value → H) :
    ReturnsInHanded {} Tryd.checked os 5 .any (fun w args => (Rows.stationHoldsSpec.pre enc Tryd.prog Tryd.f5 [] false w args ∧ laidMetH Tryd.prog Rows.stationHoldsRow.laid w) ∧ sizedMet enc Tryd.prog Tryd.f5 (OpenSpec.ofChange Rows.stationHoldsSpec) false w args)
      (Rows.stationHoldsSpec.post enc Tryd.prog Tryd.f5 false true false false) := by
  refine returnsInHanded_of_change_and (C := Tryd.checked) (X := fun w _ => laidMetH Tryd.prog Rows.stationHoldsRow.laid w) (fun _ _ _ hh h => h.of_heap hh) own started (by kernel_rfl) Tryd.func5
    (ChangeSpec.witness_shaped (enc := enc) (C := Tryd.checked) (os := os) (X := fun w _ => laidMetH Tryd.prog Rows.stationHoldsRow.laid w) false (World.laidAll Tryd.prog os Rows.stationHoldsRow.laid) #[.string ByteArray.empty, .string ByteArray.empty, .int .u32 0, .slice none 0 0] 8 (World.laidAll_os _ _ _)
      (World.shaped_of_ZipB (by kernel_rfl) (by kernel_rfl)) (by kernel_rfl) (by kernel_rfl) (by kernel_rfl)
      (by rw [MakeChecks.laidMetH_plain _ _ _ (by kernel_rfl)]; exact laidMet_laidAll _ (by kernel_rfl) (by kernel_rfl))) ?_
  intro W base args ds gs before hval0 hW hcnd hsz0 _ _
  have hsz : (DataW.weightsEach Tryd.prog (Tryd.f5.params.toList ++ Rows.stationHoldsSpec.plain.varTypes Tryd.prog) (ds ++ gs)).all (· ≤ reachBytes) = true := hsz0
  have hval : ∀ (j : Nat) t v, Tryd.f5.params[j]? = some t → args[j]? = some v → Value.okWide Tryd.prog W .any base t v := hval0
  have hW' := hW
  obtain ⟨p, q, hA0, hV, rfl, hfz, hnd⟩ := hW
  have hA : DataW.TrodAll enc Tryd.prog W 0 (fun _ => true) true Tryd.f5.params.toList args.toList ds p := hA0
  rw [Tryd.params5] at hA hval hsz
  obtain ⟨v0, vs0, d0, ds0, p0, q0, hargs, rfl, rfl, h0, r0⟩ := trodAll_cons hA
  obtain ⟨v1, vs1, d1, ds1, p1, q1, rfl, rfl, rfl, h1, r1⟩ := trodAll_cons r0
  obtain ⟨v2, vs2, d2, ds2, p2, q2, rfl, rfl, rfl, h2, r2⟩ := trodAll_cons r1
  obtain ⟨v3, vs3, d3, ds3, p3, q3, rfl, rfl, rfl, h3, r3⟩ := trodAll_cons r2
  obtain ⟨rfl, rfl, rfl⟩ := trodAll_nil r3
  obtain rfl : args = #[v0, v1, v2, v3] := by cases args; simp_all
  obtain ⟨rfl, rfl⟩ := trodVars_none hV
  obtain ⟨a0, rfl, rfl, rfl, y0⟩ := open_string Tryd.underlying9 (hval 0 9 v0 rfl rfl) h0
  have w0 : a0.size ≤ 140737488351232 := by
    have z := sized_string hsz (j := 0) (t := 9) rfl rfl
    rw [Array.length_toList] at z
    exact z
  obtain ⟨a1, rfl, rfl, rfl, y1⟩ := open_string Tryd.underlying9 (hval 1 9 v1 rfl rfl) h1
  have w1 : a1.size ≤ 140737488351232 := by
    have z := sized_string hsz (j := 1) (t := 9) rfl rfl
    rw [Array.length_toList] at z
    exact z
  obtain ⟨a2, rfl, rfl, rfl, w2⟩ := open_int Tryd.underlying35 (hval 2 35 v2 rfl rfl) h2
  have k3 := h3
  have lt3 : ∀ x ∈ p3, x.block < W.heap.size := by obtain ⟨m, hm⟩ := k3; exact DataW.trod_lt m _ _ _ hm
  have hwt3 : ∀ n ∈ d3.weights Tryd.prog 36, n ≤ reachBytes := fun n hn => of_decide_eq_true (List.all_eq_true.1 hsz n (DataW.weights_mem_each (j := 3) rfl rfl n hn))
  obtain ⟨aa3, len3, cap3, rfl⟩ := okWide_slice Tryd.underlying36 (hval 3 36 v3 rfl rfl)
  obtain ⟨fuel3, hf3⟩ := h3
  obtain ⟨A3, c3, l3, hcs3, hc3, hr3, w3, z3⟩ := opens_row Tryd.underlying36 (by kernel_rfl) (b := 160) (by kernel_rfl) (open41 W) hf3 hwt3
  simp [Value.cells] at hcs3
  obtain ⟨q1, q2, q3⟩ := hcs3
  have q1 := q1.symm
  have q3 := q3.symm
  subst q1
  subst q2
  subst q3
  clear hA0 hval0 hsz0
  obtain ⟨k, h⟩ := Pure.StationHolds a0 a1 a2 l3 w0 w1 w2 w3 z3
  refine (ddilaw42_StationHolds.calls k a0 a1 a2 A3 c3 l3 true W hr3 hc3 h).mono ?_
  rintro e W' ⟨rfl, bel⟩
  exact ⟨_, rfl, _, _, _, [], _, [], hW', trodAll_mk1 (shut_bool Tryd.underlying4 _), (trodAll_cons_mk (shut_string Tryd.underlying9 y0) (trodAll_cons_mk (shut_string Tryd.underlying9 y1) (trodAll_cons_mk (shut_int Tryd.underlying35 w2) (trodAll_cons_mk (Below.trod laidOut (by kernel_rfl) (of_decide_eq_true (by kernel_rfl)) k3 bel lt3) trodAll_mk0)))), rfl, bel.frame _, fun h => by cases h⟩
theorem over : Rows.stationHoldsRow.holds Tryd.pinned (OpenSpec.ofChange Rows.stationHoldsSpec) :=
  OpenClaim.holds_of_wide 5 Tryd.f5 rfl rfl rfl rfl rfl rfl rfl ⟨rfl, rfl, rfl, rfl, rfl⟩ rfl rfl rfl rfl rfl (by kernel_rfl) Tryd.func5 (by kernel_rfl)
    (of_decide_eq_true (by kernel_rfl)) (by unfold Func.isWrapper; first | (rw [if_pos (by decide +kernel)]; kernel_rfl) | (rw [if_neg (by decide +kernel)]; exact ⟨rfl, rfl⟩))
    (fun os started H enc _ => lifted os started H enc)
theorem card : Rows.StationHoldsCardSaid :=
  Claim7.holds_tied_plain_at .later [] _ true (true, "a6bbd62534e1c859123aafa31c891a1ce500abe345e03e7316628c5c9fc5b297") false over (fun _ h => by cases h) (by kernel_rfl) (fun _ h => by cases h) stationHolds_row_tie rfl ⟨rfl, rfl⟩ (by kernel_rfl) rfl
    (fun f fn hf hfn => by
      obtain rfl : f = 5 := Option.some.inj ((show Tryd.prog.funcNamed Rows.stationHoldsRow.func = some 5 by kernel_rfl).symm.trans hf) |>.symm
      obtain rfl : fn = Tryd.f5 := (Option.some.inj (Tryd.func5.symm.trans hfn)).symm
      exact ⟨by kernel_rfl, fun j t ht => by
        rw [Tryd.params5] at ht
        have hm : t ∈ [9, 9, 35, 36] := by simpa using Array.mem_of_getElem? ht
        have hall : ([9, 9, 35, 36].all fun u => !Tryd.prog.wantsStandIn u) = true := by kernel_rfl
        exact (show Tryd.prog.wantsStandIn t = false by simpa using List.all_eq_true.1 hall t hm)⟩)
    (by kernel_rfl)
#print axioms card
end Go.Proofs.YtlabnocmmeciaaaDoor.stationHolds
namespace Go.Proofs.YtlabnocmmeciaaaDoor
/-- The card, under a short name, for the claim. -/
theorem stationHolds_card : Rows.StationHoldsCardSaid := stationHolds.card
end Go.Proofs.YtlabnocmmeciaaaDoor

