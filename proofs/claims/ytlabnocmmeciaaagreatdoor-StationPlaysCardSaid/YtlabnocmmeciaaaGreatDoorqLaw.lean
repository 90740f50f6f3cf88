/- The row of the law StationPlays and its card: every argument is opened into the print's kinds, the printed call answers, the plain statement says what. Conditions: the arguments' sizes are those that the row allows; the listed tables are tied. -/
import Derived.Test.YtlabnocmmeciaaaGreatDoorRows
import Derived.Test.YtlabnocmmeciaaaGreatDoorCards
import Derived.Test.YtlabnocmmeciaaaGreatDoorTie
import Derived.Test.YtlabnocmmeciaaaGreatDoorq3
import Derived.Test.YtlabnocmmeciaaaGreatDoorq10
import Derived.Test.YtlabnocmmeciaaaGreatDoorq11
import Derived.WalkKit
import Derived.ProofKit
import Derived.OpenShut
import Derived.ShutString
import Derived.ChangeOld
import Derived.Below
import Derived.SizedLaws
import Derived.Lay
import Derived.SevenTiedAt
import Derived.LaidOnce
set_option linter.unusedVariables false
set_option linter.unusedSimpArgs false
set_option maxRecDepth 100000
namespace Go.Proofs.YtlabnocmmeciaaaGreatDoor.stationPlays
open ChangeShapes WideShapes ChangeAt RowKit Opn Pa YtlabnocmmeciaaaGreatDoorW.PrintWords
open ChangeMaps (open_string shut_string)
theorem open26 (w : World) : Opens Tryz.prog w 26 k26 Wf26 := by
  have h := opens_struct (inj := (fun y => ⟨y.1, y.2.1, y.2.2⟩ : _ → S26)) Tryz.underlying26 (by kernel_rfl) (opensF_cons (by rfl) (by kernel_rfl) (opens_bool Tryz.underlying4) (opensF_cons (by rfl) (by kernel_rfl) (opens_int Tryz.underlying24) (opensF_one (by rfl) (by kernel_rfl) (opens_int Tryz.underlying24)))) (fun _ => rfl) (P := Tryz.prog) (w := w) (t := 26) (proj := (fun x : S26 => (x.f0, x.f1, x.f2)))
  exact h
theorem open62 (w : World) : Opens Tryz.prog w 62 k62 Wf62 := by
  have h := opens_struct (inj := (fun y => ⟨y.1, y.2⟩ : _ → S62)) Tryz.underlying62 (by kernel_rfl) (opensF_cons (by rfl) (by kernel_rfl) (opens_int Tryz.underlying3) (opensF_one (by rfl) (by kernel_rfl) (opens_string Tryz.underlying9))) (fun _ => rfl) (P := Tryz.prog) (w := w) (t := 62) (proj := (fun x : S62 => (x.f0, x.f1)))
  exact h
theorem open38 (w : World) : Opens Tryz.prog w 38 k38 Wf38 := by
  have h := opens_struct (inj := (fun y => ⟨y.1, y.2.1, y.2.2.1, y.2.2.2.1, y.2.2.2.2.1, y.2.2.2.2.2.1, y.2.2.2.2.2.2.1, y.2.2.2.2.2.2.2.1, y.2.2.2.2.2.2.2.2⟩ : _ → S38)) Tryz.underlying38 (by kernel_rfl) (opensF_cons (by rfl) (by kernel_rfl) (opens_int Tryz.underlying3) (opensF_cons (by rfl) (by kernel_rfl) (opens_int Tryz.underlying3) (opensF_cons (by rfl) (by kernel_rfl) (opens_int Tryz.underlying3) (opensF_cons (by rfl) (by kernel_rfl) (opens_string Tryz.underlying9) (opensF_cons (by rfl) (by kernel_rfl) (open26 w) (opensF_cons (by rfl) (by kernel_rfl) (open26 w) (opensF_cons (by rfl) (by kernel_rfl) (open26 w) (opensF_cons (by rfl) (by kernel_rfl) (opens_bool Tryz.underlying4) (opensF_one (by rfl) (by kernel_rfl) (opens_slice Tryz.underlying36 (by kernel_rfl) (b := 24) (by kernel_rfl) (open62 w))))))))))) (fun _ => rfl) (P := Tryz.prog) (w := w) (t := 38) (proj := (fun x : S38 => (x.f0, x.f1, x.f2, x.f3, x.f4, x.f5, x.f6, x.f7, x.f8)))
  exact h
theorem open40 (w : World) : Opens Tryz.prog w 40 k40 Wf40 := by
  have h := opens_struct (inj := (fun y => ⟨y.1, y.2.1, y.2.2.1, y.2.2.2⟩ : _ → S40)) Tryz.underlying40 (by kernel_rfl) (opensF_cons (by rfl) (by kernel_rfl) (opens_int Tryz.underlying5) (opensF_cons (by rfl) (by kernel_rfl) (opens_int Tryz.underlying22) (opensF_cons (by rfl) (by kernel_rfl) (open38 w) (opensF_one (by rfl) (by kernel_rfl) (opens_bool Tryz.underlying4))))) (fun _ => rfl) (P := Tryz.prog) (w := w) (t := 40) (proj := (fun x : S40 => (x.f0, x.f1, x.f2, x.f3)))
  exact h
theorem own : ownKnob Tryz.prog.godebug = none := by kernel_rfl
theorem laidOut : laidOutB Tryz.prog = true := by kernel_rfl
theorem lifted (os : Os) (started : os.Started) (H : Type) (enc : TypeId × Value → H) :
    ReturnsInHanded {} Tryz.checked os 3 .any (fun w args => (Rows.stationPlaysSpec.pre enc Tryz.prog Tryz.f3 [] false w args ∧ laidMetH Tryz.prog Rows.stationPlaysRow.laid w) ∧ sizedMet enc Tryz.prog Tryz.f3 (OpenSpec.ofChange Rows.stationPlaysSpec) false w args)
      (Rows.stationPlaysSpec.post enc Tryz.prog Tryz.f3 false true false false) := by
  refine returnsInHanded_of_change_and (C := Tryz.checked) (X := fun w _ => laidMetH Tryz.prog Rows.stationPlaysRow.laid w) (fun _ _ _ hh h => h.of_heap hh) own started (by kernel_rfl) Tryz.func3
    (ChangeSpec.witness_shaped (enc := enc) (C := Tryz.checked) (os := os) (X := fun w _ => laidMetH Tryz.prog Rows.stationPlaysRow.laid w) false (World.laidAll Tryz.prog os Rows.stationPlaysRow.laid) #[.string ByteArray.empty, .string ByteArray.empty, .int .u32 0, .slice none 0 0] 8 (World.laidAll_os _ _ _)
      (World.shaped_of_ZipB (by kernel_rfl) (by kernel_rfl)) (by kernel_rfl) (by kernel_rfl) (by kernel_rfl)
      (by rw [MakeChecks.laidMetH_plain _ _ _ (by kernel_rfl)]; exact laidMet_laidAll _ (by kernel_rfl) (by kernel_rfl))) ?_
  intro W base args ds gs before hval0 hW hcnd hsz0 _ _
  have hsz : (DataW.weightsEach Tryz.prog (Tryz.f3.params.toList ++ Rows.stationPlaysSpec.plain.varTypes Tryz.prog) (ds ++ gs)).all (· ≤ reachBytes) = true := hsz0
  have hval : ∀ (j : Nat) t v, Tryz.f3.params[j]? = some t → args[j]? = some v → Value.okWide Tryz.prog W .any base t v := hval0
  have hW' := hW
  obtain ⟨p, q, hA0, hV, rfl, hfz, hnd⟩ := hW
  have hA : DataW.TrodAll enc Tryz.prog W 0 (fun _ => true) true Tryz.f3.params.toList args.toList ds p := hA0
  rw [Tryz.params3] at hA hval hsz
  obtain ⟨v0, vs0, d0, ds0, p0, q0, hargs, rfl, rfl, h0, r0⟩ := trodAll_cons hA
  obtain ⟨v1, vs1, d1, ds1, p1, q1, rfl, rfl, rfl, h1, r1⟩ := trodAll_cons r0
  obtain ⟨v2, vs2, d2, ds2, p2, q2, rfl, rfl, rfl, h2, r2⟩ := trodAll_cons r1
  obtain ⟨v3, vs3, d3, ds3, p3, q3, rfl, rfl, rfl, h3, r3⟩ := trodAll_cons r2
  obtain ⟨rfl, rfl, rfl⟩ := trodAll_nil r3
  obtain rfl : args = #[v0, v1, v2, v3] := by cases args; simp_all
  obtain ⟨rfl, rfl⟩ := trodVars_none hV
  obtain ⟨a0, rfl, rfl, rfl, y0⟩ := open_string Tryz.underlying9 (hval 0 9 v0 rfl rfl) h0
  have w0 : a0.size ≤ 140737488351232 := by
    have z := sized_string hsz (j := 0) (t := 9) rfl rfl
    rw [Array.length_toList] at z
    exact z
  obtain ⟨a1, rfl, rfl, rfl, y1⟩ := open_string Tryz.underlying9 (hval 1 9 v1 rfl rfl) h1
  have w1 : a1.size ≤ 140737488351232 := by
    have z := sized_string hsz (j := 1) (t := 9) rfl rfl
    rw [Array.length_toList] at z
    exact z
  obtain ⟨a2, rfl, rfl, rfl, w2⟩ := open_int Tryz.underlying22 (hval 2 22 v2 rfl rfl) h2
  have k3 := h3
  have lt3 : ∀ x ∈ p3, x.block < W.heap.size := by obtain ⟨m, hm⟩ := k3; exact DataW.trod_lt m _ _ _ hm
  have hwt3 : ∀ n ∈ d3.weights Tryz.prog 23, n ≤ reachBytes := fun n hn => of_decide_eq_true (List.all_eq_true.1 hsz n (DataW.weights_mem_each (j := 3) rfl rfl n hn))
  obtain ⟨aa3, len3, cap3, rfl⟩ := okWide_slice Tryz.underlying23 (hval 3 23 v3 rfl rfl)
  obtain ⟨fuel3, hf3⟩ := h3
  obtain ⟨A3, c3, l3, hcs3, hc3, hr3, w3, z3⟩ := opens_row Tryz.underlying23 (by kernel_rfl) (b := 160) (by kernel_rfl) (open40 W) hf3 hwt3
  simp [Value.cells] at hcs3
  obtain ⟨q1, q2, q3⟩ := hcs3
  have q1 := q1.symm
  have q3 := q3.symm
  subst q1
  subst q2
  subst q3
  clear hA0 hval0 hsz0
  obtain ⟨k, h⟩ := Pure.StationPlays a0 a1 a2 l3 w0 w1 w2 w3 z3
  refine (ddilaw42_StationPlays.calls k a0 a1 a2 A3 c3 l3 true W hr3 hc3 h).mono ?_
  rintro e W' ⟨rfl, bel⟩
  exact ⟨_, rfl, _, _, _, [], _, [], hW', trodAll_mk1 (shut_bool Tryz.underlying4 _), (trodAll_cons_mk (shut_string Tryz.underlying9 y0) (trodAll_cons_mk (shut_string Tryz.underlying9 y1) (trodAll_cons_mk (shut_int Tryz.underlying22 w2) (trodAll_cons_mk (Below.trod laidOut (by kernel_rfl) (of_decide_eq_true (by kernel_rfl)) k3 bel lt3) trodAll_mk0)))), rfl, bel.frame _, fun h => by cases h⟩
theorem over : Rows.stationPlaysRow.holds Tryz.pinned (OpenSpec.ofChange Rows.stationPlaysSpec) :=
  OpenClaim.holds_of_wide 3 Tryz.f3 rfl rfl rfl rfl rfl rfl rfl ⟨rfl, rfl, rfl, rfl, rfl⟩ rfl rfl rfl rfl rfl (by kernel_rfl) Tryz.func3 (by kernel_rfl)
    (of_decide_eq_true (by kernel_rfl)) (by unfold Func.isWrapper; first | (rw [if_pos (by decide +kernel)]; kernel_rfl) | (rw [if_neg (by decide +kernel)]; exact ⟨rfl, rfl⟩))
    (fun os started H enc _ => lifted os started H enc)
theorem card : Rows.StationPlaysCardSaid :=
  Claim7.holds_tied_plain_at .later [] _ true (true, "2f86e1d12ef7d4b29fcbdf8b5813907409865b8eedf0327eb54fe05273681971") false over (fun _ h => by cases h) (by kernel_rfl) (fun _ h => by cases h) stationPlays_row_tie rfl ⟨rfl, rfl⟩ (by kernel_rfl) rfl
    (fun f fn hf hfn => by
      obtain rfl : f = 3 := Option.some.inj ((show Tryz.prog.funcNamed Rows.stationPlaysRow.func = some 3 by kernel_rfl).symm.trans hf) |>.symm
      obtain rfl : fn = Tryz.f3 := (Option.some.inj (Tryz.func3.symm.trans hfn)).symm
      exact ⟨by kernel_rfl, fun j t ht => by
        rw [Tryz.params3] at ht
        have hm : t ∈ [9, 9, 22, 23] := by simpa using Array.mem_of_getElem? ht
        have hall : ([9, 9, 22, 23].all fun u => !Tryz.prog.wantsStandIn u) = true := by kernel_rfl
        exact (show Tryz.prog.wantsStandIn t = false by simpa using List.all_eq_true.1 hall t hm)⟩)
    (by kernel_rfl)
#print axioms card
end Go.Proofs.YtlabnocmmeciaaaGreatDoor.stationPlays
namespace Go.Proofs.YtlabnocmmeciaaaGreatDoor
/-- The card, under a short name, for the claim. -/
theorem stationPlays_card : Rows.StationPlaysCardSaid := stationPlays.card
end Go.Proofs.YtlabnocmmeciaaaGreatDoor
