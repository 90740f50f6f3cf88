/- The row of the law OptionValues and its card: every argument is opened into the print's kinds, the printed call answers, the plain statement says what. Conditions: the arguments' sizes are those that the row allows; the listed tables are tied. -/
import Derived.Test.YtkojlapefmcjnaaDoorRows
import Derived.Test.YtkojlapefmcjnaaDoorCards
import Derived.Test.YtkojlapefmcjnaaDoorTie
import Derived.Test.YtkojlapefmcjnaaDoorOpen
import Derived.Test.YtkojlapefmcjnaaDoorPax34
import Derived.Test.YtkojlapefmcjnaaDoorAdrV
import Derived.WalkKit
import Derived.ProofKit
import Derived.OpenShut
import Derived.ShutString
import Derived.ChangeOld
import Derived.Below
import Derived.SizedLaws
import Derived.Lay
import Derived.SevenTiedAt
import Derived.LaidOnce
set_option linter.unusedVariables false
set_option linter.unusedSimpArgs false
namespace Go.Proofs.YtkojlapefmcjnaaDoor.optionValues
open Go.ChangeShapes Go.WideShapes Go.ChangeAt Go.RowKit Go.Proofs.YtkojlapefmcjnaaDoor.Opn Go.Proofs.YtkojlapefmcjnaaDoor.Pa Go.Proofs.YtkojlapefmcjnaaDoorW.PrintWords
open Go.ChangeMaps (open_string shut_string)
theorem open49 (w : World) : Opens Tryd.prog w 49 k49 Wf49 := by
  have h := opens_struct (inj := (fun y => ⟨y.1, y.2.1, y.2.2⟩ : _ → S49)) Tryd.underlying49 (by kernel_rfl) (opensF_cons (by rfl) (by kernel_rfl) (opens_bool Tryd.underlying4) (opensF_cons (by rfl) (by kernel_rfl) (opens_int Tryd.underlying47) (opensF_one (by rfl) (by kernel_rfl) (opens_int Tryd.underlying47)))) (fun _ => rfl) (P := Tryd.prog) (w := w) (t := 49) (proj := (fun x : S49 => (x.f0, x.f1, x.f2)))
  exact h
theorem own : ownKnob Tryd.prog.godebug = none := by kernel_rfl
theorem laidOut : laidOutB Tryd.prog = true := by kernel_rfl
set_option maxRecDepth 100000 in
theorem lifted (os : Os) (started : os.Started) (H : Type) (enc : TypeId × Value → H) :
    ReturnsInHanded {} Tryd.checked os 10 .any (fun w args => (Rows.optionValuesSpec.pre enc Tryd.prog Tryd.f10 [] false w args ∧ laidMetH Tryd.prog Rows.optionValuesRow.laid w) ∧ sizedMet enc Tryd.prog Tryd.f10 (OpenSpec.ofChange Rows.optionValuesSpec) false w args)
      (Rows.optionValuesSpec.post enc Tryd.prog Tryd.f10 false true false false) := by
  refine returnsInHanded_of_change_and (C := Tryd.checked) (X := fun w _ => laidMetH Tryd.prog Rows.optionValuesRow.laid w) (fun _ _ _ hh h => h.of_heap hh) own started (by kernel_rfl) Tryd.func10
    (ChangeSpec.witness_shaped (enc := enc) (C := Tryd.checked) (os := os) (X := fun w _ => laidMetH Tryd.prog Rows.optionValuesRow.laid w) false (World.laidAll Tryd.prog os Rows.optionValuesRow.laid) #[.slice none 0 0] 8 (World.laidAll_os _ _ _)
      (World.shaped_of_ZipB (by kernel_rfl) (by kernel_rfl)) (by kernel_rfl) (by kernel_rfl) (by kernel_rfl)
      (by rw [MakeChecks.laidMetH_plain _ _ _ (by kernel_rfl)]; exact laidMet_laidAll _ (by kernel_rfl) (by kernel_rfl))) ?_
  intro W base args ds gs before hval0 hW hcnd hsz0 _ _
  have hsz : (DataW.weightsEach Tryd.prog (Tryd.f10.params.toList ++ Rows.optionValuesSpec.plain.varTypes Tryd.prog) (ds ++ gs)).all (· ≤ reachBytes) = true := hsz0
  have hval : ∀ (j : Nat) t v, Tryd.f10.params[j]? = some t → args[j]? = some v → Value.okWide Tryd.prog W .any base t v := hval0
  have hW' := hW
  obtain ⟨p, q, hA0, hV, rfl, hfz, hnd⟩ := hW
  have hA : DataW.TrodAll enc Tryd.prog W 0 (fun _ => true) true Tryd.f10.params.toList args.toList ds p := hA0
  rw [Tryd.params10] at hA hval hsz
  obtain ⟨v0, vs0, d0, ds0, p0, q0, hargs, rfl, rfl, h0, r0⟩ := trodAll_cons hA
  obtain ⟨rfl, rfl, rfl⟩ := trodAll_nil r0
  obtain rfl : args = #[v0] := by cases args; simp_all
  obtain ⟨rfl, rfl⟩ := trodVars_none hV
  have k0 := h0
  have lt0 : ∀ x ∈ p0, x.block < W.heap.size := by obtain ⟨m, hm⟩ := k0; exact DataW.trod_lt m _ _ _ hm
  have hwt0 : ∀ n ∈ d0.weights Tryd.prog 41, n ≤ reachBytes := fun n hn => of_decide_eq_true (List.all_eq_true.1 hsz n (DataW.weights_mem_each (j := 0) rfl rfl n hn))
  obtain ⟨aa0, len0, cap0, rfl⟩ := okWide_slice Tryd.underlying41 (hval 0 41 v0 rfl rfl)
  obtain ⟨fuel0, hf0⟩ := h0
  obtain ⟨A0, c0, l0, hcs0, hc0, hr0, w0, z0⟩ := opens_row Tryd.underlying41 (by kernel_rfl) (b := 24) (by kernel_rfl) (open49 W) hf0 hwt0
  simp [Value.cells] at hcs0
  obtain ⟨q1, q2, q3⟩ := hcs0
  have q1 := q1.symm
  have q3 := q3.symm
  subst q1
  subst q2
  subst q3
  clear hA0 hval0 hsz0
  obtain ⟨k, h⟩ := Pure.OptionValues l0 w0 z0
  refine (ddilaw35_OptionValues.calls k A0 c0 l0 true W hr0 hc0 h).mono ?_
  rintro e W' ⟨rfl, bel⟩
  exact ⟨_, rfl, _, _, _, [], _, [], hW', trodAll_mk1 (shut_bool Tryd.underlying4 _), (trodAll_cons_mk (Below.trod laidOut (by kernel_rfl) (of_decide_eq_true (by kernel_rfl)) k0 bel lt0) trodAll_mk0), rfl, bel.frame _, fun h => by cases h⟩
theorem over : Rows.optionValuesRow.holds Tryd.pinned (OpenSpec.ofChange Rows.optionValuesSpec) :=
  OpenClaim.holds_of_wide 10 Tryd.f10 rfl rfl rfl rfl rfl rfl rfl ⟨rfl, rfl, rfl, rfl, rfl⟩ rfl rfl rfl rfl rfl (by kernel_rfl) Tryd.func10 (by kernel_rfl)
    (of_decide_eq_true (by kernel_rfl)) (by unfold Func.isWrapper; first | (rw [if_pos (by decide +kernel)]; kernel_rfl) | (rw [if_neg (by decide +kernel)]; exact ⟨rfl, rfl⟩))
    (fun os started H enc _ => lifted os started H enc)
theorem card : Rows.OptionValuesCardSaid :=
  Claim7.holds_tied_plain_at .later [] _ true (true, "453348f751e06727a078dc915ec95349793e771bb43992cd95d8ccbbd690325b") false over (fun _ h => by cases h) (by kernel_rfl) (fun _ h => by cases h) optionValues_row_tie rfl ⟨rfl, rfl⟩ (by kernel_rfl) rfl
    (fun f fn hf hfn => by
      obtain rfl : f = 10 := Option.some.inj ((show Tryd.prog.funcNamed Rows.optionValuesRow.func = some 10 by kernel_rfl).symm.trans hf) |>.symm
      obtain rfl : fn = Tryd.f10 := (Option.some.inj (Tryd.func10.symm.trans hfn)).symm
      exact ⟨by kernel_rfl, fun j t ht => by
        rw [Tryd.params10] at ht
        have hm : t ∈ [41] := by simpa using Array.mem_of_getElem? ht
        have hall : ([41].all fun u => !Tryd.prog.wantsStandIn u) = true := by kernel_rfl
        exact (show Tryd.prog.wantsStandIn t = false by simpa using List.all_eq_true.1 hall t hm)⟩)
    (by kernel_rfl)
#print axioms card
end Go.Proofs.YtkojlapefmcjnaaDoor.optionValues
namespace Go.Proofs.YtkojlapefmcjnaaDoor
/-- The card, under a short name, for the claim. -/
theorem optionValues_card : Rows.OptionValuesCardSaid := optionValues.card
end Go.Proofs.YtkojlapefmcjnaaDoor
