/- The row of the law DhcpBack and its card: every argument is opened into the print's kinds, the printed call answers, the plain statement says what. Conditions: the arguments' sizes are those that the row allows; the listed tables are tied. -/
import Derived.Test.YtcoekgnbncocnaaDoorRows
import Derived.Test.YtcoekgnbncocnaaDoorCards
import Derived.Test.YtcoekgnbncocnaaDoorTie
import Derived.Test.YtcoekgnbncocnaaDoorBa3
import Derived.Test.YtcoekgnbncocnaaDoorBa5
import Derived.Test.YtcoekgnbncocnaaDoorBa6
import Derived.WalkKit
import Derived.ProofKit
import Derived.OpenShut
import Derived.ShutString
import Derived.ChangeOld
import Derived.Below
import Derived.SizedLaws
import Derived.Lay
import Derived.SevenTiedAt
import Derived.LaidOnce
set_option linter.unusedVariables false
set_option linter.unusedSimpArgs false
namespace Go.Proofs.YtcoekgnbncocnaaDoor.dhcpBack
open Go.ChangeShapes Go.WideShapes Go.ChangeAt Go.RowKit Go.Proofs.YtcoekgnbncocnaaDoor.Opn Go.Proofs.YtcoekgnbncocnaaDoor.Pa Go.Proofs.YtcoekgnbncocnaaDoorW.PrintWords
open Go.ChangeMaps (open_string shut_string)
theorem open61 (w : World) : Opens Tryd.prog w 61 k61 Wf61 := by
  have h := opens_struct (inj := (fun y => ⟨y.1, y.2⟩ : _ → S61)) Tryd.underlying61 (by kernel_rfl) (opensF_cons (by rfl) (by kernel_rfl) (opens_int Tryd.underlying3) (opensF_one (by rfl) (by kernel_rfl) (opens_string Tryd.underlying9))) (fun _ => rfl) (P := Tryd.prog) (w := w) (t := 61) (proj := (fun x : S61 => (x.f0, x.f1)))
  exact h
theorem own : ownKnob Tryd.prog.godebug = none := by kernel_rfl
theorem laidOut : laidOutB Tryd.prog = true := by kernel_rfl
set_option maxRecDepth 100000 in
theorem lifted (os : Os) (started : os.Started) (H : Type) (enc : TypeId × Value → H) :
    ReturnsInHanded {} Tryd.checked os 8 .any (fun w args => (Rows.dhcpBackSpec.pre enc Tryd.prog Tryd.f8 [] false w args ∧ laidMetH Tryd.prog Rows.dhcpBackRow.laid w) ∧ sizedMet enc Tryd.prog Tryd.f8 (OpenSpec.ofChange Rows.dhcpBackSpec) false w args)
      (Rows.dhcpBackSpec.post enc Tryd.prog Tryd.f8 false true false false) := by
  refine returnsInHanded_of_change_and (C := Tryd.checked) (X := fun w _ => laidMetH Tryd.prog Rows.dhcpBackRow.laid w) (fun _ _ _ hh h => h.of_heap hh) own started (by kernel_rfl) Tryd.func8
    (ChangeSpec.witness_shaped (enc := enc) (C := Tryd.checked) (os := os) (X := fun w _ => laidMetH Tryd.prog Rows.dhcpBackRow.laid w) false (World.laidAll Tryd.prog os Rows.dhcpBackRow.laid) #[.agg #[.int .i64 0, .int .i64 0, .int .i64 0, .string ByteArray.empty, .bool false, .int .u64 0, .int .u64 0, .bool false, .int .u64 0, .int .u64 0, .bool false, .int .u64 0, .int .u64 0, .bool false, .slice none 0 0], .string ByteArray.empty, .int .i64 0] 8 (World.laidAll_os _ _ _)
      (World.shaped_of_ZipB (by kernel_rfl) (by kernel_rfl)) (by kernel_rfl) (by kernel_rfl) (by kernel_rfl)
      (by rw [MakeChecks.laidMetH_plain _ _ _ (by kernel_rfl)]; exact laidMet_laidAll _ (by kernel_rfl) (by kernel_rfl))) ?_
  intro W base args ds gs before hval0 hW hcnd hsz0 _ _
  have hsz : (DataW.weightsEach Tryd.prog (Tryd.f8.params.toList ++ Rows.dhcpBackSpec.plain.varTypes Tryd.prog) (ds ++ gs)).all (· ≤ reachBytes) = true := hsz0
  have hval : ∀ (j : Nat) t v, Tryd.f8.params[j]? = some t → args[j]? = some v → Value.okWide Tryd.prog W .any base t v := hval0
  have hW' := hW
  obtain ⟨p, q, hA0, hV, rfl, hfz, hnd⟩ := hW
  have hA : DataW.TrodAll enc Tryd.prog W 0 (fun _ => true) true Tryd.f8.params.toList args.toList ds p := hA0
  rw [Tryd.params8] at hA hval hsz
  obtain ⟨v0, vs0, d0, ds0, p0, q0, hargs, rfl, rfl, h0, r0⟩ := trodAll_cons hA
  obtain ⟨v1, vs1, d1, ds1, p1, q1, rfl, rfl, rfl, h1, r1⟩ := trodAll_cons r0
  obtain ⟨v2, vs2, d2, ds2, p2, q2, rfl, rfl, rfl, h2, r2⟩ := trodAll_cons r1
  obtain ⟨rfl, rfl, rfl⟩ := trodAll_nil r2
  obtain rfl : args = #[v0, v1, v2] := by cases args; simp_all
  obtain ⟨rfl, rfl⟩ := trodVars_none hV
  have k0 := h0
  have lt0 : ∀ x ∈ p0, x.block < W.heap.size := by obtain ⟨m, hm⟩ := k0; exact DataW.trod_lt m _ _ _ hm
  have hwt0 : ∀ n ∈ d0.weights Tryd.prog 27, n ≤ reachBytes := fun n hn => of_decide_eq_true (List.all_eq_true.1 hsz n (DataW.weights_mem_each (j := 0) rfl rfl n hn))
  obtain ⟨cs0, rfl, _⟩ := okWide_struct Tryd.underlying27 (hval 0 27 v0 rfl rfl)
  obtain ⟨fuel0, hf0⟩ := h0
  have ho0 : ∃ y, ((Kd.pair (Kd.int .i64) (Kd.pair (Kd.int .i64) (Kd.pair (Kd.int .i64) (Kd.pair Kd.string (Kd.pair (Kd.pair Kd.bool (Kd.pair (Kd.int .u64) (Kd.int .u64))) (Kd.pair (Kd.pair Kd.bool (Kd.pair (Kd.int .u64) (Kd.int .u64))) (Kd.pair (Kd.pair Kd.bool (Kd.pair (Kd.int .u64) (Kd.int .u64))) (Kd.pair Kd.bool (Kd.slice 61 k61)))))))))).K W y cs0.toList ∧ _ := (opens_tuple Tryd.underlying27 (by kernel_rfl) (opensF_cons (by rfl) (by kernel_rfl) (opens_int Tryd.underlying3) (opensF_cons (by rfl) (by kernel_rfl) (opens_int Tryd.underlying3) (opensF_cons (by rfl) (by kernel_rfl) (opens_int Tryd.underlying3) (opensF_cons (by rfl) (by kernel_rfl) (opens_string Tryd.underlying9) (opensF_cons (by rfl) (by kernel_rfl) (opens_tuple Tryd.underlying24 (by kernel_rfl) (opensF_cons (by rfl) (by kernel_rfl) (opens_bool Tryd.underlying4) (opensF_cons (by rfl) (by kernel_rfl) (opens_int Tryd.underlying22) (opensF_one (by rfl) (by kernel_rfl) (opens_int Tryd.underlying22))))) (opensF_cons (by rfl) (by kernel_rfl) (opens_tuple Tryd.underlying24 (by kernel_rfl) (opensF_cons (by rfl) (by kernel_rfl) (opens_bool Tryd.underlying4) (opensF_cons (by rfl) (by kernel_rfl) (opens_int Tryd.underlying22) (opensF_one (by rfl) (by kernel_rfl) (opens_int Tryd.underlying22))))) (opensF_cons (by rfl) (by kernel_rfl) (opens_tuple Tryd.underlying24 (by kernel_rfl) (opensF_cons (by rfl) (by kernel_rfl) (opens_bool Tryd.underlying4) (opensF_cons (by rfl) (by kernel_rfl) (opens_int Tryd.underlying22) (opensF_one (by rfl) (by kernel_rfl) (opens_int Tryd.underlying22))))) (opensF_cons (by rfl) (by kernel_rfl) (opens_bool Tryd.underlying4) (opensF_one (by rfl) (by kernel_rfl) (opens_slice Tryd.underlying25 (by kernel_rfl) (b := 24) (by kernel_rfl) (open61 W)))))))))))) _ enc 0 _ true fuel0 _ _ hf0 hwt0
  obtain ⟨⟨a0_0, a0_1, a0_2, a0_3, ⟨a0_4, a0_5, a0_6⟩, ⟨a0_7, a0_8, a0_9⟩, ⟨a0_10, a0_11, a0_12⟩, a0_13, l0_14⟩, ⟨_, _, hcs0, rfl, ⟨_, _, rfl, rfl, ⟨_, _, rfl, rfl, ⟨_, _, rfl, rfl, ⟨_, _, rfl, ⟨_, _, rfl, rfl, ⟨_, _, rfl, rfl, rfl⟩⟩, ⟨_, _, rfl, ⟨_, _, rfl, rfl, ⟨_, _, rfl, rfl, rfl⟩⟩, ⟨_, _, rfl, ⟨_, _, rfl, rfl, ⟨_, _, rfl, rfl, rfl⟩⟩, ⟨_, _, rfl, rfl, ⟨A0_14, c0_14, rfl, hc0_14, hr0_14⟩⟩⟩⟩⟩⟩⟩⟩⟩, ⟨w0_0, w0_1, w0_2, w0_3, ⟨w0_4, w0_5, w0_6⟩, ⟨w0_7, w0_8, w0_9⟩, ⟨w0_10, w0_11, w0_12⟩, w0_13, ⟨w0_14, z0_14⟩⟩⟩ := ho0
  obtain rfl : cs0 = #[.int .i64 a0_0, .int .i64 a0_1, .int .i64 a0_2, .string a0_3, .bool a0_4, .int .u64 a0_5, .int .u64 a0_6, .bool a0_7, .int .u64 a0_8, .int .u64 a0_9, .bool a0_10, .int .u64 a0_11, .int .u64 a0_12, .bool a0_13, .slice A0_14 l0_14.length c0_14] := by
    apply Array.toList_inj.1
    exact hcs0
  clear hcs0
  obtain ⟨a1, rfl, rfl, rfl, y1⟩ := open_string Tryd.underlying9 (hval 1 9 v1 rfl rfl) h1
  have w1 : a1.size ≤ 140737488351232 := by
    have z := sized_string hsz (j := 1) (t := 9) rfl rfl
    rw [Array.length_toList] at z
    exact z
  obtain ⟨a2, rfl, rfl, rfl, w2⟩ := open_int Tryd.underlying3 (hval 2 3 v2 rfl rfl) h2
  clear hA0 hval0 hsz0
  obtain ⟨k, h⟩ := Pure.DhcpBack a0_0 a0_1 a0_2 a0_3 a0_4 a0_5 a0_6 a0_7 a0_8 a0_9 a0_10 a0_11 a0_12 a0_13 l0_14 a1 a2 w0_0 w0_1 w0_2 w0_3 w0_5 w0_6 w0_8 w0_9 w0_11 w0_12 w0_14 z0_14 w1 w2
  refine (ddilaw36_DhcpBack.calls k a0_0 a0_1 a0_2 a0_3 a0_4 a0_5 a0_6 a0_7 a0_8 a0_9 a0_10 a0_11 a0_12 a0_13 A0_14 c0_14 l0_14 a1 a2 true W hr0_14 hc0_14 h).mono ?_
  rintro e W' ⟨rfl, bel⟩
  exact ⟨_, rfl, _, _, _, [], _, [], hW', trodAll_mk1 (shut_bool Tryd.underlying4 _), (trodAll_cons_mk (Below.trod laidOut (by kernel_rfl) (of_decide_eq_true (by kernel_rfl)) k0 bel lt0) (trodAll_cons_mk (shut_string Tryd.underlying9 y1) (trodAll_cons_mk (shut_int Tryd.underlying3 w2) trodAll_mk0))), rfl, bel.frame _, fun h => by cases h⟩
theorem over : Rows.dhcpBackRow.holds Tryd.pinned (OpenSpec.ofChange Rows.dhcpBackSpec) :=
  OpenClaim.holds_of_wide 8 Tryd.f8 rfl rfl rfl rfl rfl rfl rfl ⟨rfl, rfl, rfl, rfl, rfl⟩ rfl rfl rfl rfl rfl (by kernel_rfl) Tryd.func8 (by kernel_rfl)
    (of_decide_eq_true (by kernel_rfl)) (by unfold Func.isWrapper; first | (rw [if_pos (by decide +kernel)]; kernel_rfl) | (rw [if_neg (by decide +kernel)]; exact ⟨rfl, rfl⟩))
    (fun os started H enc _ => lifted os started H enc)
theorem card : Rows.DhcpBackCardSaid :=
  Claim7.holds_tied_plain_at .later [] _ true (true, "d25cc30c811a7032c61471d4774ac533c9dc4aef1cbd0edcdaa7e2a5b763abe9") false over (fun _ h => by cases h) (by kernel_rfl) (fun _ h => by cases h) dhcpBack_row_tie rfl ⟨rfl, rfl⟩ (by kernel_rfl) rfl
    (fun f fn hf hfn => by
      obtain rfl : f = 8 := Option.some.inj ((show Tryd.prog.funcNamed Rows.dhcpBackRow.func = some 8 by kernel_rfl).symm.trans hf) |>.symm
      obtain rfl : fn = Tryd.f8 := (Option.some.inj (Tryd.func8.symm.trans hfn)).symm
      exact ⟨by kernel_rfl, fun j t ht => by
        rw [Tryd.params8] at ht
        have hm : t ∈ [27, 9, 3] := by simpa using Array.mem_of_getElem? ht
        have hall : ([27, 9, 3].all fun u => !Tryd.prog.wantsStandIn u) = true := by kernel_rfl
        exact (show Tryd.prog.wantsStandIn t = false by simpa using List.all_eq_true.1 hall t hm)⟩)
    (by kernel_rfl)
#print axioms card
end Go.Proofs.YtcoekgnbncocnaaDoor.dhcpBack
namespace Go.Proofs.YtcoekgnbncocnaaDoor
/-- The card, under a short name, for the claim. -/
theorem dhcpBack_card : Rows.DhcpBackCardSaid := dhcpBack.card
end Go.Proofs.YtcoekgnbncocnaaDoor

