/- The plain statement of the law MinimizeSteps. -/
import Derived.Test.YtannhjclhdennaaDoorMinR
import Derived.Test.YtannhjclhdennaaDoorPax16
namespace Go.Proofs.YtannhjclhdennaaDoor.Pa
open Go.RowKit Go.Proofs.YtannhjclhdennaaDoorW.PrintWords Go.Proofs.YtannhjclhdennaaDoorW.PrintLast Go.Proofs.YtannhjclhdennaaDoor.DN
set_option linter.unusedVariables false
set_option linter.unusedSimpArgs false
theorem eq_l0 (k0 : Nat) (hk0 : 1400 ≤ k0) (l : List S23) (hl : l.length ≤ 1000000) : ∀ d i k : Nat, i + d = l.length → d + k0 < k → ddilaw31_MinimizeSteps.l0 k l l i = some true := by
  intro d
  induction d with
  | zero =>
    intro i k hd hk
    obtain ⟨k, rfl⟩ : ∃ j, k = j + 1 := ⟨k - 1, by omega⟩
    simp only [ddilaw31_MinimizeSteps.l0]
    rw [if_neg (by omega), awake_f k (by omega)]; rfl
  | succ d ih =>
    intro i k hd hk
    obtain ⟨k, rfl⟩ : ∃ j, k = j + 1 := ⟨k - 1, by omega⟩
    have hw : wrap64 ((i : Int) + 1) = ((i + 1 : Nat) : Int) := by rw [wrap_id (by omega) (by omega)]; omega
    simp only [ddilaw31_MinimizeSteps.l0]
    rw [if_pos (by omega), if_pos (by omega), if_pos (by omega), if_neg (by simp), hw, ih (i + 1) k (by omega) (by omega)]

theorem MinimizeSteps_pure (q : ByteArray) (qt : Int) (z : ByteArray) (hq : q.size ≤ 140737488351232) (hz : z.size ≤ 140737488351232) : ∃ k, ddilaw31_MinimizeSteps.f k q qt z = some true := by
  refine ⟨2000, ?_⟩
  have hlen : 1 ≤ (stepsS q qt z 11 0).length ∧ (stepsS q qt z 11 0).length ≤ 11 := steps_len q qt z 10 0
  unfold ddilaw31_MinimizeSteps.f
  rw [steps_f q qt z hq hz 2000 (by omega), rsteps_f q qt z hq hz 2000 (by omega), reveal_f q qt z hq hz 2000 (by omega), rreveal_f q qt z hq hz 2000 (by omega)]
  simp only [Option.bind_some, if_true, bne_self_eq_false]
  rw [show (2000 : Nat) = 1999 + 1 from rfl]
  simp only [ddilaw31_MinimizeSteps.j0]
  rw [if_neg (by decide)]
  exact eq_l0 1400 (Nat.le_refl _) _ (by omega) (stepsS q qt z 11 0).length 0 1999 (by omega) (by omega)


end Go.Proofs.YtannhjclhdennaaDoor.Pa
namespace Go.Proofs.YtannhjclhdennaaDoor.Pure
open Go.RowKit Go.Proofs.YtannhjclhdennaaDoor.Pa
theorem MinimizeSteps : ∀ (a0_0 : ByteArray) (a0_1 : Int) (a1 : ByteArray), a0_0.size ≤ 140737488351232 → (Lit.int .i64 a0_1).wf = true → a1.size ≤ 140737488351232 → ∃ k, ddilaw31_MinimizeSteps.f k a0_0 a0_1 a1 = some true :=
  fun a b c h1 _ h3 => MinimizeSteps_pure a b c h1 h3
end Go.Proofs.YtannhjclhdennaaDoor.Pure
