/- The plain statement of the law MinimizeNext. -/
import Derived.Test.YtannhjclhdennaaDoorMinR
import Derived.Test.YtannhjclhdennaaDoorPax14
namespace Go.Proofs.YtannhjclhdennaaDoor.Pa
open Go.RowKit Go.Proofs.YtannhjclhdennaaDoorW.PrintWords Go.Proofs.YtannhjclhdennaaDoorW.PrintLast Go.Proofs.YtannhjclhdennaaDoor.DN
set_option linter.unusedVariables false
set_option linter.unusedSimpArgs false
theorem MinimizeNext_pure (q : ByteArray) (qt : Int) (z : ByteArray) (m : Int) (hq : q.size ≤ 140737488351232) (hz : z.size ≤ 140737488351232) : ∃ k, ddilaw31_MinimizeNext.f k q qt z m = some true := by
  refine ⟨1400, ?_⟩
  unfold ddilaw31_MinimizeNext.f
  rw [next_f q qt z m hq hz 1400 (by omega), rnext_f q qt z m hq hz 1400 (by omega), awake_f 1400 (by omega)]
  simp


end Go.Proofs.YtannhjclhdennaaDoor.Pa
namespace Go.Proofs.YtannhjclhdennaaDoor.Pure
open Go.RowKit Go.Proofs.YtannhjclhdennaaDoor.Pa
theorem MinimizeNext : ∀ (a0_0 : ByteArray) (a0_1 : Int) (a1 : ByteArray) (a2 : Int), a0_0.size ≤ 140737488351232 → (Lit.int .i64 a0_1).wf = true → a1.size ≤ 140737488351232 → (Lit.int .i64 a2).wf = true → ∃ k, ddilaw31_MinimizeNext.f k a0_0 a0_1 a1 a2 = some true :=
  fun a b c d h1 _ h3 _ => MinimizeNext_pure a b c d h1 h3
end Go.Proofs.YtannhjclhdennaaDoor.Pure
