/- The plain statement of the law MinimizeOnce. -/
import Derived.Test.YtannhjclhdennaaDoorMin
import Derived.Test.YtannhjclhdennaaDoorPax18
namespace Go.Proofs.YtannhjclhdennaaDoor.Pa
open Go.RowKit Go.Proofs.YtannhjclhdennaaDoorW.PrintWords Go.Proofs.YtannhjclhdennaaDoorW.PrintLast Go.Proofs.YtannhjclhdennaaDoor.DN
set_option linter.unusedVariables false
set_option linter.unusedSimpArgs false
theorem MinimizeOnce_pure (q : ByteArray) (qt : Int) (z : ByteArray) (m : Int) (hq : q.size ≤ 140737488351232) (hz : z.size ≤ 140737488351232) : ∃ k, ddilaw31_MinimizeOnce.f k q qt z m = some true := by
  refine ⟨2000, ?_⟩
  unfold ddilaw31_MinimizeOnce.f
  rw [next_f q qt z m hq hz 2000 (by omega)]
  simp only [Option.bind_some]
  rw [next_f _ _ z m (next_size q qt z m hq) hz 2000 (by omega)]
  simp only [Option.bind_some]
  rcases next_cases q qt z m with ⟨e, _⟩ | ⟨l, hg, e, hb, h0, h9, hl, hlq, hzl, hlt⟩
  · rw [e, e]; simp [awake_f 2000 (by omega)]
  · have e2 : nextS (B (nm l)) 2 z m = (B (nm l), 2, true) := by
      rcases next_cases (B (nm l)) 2 z m with ⟨e2, _⟩ | ⟨l2, _, e2, _, _, _, hl2, _, _, hlt2⟩
      · exact e2
      · rw [L_B, labels_nm hg] at hlt2; omega
    rw [e]
    simp only
    rw [e2]; simp [awake_f 2000 (by omega)]


end Go.Proofs.YtannhjclhdennaaDoor.Pa
namespace Go.Proofs.YtannhjclhdennaaDoor.Pure
open Go.RowKit Go.Proofs.YtannhjclhdennaaDoor.Pa
theorem MinimizeOnce : ∀ (a0_0 : ByteArray) (a0_1 : Int) (a1 : ByteArray) (a2 : Int), a0_0.size ≤ 140737488351232 → (Lit.int .i64 a0_1).wf = true → a1.size ≤ 140737488351232 → (Lit.int .i64 a2).wf = true → ∃ k, ddilaw31_MinimizeOnce.f k a0_0 a0_1 a1 a2 = some true :=
  fun a b c d h1 _ h3 _ => MinimizeOnce_pure a b c d h1 h3
end Go.Proofs.YtannhjclhdennaaDoor.Pure
