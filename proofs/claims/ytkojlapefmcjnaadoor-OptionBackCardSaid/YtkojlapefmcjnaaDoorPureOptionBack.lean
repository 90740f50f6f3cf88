/- The plain statement of the law OptionBack. -/
import Derived.Test.YtkojlapefmcjnaaDoorSame
import Derived.Test.YtkojlapefmcjnaaDoorPax21
namespace Go.Proofs.YtkojlapefmcjnaaDoor.Pa
open Go Go.RowKit Go.Proofs.YtkojlapefmcjnaaDoorW.PrintWords Go.Proofs.YtkojlapefmcjnaaDoor.DN Go.Proofs.YtkojlapefmcjnaaDoor.OPT
set_option linter.unusedVariables false
set_option linter.unusedSimpArgs false
theorem OptionBack_pure (l : List S34) (h0 : l.length * 24 ≤ 140737488351232) (h1 : ∀ y ∈ l, Wf34 y) : ∃ k, ddilaw35_OptionBack.f k l = some true := by
  have hz : ∀ x ∈ l, x.f1.size ≤ 140737488351232 := fun x hx => (h1 x hx).2
  refine ⟨100000, ?_⟩
  unfold ddilaw35_OptionBack.f
  rw [enc_f l hz, Option.bind_some, valid_f l hz _ (by decide), Option.bind_some]
  by_cases hv : vld (ab l)
  · rw [decide_eq_true hv, if_pos rfl]
    have he : encA (ab l) = (B (enc (ab l)), 0) := by unfold encA; rw [if_pos hv]
    rw [he]
    have hsz : (B (enc (ab l))).size ≤ 20000 := by
      rw [B_size]
      have h2 := encL_length (ab l)
      have h3 := hv.1.2.1
      have h4 := hv.1.1
      unfold enc
      rw [List.length_append]; simp only [List.length_cons, List.length_nil]; omega
    rw [show option_Decode.f 100000 (B (enc (ab l)), (0 : Int)).1 = some (un (dec [] (enc (ab l))).1, (dec [] (enc (ab l))).2) from dec_f (B (enc (ab l))) (by omega) _ (by omega), Option.bind_some, dec_enc hv]
    have hl := no_sizes hv.1
    rw [if_pos rfl, if_pos rfl, un_ab, same_f l (by omega) _ (by omega), Option.bind_some, if_pos rfl, awake_f _ (by decide)]
    rfl
  · rw [decide_eq_false hv, if_neg (by decide)]
    have he : encA (ab l) = (⟨#[]⟩, 1) := by unfold encA; rw [if_neg hv]
    rw [he, if_pos rfl, if_pos (show (⟨#[]⟩ : ByteArray).toList = [] by rw [toList_L]), awake_f _ (by decide)]
    rfl
end Go.Proofs.YtkojlapefmcjnaaDoor.Pa
namespace Go.Proofs.YtkojlapefmcjnaaDoor.Pure
open Go Go.RowKit Go.Proofs.YtkojlapefmcjnaaDoor.Pa
theorem OptionBack : ∀ (l0 : List S34), l0.length * 24 ≤ 140737488351232 → (∀ y ∈ l0, Wf34 y) → ∃ k, ddilaw35_OptionBack.f k l0 = some true := fun l h h1 => OptionBack_pure l h h1
end Go.Proofs.YtkojlapefmcjnaaDoor.Pure
