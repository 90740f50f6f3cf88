/- The plain statement of the law OptionPuts. -/
import Derived.Test.YtkojlapefmcjnaaDoorSame
import Derived.Test.YtkojlapefmcjnaaDoorPut
import Derived.Test.YtkojlapefmcjnaaDoorPax27
namespace Go.Proofs.YtkojlapefmcjnaaDoor.Pa
open Go Go.RowKit Go.Proofs.YtkojlapefmcjnaaDoorW.PrintWords Go.Proofs.YtkojlapefmcjnaaDoor.DN Go.Proofs.YtkojlapefmcjnaaDoor.OPT
set_option linter.unusedVariables false
set_option linter.unusedSimpArgs false
theorem fndA_pt_same (l : List S34) (c : Int) (v : ByteArray) : fndA (ab (ptS l c v)) c = (v, true) := by
  unfold fndA; rw [ab_ptS, fnd_pt_same]; simp
theorem fndA_put_other (l : List S34) (c d : Int) (v : ByteArray) (h : d ≠ c) : fndA (ab (putS l c v)) d = fndA (ab l) d := by
  unfold putS
  split
  · unfold fndA; rw [ab_ptS, fnd_pt_other _ _ _ _ h]
  · rfl
theorem ptS_len (l : List S34) (c : Int) (v : ByteArray) : (ptS l c v).length = if (fndA (ab l) c).2 = true then l.length else l.length + 1 := by
  have := pt_length (ab l) c (L v)
  rw [← ab_ptS, ab_length, ab_length] at this
  rw [this, fndA_some]
theorem puts_j1 (l : List S34) (c : Int) (v : ByteArray) (hl : l.length * 24 ≤ 140737488351232) (k : Nat) (hk : 2 * l.length + 1000 ≤ k) (b : Bool) (hb : b = !decide (1 ≤ c ∧ c ≤ 254)) :
    ddilaw35_OptionPuts.j1 k l c v (putS l c v) b = some true := by
  obtain ⟨k, rfl⟩ : ∃ q, k = q + 1 := ⟨k - 1, by omega⟩
  subst hb
  rw [ddilaw35_OptionPuts.j1]
  by_cases hc : 1 ≤ c ∧ c ≤ 254
  · have hpS : putS l c v = ptS l c v := if_pos hc
    have hlen := ptS_length l c v
    rw [decide_eq_true hc, if_neg (by decide), hpS, find_f _ _ (by omega) _ (by omega), Option.bind_some, find_f _ _ (by omega) _ (by omega), Option.bind_some, fndA_pt_same]
    have hl2 := ptS_len l c v
    by_cases hf : (fndA (ab l) c).2 = true
    · rw [if_pos hf] at hl2
      rw [if_pos hf, if_pos rfl, if_pos rfl, if_pos (by rw [hl2]), awake_f _ (by omega)]; rfl
    · rw [if_neg hf] at hl2
      rw [if_neg hf, if_pos rfl, if_pos rfl, if_pos (by rw [hl2, wsucc (by omega)]), awake_f _ (by omega)]; rfl
  · have hpS : putS l c v = l := if_neg hc
    rw [decide_eq_false hc, if_pos (by decide), hpS, same_f _ (by omega) _ (by omega), Option.bind_some, if_pos rfl, awake_f _ (by omega)]; rfl
theorem puts_j0 (l : List S34) (c : Int) (v : ByteArray) (hl : l.length * 24 ≤ 140737488351232) (k : Nat) (hk : 2 * l.length + 1001 ≤ k) :
    ddilaw35_OptionPuts.j0 k l c v (putS l c v) false = some true := by
  obtain ⟨k, rfl⟩ : ∃ q, k = q + 1 := ⟨k - 1, by omega⟩
  rw [ddilaw35_OptionPuts.j0, if_neg (by decide)]
  by_cases h1 : c < 1
  · rw [if_pos h1]; exact puts_j1 l c v hl k (by omega) true (by rw [decide_eq_false (by omega)]; rfl)
  · rw [if_neg h1]; exact puts_j1 l c v hl k (by omega) _ (by rw [Bool.eq_iff_iff]; simp; omega)
theorem OptionPuts_pure (l : List S34) (c d : Int) (v : ByteArray) (h0 : l.length * 24 ≤ 140737488351232) : ∃ k, ddilaw35_OptionPuts.f k l c d v = some true := by
  have hp : (putS l c v).length ≤ l.length + 1 := by
    unfold putS; split
    · exact ptS_length l c v
    · omega
  refine ⟨2 * l.length + 2000, ?_⟩
  unfold ddilaw35_OptionPuts.f
  rw [put_f l c v (by omega) _ (by omega), Option.bind_some, find_f l d (by omega) _ (by omega), Option.bind_some, find_f _ d (by omega) _ (by omega), Option.bind_some]
  by_cases h : d = c
  · rw [if_pos h]; exact puts_j0 l c v h0 _ (by omega)
  · rw [if_neg h, fndA_put_other l c d v h, if_pos rfl, show ((fndA (ab l) d).2 != (fndA (ab l) d).2) = false by simp]
    exact puts_j0 l c v h0 _ (by omega)
end Go.Proofs.YtkojlapefmcjnaaDoor.Pa
namespace Go.Proofs.YtkojlapefmcjnaaDoor.Pure
open Go Go.RowKit Go.Proofs.YtkojlapefmcjnaaDoor.Pa
theorem OptionPuts : ∀ (l0 : List S34) (a1 : Int) (a2 : Int) (a3 : ByteArray), l0.length * 24 ≤ 140737488351232 → (∀ y ∈ l0, Wf34 y) → (Lit.int .i64 a1).wf = true → (Lit.int .i64 a2).wf = true → a3.size ≤ 140737488351232 → ∃ k, ddilaw35_OptionPuts.f k l0 a1 a2 a3 = some true := fun l c d v h _ _ _ _ => OptionPuts_pure l c d v h
end Go.Proofs.YtkojlapefmcjnaaDoor.Pure
