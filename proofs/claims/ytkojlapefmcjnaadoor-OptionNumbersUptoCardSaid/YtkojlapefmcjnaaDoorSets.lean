/- A cell that is set twice: the second one counts. For the walks of functions that store into a variable's field twice. -/
import Derived.Test.YtkojlapefmcjnaaDoorWWords
namespace Go.Proofs.YtkojlapefmcjnaaDoorW.PrintWords
open Go Go.RowKit
theorem set_set (w : World) (p : Addr) (v v' : Value) : (w.setCell p v).setCell p v' = w.setCell p v' := by
  have h : (w.heap.modify p.block fun
      | .cells c elem frozen => .cells (if p.spot.isSome then c else c.setIfInBounds p.off v) elem frozen
      | o => o).modify p.block (fun
      | .cells c elem frozen => .cells (if p.spot.isSome then c else c.setIfInBounds p.off v') elem frozen
      | o => o) = w.heap.modify p.block (fun
      | .cells c elem frozen => .cells (if p.spot.isSome then c else c.setIfInBounds p.off v') elem frozen
      | o => o) := by
    apply Array.ext
    · simp
    · intro i h1 h2
      rw [Array.getElem_modify, Array.getElem_modify, Array.getElem_modify]
      by_cases hb : p.block = i
      · simp only [hb, if_true]
        cases w.heap[i]'(by simpa using h2) with
        | cells c e f =>
          by_cases hs : p.spot.isSome = true
          · simp [hs]
          · simp [hs]
        | _ => rfl
      · simp only [hb, if_false]
  exact congrArg (fun q => ({ w with heap := q } : World)) h
end Go.Proofs.YtkojlapefmcjnaaDoorW.PrintWords
