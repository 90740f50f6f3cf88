/- Opening an argument that is an array, in the print's own kinds: as a struct with a field for each element. -/
import Derived.Test.YtfcgconojomfpaaDoorOpen
namespace Go.Proofs.YtfcgconojomfpaaDoor.Opn
open Go.RowKit Go.ChangeShapes Go.WideShapes Go.Deep Go.Proofs.YtfcgconojomfpaaDoorW.PrintWords
set_option linter.unusedVariables false
set_option linter.unusedSimpArgs false
variable {P : Program} {w : World}
def arrF (g : Field) (e sz : Nat) : Nat → Nat → List Field
  | 0, _ => []
  | n + 1, o => { g with type := e, offset := o } :: arrF g e sz n (o + sz)
theorem arrF_get (g : Field) (e sz : Nat) : ∀ n o i f, (arrF g e sz n o)[i]? = some f → f.type = e ∧ f.offset = o + i * sz
  | 0, _, _, _, h => by simp [arrF] at h
  | n + 1, o, 0, f, h => by
    simp only [arrF, List.getElem?_cons_zero, Option.some.injEq] at h
    subst h; simp
  | n + 1, o, i + 1, f, h => by
    simp only [arrF, List.getElem?_cons_succ] at h
    have := arrF_get g e sz n (o + sz) i f h
    refine ⟨this.1, ?_⟩
    rw [this.2, Nat.succ_mul]; omega
theorem arrF_len (g : Field) (e sz : Nat) : ∀ n o, (arrF g e sz n o).length = n
  | 0, _ => rfl
  | n + 1, o => by simp [arrF, arrF_len g e sz n]
theorem okWide_arr {r : Reach} {base : Nat} {t e : TypeId} {n : Nat} {v : Value} (ht : P.underlying t = some (.array n e)) (h : Value.okWide P w r base t v) : ∃ cs, v = .agg cs ∧ cs.size = P.cellsOf t := by
  simp only [Value.okWide, ht] at h
  obtain ⟨cs, h1, h2, _⟩ := h
  exact ⟨cs, h1, h2⟩
theorem opens_arr {α : Type} (g : Field) {t e : TypeId} {n sz : Nat} {d : Kd α} {wf : α → Prop} (ht : P.underlying t = some (.array n e)) (hsz : P.cellsOf e = sz) (hc : P.cellsOf t = d.sz) (hs : OpensF P w (arrF g e sz n 0) 0 d wf) :
    Opens P w t d wf := by
  intro H enc base spare held fuel cs x h hw
  obtain ⟨xs, m, _, rfl, hcl, hxl, hf⟩ := DataW.trod_array ht h
  subst hsz
  obtain ⟨y, hy, hwy⟩ := hs H enc base spare held m cs xs (fun i f hif => by
      obtain ⟨h1, h2⟩ := arrF_get g e (P.cellsOf e) n 0 i f hif
      have hi : i < n := by
        have := (List.getElem?_eq_some_iff.1 hif).1
        rw [arrF_len] at this; exact this
      rw [h1, h2, Nat.zero_add]; exact hf i hi) (by rw [hxl, arrF_len]) (by rw [hcl, hc]; omega) (fun i f x hif hix q hq => hw q (by
    obtain ⟨h1, _⟩ := arrF_get g e (P.cellsOf e) n 0 i f hif
    rw [h1] at hq
    simp only [DataW.weights, ht]
    exact weights_all (List.mem_map_of_mem (List.mem_of_getElem? hix)) q hq))
  exact ⟨y, by simpa using hy, hwy⟩
end Go.Proofs.YtfcgconojomfpaaDoor.Opn
