/- Opening an argument that reads as data, of any type made of numbers, bools, strings, structs and slices: into the print's own kinds, with the sizes that the row allows. -/
import Derived.Test.YtkojlapefmcjnaaDoorWWords
import Derived.SizedLaws
import Derived.OpenShut
import Derived.Deep.Slices
import Derived.DataReads
namespace Go.Proofs.YtkojlapefmcjnaaDoor.Opn
open Go.RowKit Go.ChangeShapes Go.WideShapes Go.Deep Go.Proofs.YtkojlapefmcjnaaDoorW.PrintWords
set_option linter.unusedVariables false
set_option linter.unusedSimpArgs false

def Opens {α : Type} (P : Program) (w : World) (t : TypeId) (d : Kd α) (wf : α → Prop) : Prop :=
  ∀ (H : Type) (enc : TypeId × Value → H) (base : Nat) (spare : Nat → Bool) (held : Bool) (fuel : Nat) (cs : List Value) (x : DataW H × List MemPlace),
    DataW.trod enc P w base spare held fuel t cs = some x → (∀ n ∈ x.1.weights P t, n ≤ reachBytes) → ∃ y, d.K w y cs ∧ wf y

variable {P : Program} {w : World}

theorem opens_int {t : TypeId} {k : IntKind} (ht : P.underlying t = some (.int k)) : Opens P w t (Kd.int k) (fun n => (Lit.int k n).wf = true) := by
  intro H enc base spare held fuel cs x h hw
  obtain ⟨n, rfl, rfl, hn⟩ := DataW.trod_int ht h
  exact ⟨n, rfl, hn⟩
theorem opens_bool {t : TypeId} (ht : P.underlying t = some .bool) : Opens P w t Kd.bool (fun _ => True) := by
  intro H enc base spare held fuel cs x h hw
  obtain ⟨b, rfl, rfl⟩ := DataW.trod_bool ht h
  exact ⟨b, rfl, trivial⟩
theorem opens_string {t : TypeId} (ht : P.underlying t = some .string) : Opens P w t Kd.string (fun s => s.size ≤ 140737488351232) := by
  intro H enc base spare held fuel cs x h hw
  obtain ⟨s, rfl, rfl, hs⟩ := DataW.trod_string ht h
  refine ⟨s, rfl, ?_⟩
  have := hw s.data.toList.length (by simp [DataW.weights])
  rw [Array.length_toList] at this
  exact this

theorem weights_all {H : Type} {e : TypeId} : ∀ {ds : List (DataW H)} {d : DataW H}, d ∈ ds → ∀ n ∈ d.weights P e, n ∈ DataW.weightsAll P e ds
  | d0 :: ds, d, hd, n, hn => by
    simp only [DataW.weightsAll, List.mem_append]
    rcases List.mem_cons.1 hd with rfl | hd
    · exact Or.inl hn
    · exact Or.inr (weights_all hd n hn)

theorem build_list {α : Type} {Q : Nat → α → Prop} : ∀ n : Nat, (∀ i, i < n → ∃ y, Q i y) → ∃ ys : List α, ys.length = n ∧ ∀ i y, ys[i]? = some y → Q i y
  | 0, _ => ⟨[], rfl, fun i y h => by simp at h⟩
  | n + 1, h => by
    obtain ⟨ys, hl, hq⟩ := build_list n (fun i hi => h i (by omega))
    obtain ⟨y, hy⟩ := h n (by omega)
    refine ⟨ys ++ [y], by simp [hl], fun i z hz => ?_⟩
    by_cases hi : i < ys.length
    · rw [List.getElem?_append_left hi] at hz; exact hq i z hz
    · rw [List.getElem?_append_right (by omega)] at hz
      have h0 : i - ys.length = 0 := by
        rcases Nat.eq_zero_or_pos (i - ys.length) with h0 | h0
        · exact h0
        · rw [List.getElem?_eq_none (by simp; omega)] at hz; cases hz
      rw [h0] at hz
      obtain rfl : y = z := by simpa using hz
      obtain rfl : i = n := by omega
      exact hy

/-- a slice's row, out of its reading -/
theorem opens_row {α : Type} {t e : TypeId} {d : Kd α} {wf : α → Prop} {b : Nat} (ht : P.underlying t = some (.slice e)) (hc : P.cellsOf e = d.sz) (hb : P.bytesOf e = b) (he : Opens P w e d wf)
    {H : Type} {enc : TypeId × Value → H} {base : Nat} {spare : Nat → Bool} {held : Bool} {fuel : Nat} {cs : List Value} {x : DataW H × List MemPlace} (h : DataW.trod enc P w base spare held fuel t cs = some x) (hw : ∀ n ∈ x.1.weights P t, n ≤ reachBytes) :
    ∃ (A : Option Addr) (c : Nat) (l : List α), cs = [.slice A l.length c] ∧ l.length ≤ c ∧ d.C w A l.length l ∧ l.length * b ≤ 140737488351232 ∧ ∀ y ∈ l, wf y := by
  rcases open_slice ht h with ⟨rfl, rfl⟩ | ⟨a, len, cap, m, n, D, Pl, rfl, hba, hl, hm, hmm, rfl, hi⟩
  · exact ⟨none, 0, [], rfl, Nat.le_refl _, ⟨rfl, by simp, fun h => absurd h (by simp)⟩, by simp, by simp⟩
  · have hlm : len ≤ m := by rw [hmm]; split <;> omega
    have hw1 : (len + (m - len)) * b ≤ reachBytes := by
      have := hw ((((List.range len).map D).length + ((List.range (m - len)).map fun j => D (len + j)).length) * P.bytesOf e) (by simp [DataW.weights, ht])
      simpa [hb] using this
    have hel : ∀ i, i < len → ∃ y : α, (∃ c : List Value, c.length = d.sz ∧ d.K w y c ∧ ∀ j u, c[j]? = some u → w.cell? (a.add (i * d.sz + j)) = some u) ∧ wf y := by
      intro i hil
      obtain ⟨cs', h1, h2⟩ := hi i (by omega)
      have hwi : ∀ n ∈ (D i).weights P e, n ≤ reachBytes := fun n hn => hw n (by
        simp only [DataW.weights, ht, List.mem_cons, List.mem_append]
        exact Or.inr (Or.inl (weights_all (List.mem_map_of_mem (List.mem_range.2 hil)) n hn)))
      obtain ⟨y, hy, hwy⟩ := he H enc base spare held n cs' (D i, Pl i) h2 hwi
      rw [hc] at h1
      obtain ⟨_, hcl, hat⟩ := World.cells?_some h1
      refine ⟨y, ⟨cs', hcl, hy, fun j u hu => ?_⟩, hwy⟩
      have hj : j < cs'.length := (List.getElem?_eq_some_iff.1 hu).1
      rw [← Go.Deep.add_add, hat j (by omega), hu]
    obtain ⟨ys, hyl, hq⟩ := build_list len hel
    refine ⟨some a, cap, ys, by rw [hyl], by omega, ⟨rfl, by unfold maxLen at hm; omega, fun hpos => ⟨a, rfl, fun j p hp => ?_⟩⟩, ?_, fun y hy => ?_⟩
    · obtain ⟨⟨c, h1, h2, h3⟩, _⟩ := hq j p hp
      exact ⟨c, h1, h2, h3⟩
    · rw [hyl]
      have : len * b ≤ (len + (m - len)) * b := Nat.mul_le_mul_right _ (by omega)
      exact Nat.le_trans this hw1
    · obtain ⟨j, hj, rfl⟩ := List.mem_iff_getElem.1 hy
      exact (hq j _ (List.getElem?_eq_getElem hj)).2
theorem opens_slice {α : Type} {t e : TypeId} {d : Kd α} {wf : α → Prop} {b : Nat} (ht : P.underlying t = some (.slice e)) (hc : P.cellsOf e = d.sz) (hb : P.bytesOf e = b) (he : Opens P w e d wf) :
    Opens P w t (Kd.slice e d) (fun l => l.length * b ≤ 140737488351232 ∧ ∀ y ∈ l, wf y) := by
  intro H enc base spare held fuel cs x h hw
  obtain ⟨A, c, l, rfl, h1, h2, h3, h4⟩ := opens_row ht hc hb he h hw
  exact ⟨l, ⟨A, c, rfl, h1, h2⟩, h3, h4⟩

/-- the fields from offset o on -/
def OpensF {α : Type} (P : Program) (w : World) (fs : List Field) (o : Nat) (d : Kd α) (wf : α → Prop) : Prop :=
  ∀ (H : Type) (enc : TypeId × Value → H) (base : Nat) (spare : Nat → Bool) (held : Bool) (n : Nat) (cs : List Value) (xs : List (DataW H × List MemPlace)),
    (∀ (i : Nat) (f : Field), fs[i]? = some f → DataW.trod enc P w base spare held n f.type ((cs.drop f.offset).take (P.cellsOf f.type)) = xs[i]?) → xs.length = fs.length → cs.length = o + d.sz →
    (∀ (i : Nat) (f : Field) (x : DataW H × List MemPlace), fs[i]? = some f → xs[i]? = some x → ∀ n ∈ x.1.weights P f.type, n ≤ reachBytes) → ∃ y, d.K w y (cs.drop o) ∧ wf y
theorem opensF_one {α : Type} {f : Field} {o : Nat} {d : Kd α} {wf : α → Prop} (ho : f.offset = o) (hc : P.cellsOf f.type = d.sz) (h : Opens P w f.type d wf) : OpensF P w [f] o d wf := by
  intro H enc base spare held n cs xs hx hl hcs hw
  have h0 := hx 0 f rfl
  cases xs with
  | nil => simp at hl
  | cons x xs =>
    rw [List.getElem?_cons_zero, ho, hc, List.take_of_length_le (by rw [List.length_drop]; omega)] at h0
    exact h H enc base spare held n _ x h0 (hw 0 f x rfl rfl)
theorem opensF_cons {α β : Type} {f : Field} {fs : List Field} {o : Nat} {d : Kd α} {d1 : Kd β} {wf : α → Prop} {wf1 : β → Prop} (ho : f.offset = o) (hc : P.cellsOf f.type = d.sz) (h : Opens P w f.type d wf) (hs : OpensF P w fs (o + d.sz) d1 wf1) :
    OpensF P w (f :: fs) o (Kd.pair d d1) (fun x => wf x.1 ∧ wf1 x.2) := by
  intro H enc base spare held n cs xs hx hl hcs hw
  have h0 := hx 0 f rfl
  have hsz : (Kd.pair d d1).sz = d.sz + d1.sz := rfl
  cases xs with
  | nil => simp at hl
  | cons x xs =>
    rw [List.getElem?_cons_zero, ho, hc] at h0
    obtain ⟨y, hy, hwy⟩ := h H enc base spare held n _ x h0 (hw 0 f x rfl rfl)
    obtain ⟨z, hz, hwz⟩ := hs H enc base spare held n cs xs (fun i g hg => hx (i + 1) g hg) (by simpa using hl) (by omega) (fun i g y hg hy => hw (i + 1) g y hg hy)
    refine ⟨(y, z), ⟨(cs.drop o).take d.sz, cs.drop (o + d.sz), ?_, hy, hz⟩, hwy, hwz⟩
    rw [← List.drop_drop, List.take_append_drop]
theorem opens_struct {α β : Type} {t : TypeId} {fs : List Field} {d : Kd α} {wf : α → Prop} {proj : β → α} {inj : α → β} (ht : P.underlying t = some (.struct fs.toArray)) (hc : P.cellsOf t = d.sz) (hs : OpensF P w fs 0 d wf) (hp : ∀ y, proj (inj y) = y) :
    Opens P w t (Kd.iso d proj) (fun z => wf (proj z)) := by
  intro H enc base spare held fuel cs x h hw
  obtain ⟨xs, n, _, rfl, hcl, hxl, hf⟩ := DataW.trod_struct ht h
  obtain ⟨y, hy, hwy⟩ := hs H enc base spare held n cs xs (fun i f hif => hf i f (by simpa using hif)) (by simpa using hxl) (by rw [hcl, hc]; omega) (fun i f x hif hix m hm => hw m (by
    simp only [DataW.weights, ht]
    exact DataW.weights_mem_each (j := i) (t := f.type) (d := x.1) (by simp [hif]) (by simp [hix]) m hm))
  refine ⟨inj y, ?_, ?_⟩
  · show d.K w (proj (inj y)) cs
    rw [hp]; simpa using hy
  · show wf (proj (inj y))
    rw [hp]; exact hwy
theorem opens_tuple {α : Type} {t : TypeId} {fs : List Field} {d : Kd α} {wf : α → Prop} (ht : P.underlying t = some (.struct fs.toArray)) (hc : P.cellsOf t = d.sz) (hs : OpensF P w fs 0 d wf) :
    Opens P w t d wf := by
  intro H enc base spare held fuel cs x h hw
  obtain ⟨xs, n, _, rfl, hcl, hxl, hf⟩ := DataW.trod_struct ht h
  obtain ⟨y, hy, hwy⟩ := hs H enc base spare held n cs xs (fun i f hif => hf i f (by simpa using hif)) (by simpa using hxl) (by rw [hcl, hc]; omega) (fun i f x hif hix m hm => hw m (by
    simp only [DataW.weights, ht]
    exact DataW.weights_mem_each (j := i) (t := f.type) (d := x.1) (by simp [hif]) (by simp [hix]) m hm))
  exact ⟨y, by simpa using hy, hwy⟩
end Go.Proofs.YtkojlapefmcjnaaDoor.Opn
