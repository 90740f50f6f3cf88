/- Parts of the proof of this claim's statement (joined by a program of this session): Open, Opt, Names, Bytes, Lays, Split, Bq, Stn, Ls, Cp, Wk1, Kp, Rw, Wk2, Wk3, Wk4, Sp, Wk5, Wk6, Wk7, Wk8, Wk9, Wka. -/
import Derived.Test.YtlabnocmmeciaaaGreatDoorq0
import Derived.SizedLaws
import Derived.OpenShut
import Derived.Deep.Slices
import Derived.DataReads
import Init.Data.List.Nat.TakeDrop
import Init.Data.List.Nat.Basic
import Derived.Lib.Strings
import Derived.Test.YtlabnocmmeciaaaGreatDoorProg
import Derived.Shelf.Lays
import Derived.Shelf.Strings.Builder1
import Derived.Test.YtlabnocmmeciaaaGreatDoorq1
import Derived.Shelf.Strings.Split
import Derived.Deep.MidRow
import Derived.Test.YtlabnocmmeciaaaGreatDoorq2
set_option linter.unusedVariables false
set_option linter.unusedSimpArgs false
set_option maxRecDepth 100000
set_option maxHeartbeats 8000000
namespace Go.Proofs.YtlabnocmmeciaaaGreatDoor.Opn
open RowKit ChangeShapes WideShapes Deep YtlabnocmmeciaaaGreatDoorW.PrintWords
def Opens {α : Type} (P : Program) (w : World) (t : TypeId) (d : Kd α) (wf : α → Prop) : Prop :=
  ∀ (H : Type) (enc : TypeId × Value → H) (base : Nat) (spare : Nat → Bool) (held : Bool) (fuel : Nat) (cs : List Value) (x : DataW H × List MemPlace),
    DataW.trod enc P w base spare held fuel t cs = some x → (∀ n ∈ x.1.weights P t, n ≤ reachBytes) → ∃ y, d.K w y cs ∧ wf y
variable {P : Program} {w : World}
theorem opens_int {t : TypeId} {k : IntKind} (ht : P.underlying t = some (.int k)) : Opens P w t (Kd.int k) (fun n => (Lit.int k n).wf = true) := by
  intro H enc base spare held fuel cs x h hw
  obtain ⟨n, rfl, rfl, hn⟩ := DataW.trod_int ht h
  exact ⟨n, rfl, hn⟩
theorem opens_bool {t : TypeId} (ht : P.underlying t = some .bool) : Opens P w t Kd.bool (fun _ => True) := by
  intro H enc base spare held fuel cs x h hw
  obtain ⟨b, rfl, rfl⟩ := DataW.trod_bool ht h
  exact ⟨b, rfl, trivial⟩
theorem opens_string {t : TypeId} (ht : P.underlying t = some .string) : Opens P w t Kd.string (fun s => s.size ≤ 140737488351232) := by
  intro H enc base spare held fuel cs x h hw
  obtain ⟨s, rfl, rfl, hs⟩ := DataW.trod_string ht h
  refine ⟨s, rfl, ?_⟩
  have := hw s.data.toList.length (by simp [DataW.weights])
  rw [Array.length_toList] at this
  exact this
theorem weights_all {H : Type} {e : TypeId} : ∀ {ds : List (DataW H)} {d : DataW H}, d ∈ ds → ∀ n ∈ d.weights P e, n ∈ DataW.weightsAll P e ds
  | d0 :: ds, d, hd, n, hn => by
    simp only [DataW.weightsAll, List.mem_append]
    rcases List.mem_cons.1 hd with rfl | hd
    · exact Or.inl hn
    · exact Or.inr (weights_all hd n hn)
theorem build_list {α : Type} {Q : Nat → α → Prop} : ∀ n : Nat, (∀ i, i < n → ∃ y, Q i y) → ∃ ys : List α, ys.length = n ∧ ∀ i y, ys[i]? = some y → Q i y
  | 0, _ => ⟨[], rfl, fun i y h => by simp at h⟩
  | n + 1, h => by
    obtain ⟨ys, hl, hq⟩ := build_list n (fun i hi => h i (by omega))
    obtain ⟨y, hy⟩ := h n (by omega)
    refine ⟨ys ++ [y], by simp [hl], fun i z hz => ?_⟩
    by_cases hi : i < ys.length
    · rw [List.getElem?_append_left hi] at hz; exact hq i z hz
    · rw [List.getElem?_append_right (by omega)] at hz
      have h0 : i - ys.length = 0 := by
        rcases Nat.eq_zero_or_pos (i - ys.length) with h0 | h0
        · exact h0
        · rw [List.getElem?_eq_none (by simp; omega)] at hz; cases hz
      rw [h0] at hz
      obtain rfl : y = z := by simpa using hz
      obtain rfl : i = n := by omega
      exact hy
/-- a slice's row, out of its reading -/
theorem opens_row {α : Type} {t e : TypeId} {d : Kd α} {wf : α → Prop} {b : Nat} (ht : P.underlying t = some (.slice e)) (hc : P.cellsOf e = d.sz) (hb : P.bytesOf e = b) (he : Opens P w e d wf)
    {H : Type} {enc : TypeId × Value → H} {base : Nat} {spare : Nat → Bool} {held : Bool} {fuel : Nat} {cs : List Value} {x : DataW H × List MemPlace} (h : DataW.trod enc P w base spare held fuel t cs = some x) (hw : ∀ n ∈ x.1.weights P t, n ≤ reachBytes) :
    ∃ (A : Option Addr) (c : Nat) (l : List α), cs = [.slice A l.length c] ∧ l.length ≤ c ∧ d.C w A l.length l ∧ l.length * b ≤ 140737488351232 ∧ ∀ y ∈ l, wf y := by
  rcases open_slice ht h with ⟨rfl, rfl⟩ | ⟨a, len, cap, m, n, D, Pl, rfl, hba, hl, hm, hmm, rfl, hi⟩
  · exact ⟨none, 0, [], rfl, Nat.le_refl _, ⟨rfl, by simp, fun h => absurd h (by simp)⟩, by simp, by simp⟩
  · have hlm : len ≤ m := by rw [hmm]; split <;> omega
    have hw1 : (len + (m - len)) * b ≤ reachBytes := by
      have := hw ((((List.range len).map D).length + ((List.range (m - len)).map fun j => D (len + j)).length) * P.bytesOf e) (by simp [DataW.weights, ht])
      simpa [hb] using this
    have hel : ∀ i, i < len → ∃ y : α, (∃ c : List Value, c.length = d.sz ∧ d.K w y c ∧ ∀ j u, c[j]? = some u → w.cell? (a.add (i * d.sz + j)) = some u) ∧ wf y := by
      intro i hil
      obtain ⟨cs', h1, h2⟩ := hi i (by omega)
      have hwi : ∀ n ∈ (D i).weights P e, n ≤ reachBytes := fun n hn => hw n (by
        simp only [DataW.weights, ht, List.mem_cons, List.mem_append]
        exact Or.inr (Or.inl (weights_all (List.mem_map_of_mem (List.mem_range.2 hil)) n hn)))
      obtain ⟨y, hy, hwy⟩ := he H enc base spare held n cs' (D i, Pl i) h2 hwi
      rw [hc] at h1
      obtain ⟨_, hcl, hat⟩ := World.cells?_some h1
      refine ⟨y, ⟨cs', hcl, hy, fun j u hu => ?_⟩, hwy⟩
      have hj : j < cs'.length := (List.getElem?_eq_some_iff.1 hu).1
      rw [← Go.Deep.add_add, hat j (by omega), hu]
    obtain ⟨ys, hyl, hq⟩ := build_list len hel
    refine ⟨some a, cap, ys, by rw [hyl], by omega, ⟨rfl, by unfold maxLen at hm; omega, fun hpos => ⟨a, rfl, fun j p hp => ?_⟩⟩, ?_, fun y hy => ?_⟩
    · obtain ⟨⟨c, h1, h2, h3⟩, _⟩ := hq j p hp
      exact ⟨c, h1, h2, h3⟩
    · rw [hyl]
      have : len * b ≤ (len + (m - len)) * b := Nat.mul_le_mul_right _ (by omega)
      exact Nat.le_trans this hw1
    · obtain ⟨j, hj, rfl⟩ := List.mem_iff_getElem.1 hy
      exact (hq j _ (List.getElem?_eq_getElem hj)).2
theorem opens_slice {α : Type} {t e : TypeId} {d : Kd α} {wf : α → Prop} {b : Nat} (ht : P.underlying t = some (.slice e)) (hc : P.cellsOf e = d.sz) (hb : P.bytesOf e = b) (he : Opens P w e d wf) :
    Opens P w t (Kd.slice e d) (fun l => l.length * b ≤ 140737488351232 ∧ ∀ y ∈ l, wf y) := by
  intro H enc base spare held fuel cs x h hw
  obtain ⟨A, c, l, rfl, h1, h2, h3, h4⟩ := opens_row ht hc hb he h hw
  exact ⟨l, ⟨A, c, rfl, h1, h2⟩, h3, h4⟩
/-- the fields from offset o on -/
def OpensF {α : Type} (P : Program) (w : World) (fs : List Field) (o : Nat) (d : Kd α) (wf : α → Prop) : Prop :=
  ∀ (H : Type) (enc : TypeId × Value → H) (base : Nat) (spare : Nat → Bool) (held : Bool) (n : Nat) (cs : List Value) (xs : List (DataW H × List MemPlace)),
    (∀ (i : Nat) (f : Field), fs[i]? = some f → DataW.trod enc P w base spare held n f.type ((cs.drop f.offset).take (P.cellsOf f.type)) = xs[i]?) → xs.length = fs.length → cs.length = o + d.sz →
    (∀ (i : Nat) (f : Field) (x : DataW H × List MemPlace), fs[i]? = some f → xs[i]? = some x → ∀ n ∈ x.1.weights P f.type, n ≤ reachBytes) → ∃ y, d.K w y (cs.drop o) ∧ wf y
theorem opensF_one {α : Type} {f : Field} {o : Nat} {d : Kd α} {wf : α → Prop} (ho : f.offset = o) (hc : P.cellsOf f.type = d.sz) (h : Opens P w f.type d wf) : OpensF P w [f] o d wf := by
  intro H enc base spare held n cs xs hx hl hcs hw
  have h0 := hx 0 f rfl
  cases xs with
  | nil => simp at hl
  | cons x xs =>
    rw [List.getElem?_cons_zero, ho, hc, List.take_of_length_le (by rw [List.length_drop]; omega)] at h0
    exact h H enc base spare held n _ x h0 (hw 0 f x rfl rfl)
theorem opensF_cons {α β : Type} {f : Field} {fs : List Field} {o : Nat} {d : Kd α} {d1 : Kd β} {wf : α → Prop} {wf1 : β → Prop} (ho : f.offset = o) (hc : P.cellsOf f.type = d.sz) (h : Opens P w f.type d wf) (hs : OpensF P w fs (o + d.sz) d1 wf1) :
    OpensF P w (f :: fs) o (Kd.pair d d1) (fun x => wf x.1 ∧ wf1 x.2) := by
  intro H enc base spare held n cs xs hx hl hcs hw
  have h0 := hx 0 f rfl
  have hsz : (Kd.pair d d1).sz = d.sz + d1.sz := rfl
  cases xs with
  | nil => simp at hl
  | cons x xs =>
    rw [List.getElem?_cons_zero, ho, hc] at h0
    obtain ⟨y, hy, hwy⟩ := h H enc base spare held n _ x h0 (hw 0 f x rfl rfl)
    obtain ⟨z, hz, hwz⟩ := hs H enc base spare held n cs xs (fun i g hg => hx (i + 1) g hg) (by simpa using hl) (by omega) (fun i g y hg hy => hw (i + 1) g y hg hy)
    refine ⟨(y, z), ⟨(cs.drop o).take d.sz, cs.drop (o + d.sz), ?_, hy, hz⟩, hwy, hwz⟩
    rw [← List.drop_drop, List.take_append_drop]
theorem opens_struct {α β : Type} {t : TypeId} {fs : List Field} {d : Kd α} {wf : α → Prop} {proj : β → α} {inj : α → β} (ht : P.underlying t = some (.struct fs.toArray)) (hc : P.cellsOf t = d.sz) (hs : OpensF P w fs 0 d wf) (hp : ∀ y, proj (inj y) = y) :
    Opens P w t (Kd.iso d proj) (fun z => wf (proj z)) := by
  intro H enc base spare held fuel cs x h hw
  obtain ⟨xs, n, _, rfl, hcl, hxl, hf⟩ := DataW.trod_struct ht h
  obtain ⟨y, hy, hwy⟩ := hs H enc base spare held n cs xs (fun i f hif => hf i f (by simpa using hif)) (by simpa using hxl) (by rw [hcl, hc]; omega) (fun i f x hif hix m hm => hw m (by
    simp only [DataW.weights, ht]
    exact DataW.weights_mem_each (j := i) (t := f.type) (d := x.1) (by simp [hif]) (by simp [hix]) m hm))
  refine ⟨inj y, ?_, ?_⟩
  · show d.K w (proj (inj y)) cs
    rw [hp]; simpa using hy
  · show wf (proj (inj y))
    rw [hp]; exact hwy
end Go.Proofs.YtlabnocmmeciaaaGreatDoor.Opn
namespace Go.Proofs.YtlabnocmmeciaaaGreatDoor.OPT
abbrev O := Int × List UInt8
def fnd : List O → Int → Option (List UInt8)
  | [], _ => none
  | o :: l, c => if o.1 = c then some o.2 else fnd l c
def ad : List O → Int → List UInt8 → List O
  | [], c, p => [(c, p)]
  | o :: l, c, p => if o.1 = c then (c, o.2 ++ p) :: l else o :: ad l c p
def sz : List O → Nat
  | [] => 0
  | o :: l => o.2.length + sz l
def no (l : List O) : Prop := l.length ≤ 32 ∧ sz l ≤ 4096 ∧ ∀ o ∈ l, o.2.length ≤ 1024
instance (l : List O) : Decidable (no l) := inferInstanceAs (Decidable (_ ∧ _ ∧ _))
def vld (l : List O) : Prop := no l ∧ (l.map (·.1)).Nodup ∧ ∀ o ∈ l, 1 ≤ o.1 ∧ o.1 ≤ 254
instance (l : List O) : Decidable (vld l) := inferInstanceAs (Decidable (_ ∧ _ ∧ _))
def encV (c : UInt8) (v : List UInt8) : List UInt8 :=
  if h : v.length ≤ 255 then c :: UInt8.ofNat v.length :: v else c :: 255 :: (v.take 255 ++ encV c (v.drop 255))
termination_by v.length
decreasing_by simp_wf; omega
def encL : List O → List UInt8
  | [] => []
  | o :: l => encV (UInt8.ofNat o.1.toNat) o.2 ++ encL l
def enc (l : List O) : List UInt8 := encL l ++ [255]
end Go.Proofs.YtlabnocmmeciaaaGreatDoor.OPT
namespace Go.Proofs.YtlabnocmmeciaaaGreatDoor.DN
open Go
def isLow (c : UInt8) : Bool := (decide (97 ≤ c) && decide (c ≤ 122)) || (decide (48 ≤ c) && decide (c ≤ 57)) || c == 45 || c == 95
def ordL (s : List UInt8) : Bool := !s.isEmpty && decide (s.length ≤ 63) && s.all isLow
def labL (s : List UInt8) : Bool := ordL s || s == [42]
def labs : List (List UInt8) → Bool
  | [] => true
  | x :: xs => labL x && xs.all ordL
def txt (l : List (List UInt8)) : List UInt8 := l.flatMap (· ++ [46])
def nm (l : List (List UInt8)) : List UInt8 := if l = [] then [46] else txt l
/-- the pieces that end in a period; the last piece without one, if any, too -/
def cuts : List UInt8 → List (List UInt8)
  | [] => []
  | c :: r => if c = 46 then [] :: cuts r else
    match cuts r with
    | [] => [[c]]
    | x :: xs => (c :: x) :: xs
def validL (s : List UInt8) : Bool := s == [46] || (decide (s.length ≤ 254) && s.getLast? == some 46 && labs (cuts s))
def labelsL (s : List UInt8) : List (List UInt8) := if s = [46] then [] else if validL s then cuts s else []
theorem txt_cons (x : List UInt8) (l : List (List UInt8)) : txt (x :: l) = x ++ 46 :: txt l := by simp [txt]
theorem txt_nil : txt [] = [] := rfl
theorem txt_append (a b : List (List UInt8)) : txt (a ++ b) = txt a ++ txt b := by simp [txt]
theorem cuts_piece (x : List UInt8) (hx : ∀ c ∈ x, c ≠ 46) (r : List UInt8) : cuts (x ++ 46 :: r) = x :: cuts r := by
  induction x with
  | nil => simp [cuts]
  | cons c x ih =>
    have hc : c ≠ 46 := hx c (by simp)
    have := ih (fun d hd => hx d (by simp [hd]))
    simp only [List.cons_append, cuts, if_neg hc, this]
theorem invalid_labels {s : List UInt8} (h : validL s = false) : labelsL s = [] := by
  unfold labelsL
  split
  · rfl
  · simp [h]
theorem lab_len' {s : List UInt8} (h : labL s = true) : s.length ≤ 63 := by
  simp only [labL, ordL, Bool.or_eq_true, Bool.and_eq_true, decide_eq_true_iff, beq_iff_eq] at h
  rcases h with h | rfl
  · exact h.1.2
  · simp
open RowKit YtlabnocmmeciaaaGreatDoorW.PrintWords
abbrev L (b : ByteArray) : List UInt8 := b.data.toList
def B (l : List UInt8) : ByteArray := ⟨l.toArray⟩
@[simp] theorem L_B (l : List UInt8) : L (B l) = l := rfl
@[simp] theorem B_L (b : ByteArray) : B (L b) = b := by obtain ⟨⟨l⟩⟩ := b; rfl
theorem L_inj {a b : ByteArray} (h : L a = L b) : a = b := by rw [← B_L a, ← B_L b, h]
theorem L_len (a : ByteArray) : (L a).length = a.size := (Lib.size_eq a).symm
theorem toList_L (a : ByteArray) : a.toList = L a := Lib.toList_data a
theorem L_append (a b : ByteArray) : L (a ++ b) = L a ++ L b := by simp [L, ByteArray.data_append]
theorem L_extract (s : ByteArray) (a b : Nat) : L (s.extract a b) = ((L s).drop a).take (b - a) := Lib.extract_data s a b
theorem B_size (l : List UInt8) : (B l).size = l.length := by simp [B, ByteArray.size]
/-- a byte of a string, as a number -/
theorem bt_L (s : ByteArray) (i : Nat) (h : i < (L s).length) : bt s (i : Int) = (((L s)[i]).toNat : Int) := by
  have h' : i < s.size := by rw [L_len] at h; exact h
  unfold bt
  rw [dif_pos (by simpa using h')]
  rfl
theorem wrap_id {x : Int} (h0 : -9223372036854775808 ≤ x) (h1 : x ≤ 9223372036854775807) : wrap64 x = x := by unfold wrap64; omega
end Go.Proofs.YtlabnocmmeciaaaGreatDoor.DN
namespace Go.Proofs.YtlabnocmmeciaaaGreatDoor
open Shelf
def Tryz.rn : Go.Shelf.Ren := ⟨fun | 138 => 89 | 143 => 90 | 146 => 65 | 166 => 48 | 167 => 49 | 169 => 50 | 195 => 93 | 197 => 94 | 217 => 98 | 218 => 95 | 219 => 96 | 221 => 80 | 224 => 100 | 225 => 99 | 240 => 63 | 260 => 97 | 266 => 102 | 267 => 101 | 268 => 88 | 276 => 78 | 314 => 103 | n => n, fun | 0 => 0 | 1 => 1 | 2 => 2 | 3 => 3 | 4 => 4 | 5 => 5 | 6 => 6 | 7 => 7 | 8 => 8 | 9 => 9 | 10 => 10 | 11 => 11 | 12 => 12 | 13 => 13 | 14 => 14 | 15 => 15 | 16 => 16 | 17 => 17 | 18 => 18 | 19 => 19 | 20 => 20 | 21 => 21 | 22 => 97 | 24 => 101 | 27 => 116 | 31 => 58 | 37 => 78 | 43 => 65 | 46 => 89 | 51 => 22 | 53 => 24 | 55 => 122 | 61 => 98 | 70 => 77 | 71 => 79 | 72 => 80 | 74 => 81 | 75 => 82 | 76 => 83 | 77 => 84 | 78 => 85 | 80 => 86 | 81 => 134 | 103 => 119 | 104 => 55 | 105 => 120 | 106 => 121 | 111 => 113 | 113 => 110 | 114 => 91 | 119 => 123 | 127 => 96 | 131 => 105 | 137 => 124 | 138 => 125 | 139 => 126 | 146 => 127 | 150 => 115 | 151 => 128 | 164 => 108 | 165 => 109 | 238 => 129 | 239 => 130 | 240 => 131 | 241 => 132 | 242 => 133 | 243 => 135 | 244 => 136 | 245 => 137 | 246 => 138 | 247 => 139 | 248 => 140 | 249 => 141 | n => n, fun | 1 => 0 | 3 => 1 | 4 => 2 | n => n⟩
theorem Tryz.lay146 : Go.Proofs.Lays.n146 Tryz.prog Tryz.rn := {
  mixed := by kernel_rfl
  f138 := Tryz.func89.trans (congrArg some (by kernel_rfl))
  f143 := Tryz.func90.trans (congrArg some (by kernel_rfl))
  f146 := Tryz.func65.trans (congrArg some (by kernel_rfl))
  f195 := Tryz.func93.trans (congrArg some (by kernel_rfl))
  f197 := Tryz.func94.trans (congrArg some (by kernel_rfl))
  f217 := Tryz.func98.trans (congrArg some (by kernel_rfl))
  f218 := Tryz.func95.trans (congrArg some (by kernel_rfl))
  f219 := Tryz.func96.trans (congrArg some (by kernel_rfl))
  f221 := Tryz.func80.trans (congrArg some (by kernel_rfl))
  f224 := Tryz.func100.trans (congrArg some (by kernel_rfl))
  f225 := Tryz.func99.trans (congrArg some (by kernel_rfl))
  f260 := Tryz.func97.trans (congrArg some (by kernel_rfl))
  f266 := Tryz.func102.trans (congrArg some (by kernel_rfl))
  f267 := Tryz.func101.trans (congrArg some (by kernel_rfl))
  f268 := Tryz.func88.trans (congrArg some (by kernel_rfl))
  f314 := Tryz.func103.trans (congrArg some (by kernel_rfl))
  t0 := Tryz.underlying0
  a0 := Tryz.isAgg0
  z0 := Tryz.sizeOf0
  v0 := Tryz.zeroValue0
  t3 := Tryz.underlying3
  a3 := Tryz.isAgg3
  z3 := Tryz.sizeOf3
  v3 := Tryz.zeroValue3
  t4 := Tryz.underlying4
  a4 := Tryz.isAgg4
  z4 := Tryz.sizeOf4
  v4 := Tryz.zeroValue4
  t5 := Tryz.underlying5
  a5 := Tryz.isAgg5
  z5 := Tryz.sizeOf5
  v5 := Tryz.zeroValue5
  t9 := Tryz.underlying9
  a9 := Tryz.isAgg9
  z9 := Tryz.sizeOf9
  v9 := Tryz.zeroValue9
  t21 := Tryz.underlying21
  a21 := Tryz.isAgg21
  z21 := Tryz.sizeOf21
  v21 := Tryz.zeroValue21
  t31 := Tryz.underlying58
  a31 := Tryz.isAgg58
  z31 := Tryz.sizeOf58
  v31 := Tryz.zeroValue58
  t46 := Tryz.underlying89
  a46 := Tryz.isAgg89
  z46 := Tryz.sizeOf89
  v46 := Tryz.zeroValue89
  t51 := Tryz.underlying22
  a51 := Tryz.isAgg22
  z51 := Tryz.sizeOf22
  v51 := Tryz.zeroValue22
  t105 := Tryz.underlying120
  a105 := Tryz.isAgg120
  z105 := Tryz.sizeOf120
  v105 := Tryz.zeroValue120
  t119 := Tryz.underlying123
  a119 := Tryz.isAgg123
  z119 := Tryz.sizeOf123
  t138 := Tryz.underlying125
  a138 := Tryz.isAgg125
  z138 := Tryz.sizeOf125
  v138 := Tryz.zeroValue125
  t139 := Tryz.underlying126
  a139 := Tryz.isAgg126
  z139 := Tryz.sizeOf126
  v139 := Tryz.zeroValue126
  t146 := Tryz.underlying127
  a146 := Tryz.isAgg127
  z146 := Tryz.sizeOf127
  v146 := Tryz.zeroValue127
  g1 := by kernel_rfl
  g3 := by kernel_rfl
  g4 := by kernel_rfl }
theorem Tryz.lay166 : Go.Proofs.Lays.n166 Tryz.prog Tryz.rn := {
  mixed := by kernel_rfl
  f166 := Tryz.func48.trans (congrArg some (by kernel_rfl))
  f240 := Tryz.func63.trans (congrArg some (by kernel_rfl))
  f276 := Tryz.func78.trans (congrArg some (by kernel_rfl))
  t0 := Tryz.underlying0
  a0 := Tryz.isAgg0
  z0 := Tryz.sizeOf0
  v0 := Tryz.zeroValue0
  t3 := Tryz.underlying3
  a3 := Tryz.isAgg3
  z3 := Tryz.sizeOf3
  v3 := Tryz.zeroValue3
  t4 := Tryz.underlying4
  a4 := Tryz.isAgg4
  z4 := Tryz.sizeOf4
  v4 := Tryz.zeroValue4
  t9 := Tryz.underlying9
  a9 := Tryz.isAgg9
  z9 := Tryz.sizeOf9
  v9 := Tryz.zeroValue9
  t20 := Tryz.underlying20
  a20 := Tryz.isAgg20
  z20 := Tryz.sizeOf20
  v20 := Tryz.zeroValue20
  t37 := Tryz.underlying78
  a37 := Tryz.isAgg78
  z37 := Tryz.sizeOf78
  v37 := Tryz.zeroValue78
  t70 := Tryz.underlying77
  a70 := Tryz.isAgg77
  z70 := Tryz.sizeOf77
  v70 := Tryz.zeroValue77
  t72 := Tryz.underlying80
  a72 := Tryz.isAgg80
  z72 := Tryz.sizeOf80
  v72 := Tryz.zeroValue80
  t75 := Tryz.underlying82
  a75 := Tryz.isAgg82
  z75 := Tryz.sizeOf82
  v75 := Tryz.zeroValue82
  t164 := Tryz.underlying108
  a164 := Tryz.isAgg108
  z164 := Tryz.sizeOf108
  v164 := Tryz.zeroValue108 }
theorem Tryz.lay167 : Go.Proofs.Lays.n167 Tryz.prog Tryz.rn := {
  mixed := by kernel_rfl
  f167 := Tryz.func49.trans (congrArg some (by kernel_rfl))
  f240 := Tryz.func63.trans (congrArg some (by kernel_rfl))
  f276 := Tryz.func78.trans (congrArg some (by kernel_rfl))
  t0 := Tryz.underlying0
  a0 := Tryz.isAgg0
  z0 := Tryz.sizeOf0
  v0 := Tryz.zeroValue0
  t4 := Tryz.underlying4
  a4 := Tryz.isAgg4
  z4 := Tryz.sizeOf4
  v4 := Tryz.zeroValue4
  t5 := Tryz.underlying5
  a5 := Tryz.isAgg5
  z5 := Tryz.sizeOf5
  v5 := Tryz.zeroValue5
  t9 := Tryz.underlying9
  a9 := Tryz.isAgg9
  z9 := Tryz.sizeOf9
  v9 := Tryz.zeroValue9
  t20 := Tryz.underlying20
  a20 := Tryz.isAgg20
  z20 := Tryz.sizeOf20
  v20 := Tryz.zeroValue20
  t37 := Tryz.underlying78
  a37 := Tryz.isAgg78
  z37 := Tryz.sizeOf78
  v37 := Tryz.zeroValue78
  t70 := Tryz.underlying77
  a70 := Tryz.isAgg77
  z70 := Tryz.sizeOf77
  v70 := Tryz.zeroValue77
  t72 := Tryz.underlying80
  a72 := Tryz.isAgg80
  z72 := Tryz.sizeOf80
  v72 := Tryz.zeroValue80
  t75 := Tryz.underlying82
  a75 := Tryz.isAgg82
  z75 := Tryz.sizeOf82
  v75 := Tryz.zeroValue82
  t164 := Tryz.underlying108
  a164 := Tryz.isAgg108
  z164 := Tryz.sizeOf108
  v164 := Tryz.zeroValue108 }
theorem Tryz.lay169 : Go.Proofs.Lays.n169 Tryz.prog Tryz.rn := {
  mixed := by kernel_rfl
  f169 := Tryz.func50.trans (congrArg some (by kernel_rfl))
  t0 := Tryz.underlying0
  a0 := Tryz.isAgg0
  z0 := Tryz.sizeOf0
  v0 := Tryz.zeroValue0
  t3 := Tryz.underlying3
  a3 := Tryz.isAgg3
  z3 := Tryz.sizeOf3
  v3 := Tryz.zeroValue3
  t9 := Tryz.underlying9
  a9 := Tryz.isAgg9
  z9 := Tryz.sizeOf9
  v9 := Tryz.zeroValue9
  t37 := Tryz.underlying78
  a37 := Tryz.isAgg78
  z37 := Tryz.sizeOf78
  v37 := Tryz.zeroValue78
  t70 := Tryz.underlying77
  a70 := Tryz.isAgg77
  z70 := Tryz.sizeOf77
  v70 := Tryz.zeroValue77
  t72 := Tryz.underlying80
  a72 := Tryz.isAgg80
  z72 := Tryz.sizeOf80
  v72 := Tryz.zeroValue80
  t127 := Tryz.underlying96
  a127 := Tryz.isAgg96
  z127 := Tryz.sizeOf96
  v127 := Tryz.zeroValue96 }
theorem Tryz.bx : Builder.Extra Tryz.prog Tryz.rn := {
  sizeBuilder := by kernel_rfl
  liesBuilder := by kernel_rfl
  t5 := Tryz.underlying5
  a5 := Tryz.isAgg5
  z5 := Tryz.sizeOf5
  v5 := Tryz.zeroValue5
  infoByte := by kernel_rfl
  cellsByte := by kernel_rfl
  sizeByte := by kernel_rfl
  neB5 := by decide }
open RowKit Lib
theorem index_one (c : UInt8) : ∀ s : List UInt8, Lib.index s [c] = Lib.indexByte s c
  | [] => by simp [Lib.index, Lib.indexByte]
  | b :: l => by
    have ih := index_one c l
    rw [Lib.index, Lib.indexByte, ih]
    by_cases h : b = c
    · subst h; simp [List.isPrefixOf]
    · have hn : (c == b) = false := by simpa using fun e => h e.symm
      have hn' : (b == c) = false := by simpa using h
      simp [List.isPrefixOf, hn, hn']
section
variable {P : Program} {ρ : Ren}
theorem split_one (L : Lays.n146 P ρ) (hi9 : (P.info? (ρ.t 9)).map (fun i => (i.zero, i.size, i.bytes)) = some (some (.string ByteArray.empty), 1, 16)) (s : ByteArray) (b : UInt8) (w : World)
    (hs : s.size < 4294967281) :
    Calls P (ρ.f 146) #[.string s, .string ⟨#[b]⟩] w fun e w' =>
      e = .returned (.slice (some ⟨w.heap.size, 0, none⟩) (Lib.countB s ⟨#[b]⟩ + 1) (Lib.countB s ⟨#[b]⟩ + 1)) ∧ w' = w.alloc (.cells ((Lib.splitB ⟨#[b]⟩ 0 (Lib.countB s ⟨#[b]⟩) s).map Value.string).toArray (ρ.t 9)) := by
  have h1 : 1 ≤ (⟨#[b]⟩ : ByteArray).size := Nat.le_refl 1
  have hle := Lib.countB_le ⟨#[b]⟩ h1 s.size s (Nat.le_refl _)
  have hlen := Lib.splitB_all ⟨#[b]⟩ h1 0 _ s rfl
  have c : Calls P (ρ.f 221) #[.string s, .string ⟨#[b]⟩, .int .i64 (0 : Nat), .int .i64 (-1)] w fun e w' =>
      e = .returned (.slice (some ⟨w.heap.size, 0, none⟩) (Lib.splitB ⟨#[b]⟩ 0 (Lib.countB s ⟨#[b]⟩ + 1 - 1) s).length (Lib.countB s ⟨#[b]⟩ + 1)) ∧ w' = w.alloc (.cells (Lib.cellsOf (Lib.splitB ⟨#[b]⟩ 0 (Lib.countB s ⟨#[b]⟩ + 1 - 1) s) (Lib.countB s ⟨#[b]⟩ + 1)) (ρ.t 9)) :=
    Any.strings_genSplit_core { L with } hi9 s ⟨#[b]⟩ 0 (-1) (Lib.countB s ⟨#[b]⟩ + 1) w hs h1 (Nat.zero_le _)
      (fun x a hx => (Any.strings_Index_one { L with } x b _).mono fun e w' ⟨he, hw⟩ => ⟨by rw [he, ← index_one], hw⟩)
      ((Any.strings_Count_one { L with } s b w).mono fun e w' ⟨he, hw⟩ => ⟨by rw [he]; show _ = Ending.returned (Value.int .i64 ((Lib.count s.data.toList [b] : Nat) : Int)); rw [Lib.count_one]; rfl, hw⟩)
      (by decide) (by decide) (by rw [if_pos (by decide)]; omega)
  rw [Nat.add_sub_cancel, hlen] at c
  have e2 : Lib.cellsOf (Lib.splitB ⟨#[b]⟩ 0 (Lib.countB s ⟨#[b]⟩) s) (Lib.countB s ⟨#[b]⟩ + 1) = ((Lib.splitB ⟨#[b]⟩ 0 (Lib.countB s ⟨#[b]⟩) s).map Value.string).toArray := by rw [← hlen]; exact Lib.cellsOf_full _
  rw [e2] at c
  have t3 := L.t3; have t9 := L.t9; have t31 := L.t31
  have a3 := L.a3; have a9 := L.a9; have a31 := L.a31
  have z3 := L.z3; have v3 := L.v3; have z9 := L.z9; have v9 := L.v9; have z31 := L.z31; have v31 := L.v31
  have e221 : ∀ args w, (callFunc (ρ.f 221) args).run P w = .ok (.enter (ρ.f 221) args) w := enters_of L.f221 (by kernel_rfl) rfl
  go_enter L.f146, Body.n146_ntmps ρ
  go_wp2_with (go_at_fn (ρ.f 221); refine c.mono ?_; rintro e w' ⟨rfl, hw⟩; rw [hw])
  go_ret
  exact ⟨rfl, rfl⟩
end
namespace Pa
open Go.Proofs.YtlabnocmmeciaaaGreatDoorW.PrintWords Go.Proofs.YtlabnocmmeciaaaGreatDoorW.PrintLast Go.Proofs.YtlabnocmmeciaaaGreatDoorW.PrintMore
def strings_Split.f (a0 a1 : ByteArray) : Option (List ByteArray) :=
  if a1.size = 1 ∧ a0.size < 4294967281 then some (Lib.splitB a1 0 (Lib.countB a0 a1) a0) else none
theorem reps_strings (xs : List ByteArray) (R : ByteArray → List Value → Prop) (h : ∀ x, R x [.string x]) : Reps R 1 xs (xs.map Value.string) := by
  refine ⟨by simp, fun j p hj => ?_⟩
  have hl : j < xs.length := (List.getElem?_eq_some_iff.1 hj).1
  have hp : xs[j] = p := (List.getElem?_eq_some_iff.1 hj).2
  have e : ((xs.map Value.string).drop (j * 1)).take 1 = [.string p] := by
    rw [Nat.mul_one, List.drop_eq_getElem_cons (by simpa using hl)]
    simp [hp]
  rw [e]; exact h p
theorem strings_Split.calls (a0 a1 : ByteArray) (r : List ByteArray) (w : World) (h : strings_Split.f a0 a1 = some r) :
    Calls Tryz.prog 65 #[.string a0, .string a1] w fun e w' => ∃ v0_ : Value, e = .returned (v0_) ∧ Kd.R Kd.string 9 w' w.heap.size (fun _ => True) v0_ r ∧ Below w.heap.size w w' := by
  unfold strings_Split.f at h
  split at h
  · rename_i hc
    obtain rfl := Option.some.inj h
    obtain ⟨b, rfl⟩ := Lib.one_byte a1 hc.1
    have hlen := Lib.splitB_all ⟨#[b]⟩ (Nat.le_refl 1) 0 _ a0 rfl
    refine (split_one Tryz.lay146 (by kernel_rfl) a0 b w hc.2).mono ?_
    rintro e w' ⟨rfl, rfl⟩
    refine ⟨_, rfl, ?_, (Below.refl _ _).alloc (Nat.le_refl _) _⟩
    refine ⟨fun _ _ => trivial, (Lib.splitB ⟨#[b]⟩ 0 (Lib.countB a0 ⟨#[b]⟩) a0).map Value.string, ?_, ?_⟩
    · have hle := Lib.countB_le ⟨#[b]⟩ (Nat.le_refl 1) a0.size a0 (Nat.le_refl _)
      refine ⟨by simp [Kd.string, Kd.scalar], .inr ⟨w.heap.size, Lib.countB a0 ⟨#[b]⟩ + 1, ((Lib.splitB ⟨#[b]⟩ 0 (Lib.countB a0 ⟨#[b]⟩) a0).map Value.string).toArray, by rw [hlen], Nat.le_refl _, heap_alloc_new w _, by rw [hlen]; exact Nat.le_refl _, by unfold maxLen; omega, by simp [Kd.string, Kd.scalar, hlen], by rw [List.take_of_length_le (by simp [Kd.string, Kd.scalar])]⟩⟩
    · exact reps_strings _ _ (fun x => rfl)
  · cases h
end Pa
end Go.Proofs.YtlabnocmmeciaaaGreatDoor
namespace Go.Proofs.YtlabnocmmeciaaaGreatDoor.BQ
open Go RowKit YtlabnocmmeciaaaGreatDoorW.PrintWords YtlabnocmmeciaaaGreatDoorW.PrintLast YtlabnocmmeciaaaGreatDoorW.PrintMore
abbrev Bxs := List (Nat × TypeId × Array Value)
def Out (L : Bxs) (k : Nat) : Prop := ∀ b ∈ L, k ≠ b.1
/-- B: the elder blocks that F may look at. -/
structure Inv (B : Nat → Prop) (w0 : World) (L : Bxs) (F : World → Prop) (w : World) : Prop where
  below : Below w0.heap.size w0 w
  box : ∀ b ∈ L, w.heap[b.1]? = some (.cells b.2.2 b.2.1 (0, 0))
  own : ∀ b ∈ L, w0.heap.size ≤ b.1
  nodup : (L.map (·.1)).Nodup
  foot : Foot F w (fun k => (B k ∨ w0.heap.size ≤ k) ∧ Out L k)
namespace Inv
variable {P : Program} {B : Nat → Prop} {w0 w w1 : World} {L : Bxs} {F G : World → Prop} {g off : Nat} {t ty : TypeId} {cs cs' : Array Value} {v : Value}
theorem now (I : Inv B w0 L F w) : F w := I.foot.now
theorem start (hF : Foot F w0 B) : Inv B w0 [] F w0 :=
  ⟨Below.refl _ _, (fun _ h => by cases h), (fun _ h => by cases h), List.nodup_nil, hF.mono (fun k hk => ⟨.inl hk, fun _ h => by cases h⟩)⟩
theorem start0 : Inv (fun _ => False) w0 [] (fun _ => True) w0 := start (fun _ _ => trivial)
theorem imp (I : Inv B w0 L F w) (h : ∀ w', F w' → G w') : Inv B w0 L G w := ⟨I.below, I.box, I.own, I.nodup, I.foot.imp h⟩
theorem lt (I : Inv B w0 L F w) {b : Nat × TypeId × Array Value} (hb : b ∈ L) : b.1 < w.heap.size := blk_lt (I.box b hb)
theorem alloc (I : Inv B w0 L F w) (t : TypeId) (cs : Array Value) : Inv B w0 ((w.heap.size, t, cs) :: L) F (w.alloc (.cells cs t (0, 0))) := by
  refine ⟨I.below.alloc I.below.size _, fun b hb => ?_, fun b hb => ?_, ?_, fun W' hW => ?_⟩
  · rcases List.mem_cons.1 hb with rfl | hb
    · exact blk_new w _
    · exact (Below.heap_alloc w _ _ (I.lt hb)).trans (I.box b hb)
  · rcases List.mem_cons.1 hb with rfl | hb
    · exact I.below.size
    · exact I.own b hb
  · rw [List.map_cons, List.nodup_cons]
    refine ⟨fun h => ?_, I.nodup⟩
    obtain ⟨b, hb, e⟩ := List.mem_map.1 h
    have := I.lt hb
    rw [e] at this
    exact Nat.lt_irrefl _ this
  · refine I.foot W' (fun k hk hlt => (hW k ⟨hk.1, fun b hb => ?_⟩ ?_).trans (Below.heap_alloc w _ _ hlt))
    · rcases List.mem_cons.1 hb with rfl | hb
      · exact Nat.ne_of_lt hlt
      · exact hk.2 b hb
    · show k < (w.heap.push _).size
      rw [Array.size_push]; omega
theorem drew (I : Inv B w0 L F w) : Inv B w0 L F w.drew := ⟨I.below.drew, I.box, I.own, I.nodup, fun W' hW => I.foot W' hW⟩
theorem drewN (I : Inv B w0 L F w) (n : Nat) : Inv B w0 L F (w.drewN n) := ⟨pw_below_drewN I.below n, I.box, I.own, I.nodup, fun W' hW => I.foot W' hW⟩
theorem call (I : Inv B w0 L F w) (hb : Below w.heap.size w w1) : Inv B w0 L F w1 := by
  refine ⟨I.below.trans (hb.mono I.below.size), fun b h => (hb.block _ (I.lt h)).trans (I.box b h), I.own, I.nodup, fun W' hW => I.foot W' (fun k hk hlt => (hW k hk ?_).trans (hb.block k hlt))⟩
  have := hb.size; omega
/-- A fact more: what it looks at lies outside of the variables. -/
theorem add (I : Inv B w0 L F w) (h : Foot G w (fun k => (B k ∨ w0.heap.size ≤ k) ∧ Out L k)) : Inv B w0 L (fun w => F w ∧ G w) w := ⟨I.below, I.box, I.own, I.nodup, fun W' hW => ⟨I.foot W' hW, h W' hW⟩⟩
theorem addNew (I : Inv B w0 L F w) (hb : Below w.heap.size w w1) {ok : Nat → Prop} (h : Foot G w1 ok) (hok : ∀ k, ok k → k < w1.heap.size → (B k ∨ w0.heap.size ≤ k) ∧ Out L k) : Inv B w0 L (fun w => F w ∧ G w) w1 :=
  (I.call hb).add (fun W' hW => h W' (fun k hk hlt => hW k (hok k hk hlt) hlt))
theorem new_out (I : Inv B w0 L F w) : ∀ k, w.heap.size ≤ k → (B k ∨ w0.heap.size ≤ k) ∧ Out L k := fun k hk => ⟨.inr (Nat.le_trans I.below.size hk), fun b hb e => by have := I.lt hb; omega⟩
/-- A variable's cells turn. -/
theorem upd (I : Inv B w0 L F w) {L' : Bxs} (hm : (g, t, cs) ∈ L) (hL : L' = L.map (fun b => if b.1 = g then (g, t, cs') else b)) (hg : w1.heap[g]? = some (.cells cs' t (0, 0))) (ho : ∀ k, k ≠ g → w1.heap[k]? = w.heap[k]?) (hb : Below g w w1) (hs : w1.heap.size = w.heap.size) : Inv B w0 L' F w1 := by
  subst hL
  have h1 : ∀ b ∈ L, (if b.1 = g then (g, t, cs') else b).1 = b.1 := fun b _ => by split <;> simp_all
  refine ⟨I.below.trans (hb.mono (I.own _ hm)), fun b hb => ?_, fun b hb => ?_, ?_, fun W' hW => ?_⟩
  · obtain ⟨b0, hb0, rfl⟩ := List.mem_map.1 hb
    by_cases e : b0.1 = g
    · rw [if_pos e]; exact hg
    · rw [if_neg e]; exact (ho _ e).trans (I.box b0 hb0)
  · obtain ⟨b0, hb0, rfl⟩ := List.mem_map.1 hb
    rw [h1 b0 hb0]; exact I.own b0 hb0
  · have : (L.map (fun b => if b.1 = g then (g, t, cs') else b)).map (·.1) = L.map (·.1) := by
      rw [List.map_map]; exact List.map_congr_left h1
    rw [this]; exact I.nodup
  · refine I.foot W' (fun k hk hlt => (hW k ⟨hk.1, fun b hb => ?_⟩ (by omega)).trans (ho k (hk.2 _ hm)))
    obtain ⟨b0, hb0, rfl⟩ := List.mem_map.1 hb
    rw [h1 b0 hb0]; exact hk.2 b0 hb0
end Inv
inductive Upd : Bxs → Nat → TypeId → Array Value → Array Value → Bxs → Prop
  | head {L : Bxs} {g : Nat} {t : TypeId} {cs cs' : Array Value} : Upd ((g, t, cs) :: L) g t cs cs' ((g, t, cs') :: L)
  | tail {L L' : Bxs} {g : Nat} {t : TypeId} {cs cs' : Array Value} {b : Nat × TypeId × Array Value} (h : Upd L g t cs cs' L') : Upd (b :: L) g t cs cs' (b :: L')
theorem Upd.mem {L L' : Bxs} {g : Nat} {t : TypeId} {cs cs' : Array Value} (h : Upd L g t cs cs' L') : (g, t, cs) ∈ L := by
  induction h with
  | head => exact List.mem_cons_self ..
  | tail _ ih => exact List.mem_cons_of_mem _ ih
theorem Upd.eq {L L' : Bxs} {g : Nat} {t : TypeId} {cs cs' : Array Value} (h : Upd L g t cs cs' L') (hn : (L.map (·.1)).Nodup) : L' = L.map (fun b => if b.1 = g then (g, t, cs') else b) := by
  induction h with
  | head =>
    rename_i L g t cs cs'
    rw [List.map_cons, if_pos rfl]
    rw [List.map_cons, List.nodup_cons] at hn
    congr 1
    have : ∀ b ∈ L, (if b.1 = g then (g, t, cs') else b) = b := fun b hb => if_neg (fun e => hn.1 (List.mem_map.2 ⟨b, hb, e⟩))
    rw [List.map_congr_left this, List.map_id']
  | tail h ih =>
    rename_i L L' g t cs cs' b
    rw [List.map_cons, List.nodup_cons] at hn
    rw [List.map_cons, if_neg, ih hn.2]
    exact fun e => hn.1 (List.mem_map.2 ⟨_, h.mem, e.symm⟩)
section
variable {P : Program} {B : Nat → Prop} {w0 w : World} {L L' : Bxs} {F : World → Prop} {g off : Nat} {t ty : TypeId} {cs cs' : Array Value} {v : Value}
def Ld (P : Program) (ty : TypeId) (cs : Array Value) (off : Nat) (v : Value) : Prop := ∀ (w : World) (g : Nat) (t : TypeId), w.heap[g]? = some (.cells cs t (0, 0)) → (loadVar ty ⟨g, off, none⟩).run P w = .ok v w
def Sr (P : Program) (ty : TypeId) (cs : Array Value) (off : Nat) (v : Value) (cs' : Array Value) : Prop := ∀ (w : World) (g : Nat) (t : TypeId), w.heap[g]? = some (.cells cs t (0, 0)) →
  ∃ w1, (storeVar ty ⟨g, off, none⟩ v).run P w = .ok () w1 ∧ w1.heap[g]? = some (.cells cs' t (0, 0)) ∧ (∀ k, k ≠ g → w1.heap[k]? = w.heap[k]?) ∧ Below g w w1 ∧ w1.heap.size = w.heap.size
theorem ld_row (d : TypeDesc) (hu : P.underlying ty = some d) (hd : d.isRow = true) (hi : (P.info? ty).map (·.size) = some cs.size) : Ld P ty cs 0 (.agg cs) :=
  fun w g t hg => run_loadVar_row w g t ty cs (0, 0) d hg hu (by cases d <;> simp_all [TypeDesc.isRow]) hi
theorem ld_mid (d : TypeDesc) (hu : P.underlying ty = some d) (hd : d.isRow = true) (ds : List Value) (hi : (P.info? ty).map (·.size) = some ds.length) (hc : ∀ j v, ds[j]? = some v → cs[off + j]? = some v) : Ld P ty cs off (.agg ds.toArray) :=
  fun w g t hg => run_loadVar_mid w g off ty ds d (fun j v hv => by rw [blk_cell hg]; exact hc j v hv) hu hd hi
theorem ld_one (d : TypeDesc) (hu : P.underlying ty = some d) (hd : d.isRow = false) (hc : cs[off]? = some v) : Ld P ty cs off v := fun w g t hg => by
  have hcell : w.cell? ⟨g, off, none⟩ = some v := by rw [blk_cell hg]; exact hc
  have hagg : (isAgg ty).run P w = .ok false w := by
    unfold isAgg
    rw [Sem.run_bind, run_underlying hu w]
    cases d <;> simp_all [TypeDesc.isRow]
  simp [loadVar, Sem.run_bind, hagg, hcell]
theorem set_sr (hg : w.heap[g]? = some (.cells cs t (0, 0))) (off : Nat) (v : Value) : (w.setCell ⟨g, off, none⟩ v).heap[g]? = some (.cells (cs.setIfInBounds off v) t (0, 0)) := blk_put hg off v rfl
theorem sr_one (hi : (P.info? ty).map (·.size) = some 1) (h1 : v.oneCell' = true) (hc : v.cells = #[v]) (hlt : off < cs.size) (hcs : cs.setIfInBounds off v = cs') : Sr P ty cs off v cs' := fun w g t hg => by
  subst hcs
  have hcell : (w.cell? ⟨g, off, none⟩).isSome = true := by rw [blk_cell hg]; simp [hlt]
  have hfr := blk_frozen hg off
  refine ⟨w.setCell ⟨g, off, none⟩ v, ?_, set_sr hg off v, fun k hk => Below.heap_setCell w _ v k hk, (Below.refl g w).setCell (p := ⟨g, off, none⟩) (Nat.le_refl _) v, by simp [World.setCell]⟩
  have hj0 : ∀ j, j < [v].length → j = 0 := fun j hj => by simpa using hj
  have := run_storeCells_cells (P := P) g off [v] 0 w (fun j hj => by rw [hj0 j hj]; simpa using hcell) (fun j hj => by rw [hj0 j hj]; simpa using hfr)
    (fun u hu => by rw [List.mem_singleton] at hu; rw [hu]; exact h1)
  cases hq : P.info? ty with
  | none => simp [hq] at hi
  | some i =>
    have hs : i.size = 1 := by simpa [hq] using hi
    simp only [Nat.add_zero] at this
    simp [storeVar, sizeOf, typeInfo, hq, hc, hs, this, World.setCells]
theorem setCells_sr : ∀ (ds : List Value) (w : World) (off : Nat) (cs : Array Value), w.heap[g]? = some (.cells cs t (0, 0)) →
    (w.setCells g off ds).heap[g]? = some (.cells ((ds.zipIdx off).foldl (fun c p => c.setIfInBounds p.2 p.1) cs) t (0, 0)) ∧ (∀ k, k ≠ g → (w.setCells g off ds).heap[k]? = w.heap[k]?) ∧ Below g w (w.setCells g off ds) ∧ (w.setCells g off ds).heap.size = w.heap.size
  | [], w, off, cs, h => ⟨h, fun _ _ => rfl, Below.refl _ _, rfl⟩
  | d :: ds, w, off, cs, h => by
    obtain ⟨h1, h2, h3, h4⟩ := setCells_sr ds (w.setCell ⟨g, off, none⟩ d) (off + 1) _ (set_sr h off d)
    exact ⟨h1, fun k hk => (h2 k hk).trans (Below.heap_setCell w _ d k hk), ((Below.refl g w).setCell (p := ⟨g, off, none⟩) (Nat.le_refl _) d).trans h3, h4.trans (by simp [World.setCell])⟩
theorem sr_mid (ds : Array Value) (hi : (P.info? ty).map (·.size) = some ds.size) (h1 : ds.all (·.oneCell') = true) (hlt : off + ds.size ≤ cs.size) (hcs : (ds.toList.zipIdx off).foldl (fun c p => c.setIfInBounds p.2 p.1) cs = cs') : Sr P ty cs off (.agg ds) cs' := fun w g t hg => by
  subst hcs
  obtain ⟨h2, h3, h4, h5⟩ := setCells_sr ds.toList w off cs hg
  exact ⟨_, run_storeVar_mid w g off ty ds (fun j hj => ⟨by rw [blk_cell hg]; simp; omega, blk_frozen hg _⟩) hi h1, h2, h3, h4, h5⟩
theorem sr_row (hi : (P.info? ty).map (·.size) = some cs'.size) (ho : cs.size = cs'.size) (h1 : cs'.all (·.oneCell') = true) : Sr P ty cs 0 (.agg cs') cs' := fun w g t hg => by
  obtain ⟨h2, h3, h4, h5⟩ := setCells_sr cs'.toList w 0 cs hg
  refine ⟨_, run_storeVar_mid w g 0 ty cs' (fun j hj => ⟨by rw [blk_cell hg]; simp; omega, blk_frozen hg _⟩) hi h1, ?_, h3, h4, h5⟩
  rw [h2]
  have : ∀ (ds : List Value) (off : Nat) (c : Array Value), c.size = off + ds.length → ((ds.zipIdx off).foldl (fun c p => c.setIfInBounds p.2 p.1) c).toList = c.toList.take off ++ ds := by
    intro ds
    induction ds with
    | nil => intro off c hc; simp at hc ⊢; rw [List.take_of_length_le (by simp [hc])]
    | cons d ds ih =>
      intro off c hc
      rw [List.zipIdx_cons, List.foldl_cons, ih (off + 1) _ (by simp at hc ⊢; omega)]
      simp only [Array.toList_setIfInBounds, List.length_cons] at hc ⊢
      have e : (c.toList.set off d).take (off + 1) = c.toList.take off ++ [d] := by
        rw [List.take_succ_eq_append_getElem (by simp; omega), List.take_set_of_le (Nat.le_refl _)]
        simp
      rw [e, List.append_assoc]
      rfl
  have h6 := this cs'.toList 0 cs (by simpa using ho)
  simp only [List.take_zero, List.nil_append] at h6
  rw [Array.toList_inj.1 h6]
variable {ops : Array Oper} {rest : List Oper} {o : Oper} {a : Act} {Q : Exit → Act → World → Prop} {x y : Operand}
theorem run_ld (ho : o.op = .load ty x) (hx : a.eval x = .pointer (some ⟨g, off, none⟩)) (I : Inv B w0 L F w) (hm : (g, t, cs) ∈ L) (hl : Ld P ty cs off v) : (execOp a.eval o).run P w = .ok (.value v) w := by
  have := hl w g t (I.box _ hm)
  unfold execOp
  simp only [ho, hx, Instr.loadAt, Instr.sureAddr, Sem.run_bind, Sem.run_pure, Result.andThen_ok, this]
theorem run_sr (ho : o.op = .store ty x y) (hx : a.eval x = .pointer (some ⟨g, off, none⟩)) (hy : a.eval y = v) (I : Inv B w0 L F w) (hu : Upd L g t cs cs' L') (hs : Sr P ty cs off v cs') : ∃ w1, (execOp a.eval o).run P w = .ok .skip w1 ∧ Inv B w0 L' F w1 := by
  obtain ⟨w1, h1, h2, h3, h4, h5⟩ := hs w g t (I.box _ hu.mem)
  refine ⟨w1, ?_, I.upd hu.mem (hu.eq I.nodup) h2 h3 h4 h5⟩
  unfold execOp
  simp only [ho, hx, hy, Instr.storeAt, Instr.sureAddr, Sem.run_bind, Sem.run_pure, Result.andThen_ok, h1]
theorem wl_ld (hgd : o.guard = none) (ho : o.op = .load ty x) (hx : a.eval x = .pointer (some ⟨g, off, none⟩)) (I : Inv B w0 L F w) (hm : (g, t, cs) ∈ L) (hl : Ld P ty cs off v) (h : wpList P ops Q rest (a.put o.dst v) w) : wpList P ops Q (o :: rest) a w :=
  wpList_plain hgd fun K hK => by
    unfold Oper.wp
    rw [run_ld ho hx I hm hl]
    exact hK _ _ h
theorem wl_sr (hgd : o.guard = none) (hd : o.dst = none) (ho : o.op = .store ty x y) (hx : a.eval x = .pointer (some ⟨g, off, none⟩)) (hy : a.eval y = v) (I : Inv B w0 L F w) (hu : Upd L g t cs cs' L') (hs : Sr P ty cs off v cs') (h : ∀ w1, Inv B w0 L' F w1 → wpList P ops Q rest a w1) : wpList P ops Q (o :: rest) a w :=
  wpList_plain hgd fun K hK => by
    obtain ⟨w1, h1, h2⟩ := run_sr (P := P) ho hx hy I hu hs
    unfold Oper.wp
    rw [h1]
    show K (a.put o.dst undef) w1
    rw [hd]
    exact hK _ _ (h w1 h2)
theorem wl_box (hgd : o.guard = none) (hrun : (execOp a.eval o).run P w = .ok (.value (.pointer (some ⟨w.heap.size, 0, none⟩))) (w.alloc (.cells cs t (0, 0)))) (I : Inv B w0 L F w)
    (h : ∀ g w1, Inv B w0 ((g, t, cs) :: L) F w1 → wpList P ops Q rest (a.put o.dst (.pointer (some ⟨g, 0, none⟩))) w1) : wpList P ops Q (o :: rest) a w :=
  wpList_plain hgd fun K hK => by
    unfold Oper.wp
    rw [hrun]
    exact hK _ _ (h _ _ (I.alloc t cs))
theorem gate_ld (_h : o.op = .load ty x) (h : wpList P ops Q (o :: rest) a w) : wpList P ops Q (o :: rest) a w := h
theorem gate_sr (_h : o.op = .store ty x y) (h : wpList P ops Q (o :: rest) a w) : wpList P ops Q (o :: rest) a w := h
theorem gate_box (_h : o.op = .box ty x) (h : wpList P ops Q (o :: rest) a w) : wpList P ops Q (o :: rest) a w := h
end
section
variable {α : Type} {B : Nat → Prop} {w0 w w1 : World} {L : Bxs} {F : World → Prop} {d : Kd α} {e base : Nat} {ok : Nat → Prop} {A : Option Addr} {c : Nat} {l : List α} {v : Value}
/-- A row that a call has made. -/
theorem Inv.addR (I : Inv B w0 L F w) (hb : Below w.heap.size w w1) (hR : d.R e w1 w.heap.size ok (.slice A l.length c) l) : Inv B w0 L (fun w => F w ∧ d.C w A l.length l) w1 :=
  I.addNew hb (ok := fun k => w.heap.size ≤ k) (Kd.F_mono (Kd.R_F (Kd.R_bound hR)) (fun k hk => hk.2.1)) (fun k hk _ => I.new_out k hk)
theorem Inv.addM (I : Inv B w0 L F w) (hb : Below w.heap.size w w1) (hR : d.R e w1 w.heap.size ok v l) : Inv B w0 L (fun W => F W ∧ d.R e W w0.heap.size (fun k => w.heap.size ≤ k) v l) w1 :=
  I.addNew hb (ok := fun k => w.heap.size ≤ k) (fun W' hW => Kd.R_step (Kd.R_lower (Kd.R_mono (Kd.R_bound hR) (fun k hk => hk.2.1)) I.below.size) (fun k hk hlt => hW k hk hlt)) (fun k hk _ => I.new_out k hk)
end
def cfst : Code → Code
  | .seq x _ => x
  | c => c
def csnd : Code → Code
  | .seq _ y => y
  | c => c
def cbody (f : Func) : Code := f.body.getD .skip
section
variable {P : Program} {ty off : Nat} {cs cs' : Array Value} {v : Value}
theorem ld_of (d : TypeDesc) (hu : P.underlying ty = some d) (hd : d.isRow = false) (hc : cs.toList[off]? = some v) : Ld P ty cs off v := ld_one d hu hd (by rw [← hc, Array.getElem?_toList])
theorem ld_sub3 {x y z : Value} (d : TypeDesc) (hu : P.underlying ty = some d) (hd : d.isRow = true) (hi : (P.info? ty).map (·.size) = some 3) (hx : cs.toList[off]? = some x) (hy : cs.toList[off + 1]? = some y) (hz : cs.toList[off + 2]? = some z) : Ld P ty cs off (.agg #[x, y, z]) :=
  ld_mid d hu hd [x, y, z] hi (fun j v hv => by
    match j, hv with
    | 0, hv => simp at hv; subst hv; rw [← hx, Array.getElem?_toList]; rfl
    | 1, hv => simp at hv; subst hv; rw [← hy, Array.getElem?_toList]
    | 2, hv => simp at hv; subst hv; rw [← hz, Array.getElem?_toList]
    | j + 3, hv => simp at hv)
end
def stC (c : ByteArray) (h : ByteArray) (st : Int) (xid : Int) (sv : Int) (v6 : Bool) (hi : Int) (lo : Int) (t1 : Int) (t2 : Int) (un : Int) (se : Int) (at_ : Int) : Array Value := #[.string c, .string h, .int .i64 st, .int .i64 xid, .int .i64 sv, .bool v6, .int .u64 hi, .int .u64 lo, .int .i64 t1, .int .i64 t2, .int .i64 un, .int .i64 se, .int .i64 at_]
section
variable {c : ByteArray} {h : ByteArray} {st : Int} {xid : Int} {sv : Int} {v6 : Bool} {hi : Int} {lo : Int} {t1 : Int} {t2 : Int} {un : Int} {se : Int} {at_ : Int}
theorem ld_st : Ld Tryz.prog 28 (stC c h st xid sv v6 hi lo t1 t2 un se at_) 0 (.agg (stC c h st xid sv v6 hi lo t1 t2 un se at_)) := ld_row _ Tryz.underlying28 rfl (by kernel_rfl)
theorem ld_st0 : Ld Tryz.prog 9 (stC c h st xid sv v6 hi lo t1 t2 un se at_) 0 (.string c) := ld_of _ Tryz.underlying9 rfl rfl
theorem ld_st1 : Ld Tryz.prog 9 (stC c h st xid sv v6 hi lo t1 t2 un se at_) 1 (.string h) := ld_of _ Tryz.underlying9 rfl rfl
theorem ld_st2 : Ld Tryz.prog 3 (stC c h st xid sv v6 hi lo t1 t2 un se at_) 2 (.int .i64 st) := ld_of _ Tryz.underlying3 rfl rfl
theorem sr_st2 {x : Int} : Sr Tryz.prog 3 (stC c h st xid sv v6 hi lo t1 t2 un se at_) 2 (.int .i64 x) (stC c h x xid sv v6 hi lo t1 t2 un se at_) := sr_one (by kernel_rfl) rfl rfl (by show 2 < 13; decide) rfl
theorem ld_st3 : Ld Tryz.prog 3 (stC c h st xid sv v6 hi lo t1 t2 un se at_) 3 (.int .i64 xid) := ld_of _ Tryz.underlying3 rfl rfl
theorem sr_st3 {x : Int} : Sr Tryz.prog 3 (stC c h st xid sv v6 hi lo t1 t2 un se at_) 3 (.int .i64 x) (stC c h st x sv v6 hi lo t1 t2 un se at_) := sr_one (by kernel_rfl) rfl rfl (by show 3 < 13; decide) rfl
theorem ld_st4 : Ld Tryz.prog 3 (stC c h st xid sv v6 hi lo t1 t2 un se at_) 4 (.int .i64 sv) := ld_of _ Tryz.underlying3 rfl rfl
theorem sr_st4 {x : Int} : Sr Tryz.prog 3 (stC c h st xid sv v6 hi lo t1 t2 un se at_) 4 (.int .i64 x) (stC c h st xid x v6 hi lo t1 t2 un se at_) := sr_one (by kernel_rfl) rfl rfl (by show 4 < 13; decide) rfl
theorem ld_st8 : Ld Tryz.prog 3 (stC c h st xid sv v6 hi lo t1 t2 un se at_) 8 (.int .i64 t1) := ld_of _ Tryz.underlying3 rfl rfl
theorem sr_st8 {x : Int} : Sr Tryz.prog 3 (stC c h st xid sv v6 hi lo t1 t2 un se at_) 8 (.int .i64 x) (stC c h st xid sv v6 hi lo x t2 un se at_) := sr_one (by kernel_rfl) rfl rfl (by show 8 < 13; decide) rfl
theorem ld_st9 : Ld Tryz.prog 3 (stC c h st xid sv v6 hi lo t1 t2 un se at_) 9 (.int .i64 t2) := ld_of _ Tryz.underlying3 rfl rfl
theorem sr_st9 {x : Int} : Sr Tryz.prog 3 (stC c h st xid sv v6 hi lo t1 t2 un se at_) 9 (.int .i64 x) (stC c h st xid sv v6 hi lo t1 x un se at_) := sr_one (by kernel_rfl) rfl rfl (by show 9 < 13; decide) rfl
theorem ld_st10 : Ld Tryz.prog 3 (stC c h st xid sv v6 hi lo t1 t2 un se at_) 10 (.int .i64 un) := ld_of _ Tryz.underlying3 rfl rfl
theorem sr_st10 {x : Int} : Sr Tryz.prog 3 (stC c h st xid sv v6 hi lo t1 t2 un se at_) 10 (.int .i64 x) (stC c h st xid sv v6 hi lo t1 t2 x se at_) := sr_one (by kernel_rfl) rfl rfl (by show 10 < 13; decide) rfl
theorem ld_st11 : Ld Tryz.prog 3 (stC c h st xid sv v6 hi lo t1 t2 un se at_) 11 (.int .i64 se) := ld_of _ Tryz.underlying3 rfl rfl
theorem sr_st11 {x : Int} : Sr Tryz.prog 3 (stC c h st xid sv v6 hi lo t1 t2 un se at_) 11 (.int .i64 x) (stC c h st xid sv v6 hi lo t1 t2 un x at_) := sr_one (by kernel_rfl) rfl rfl (by show 11 < 13; decide) rfl
theorem ld_st12 : Ld Tryz.prog 3 (stC c h st xid sv v6 hi lo t1 t2 un se at_) 12 (.int .i64 at_) := ld_of _ Tryz.underlying3 rfl rfl
theorem sr_st12 {x : Int} : Sr Tryz.prog 3 (stC c h st xid sv v6 hi lo t1 t2 un se at_) 12 (.int .i64 x) (stC c h st xid sv v6 hi lo t1 t2 un se x) := sr_one (by kernel_rfl) rfl rfl (by show 12 < 13; decide) rfl
theorem ld_stA5 : Ld Tryz.prog 26 (stC c h st xid sv v6 hi lo t1 t2 un se at_) 5 (.agg #[.bool v6, .int .u64 hi, .int .u64 lo]) := ld_sub3 _ Tryz.underlying26 rfl (by kernel_rfl) rfl rfl rfl
theorem sr_stA5 {x : Bool} {y z : Int} : Sr Tryz.prog 26 (stC c h st xid sv v6 hi lo t1 t2 un se at_) 5 (.agg #[.bool x, .int .u64 y, .int .u64 z]) (stC c h st xid sv x y z t1 t2 un se at_) := sr_mid _ (by kernel_rfl) (by simp [Value.oneCell']) (by show 8 ≤ 13; decide) rfl
theorem sr_st {c' : ByteArray} {h' : ByteArray} {st' : Int} {xid' : Int} {sv' : Int} {v6' : Bool} {hi' : Int} {lo' : Int} {t1' : Int} {t2' : Int} {un' : Int} {se' : Int} {at_' : Int} : Sr Tryz.prog 28 (stC c h st xid sv v6 hi lo t1 t2 un se at_) 0 (.agg (stC c' h' st' xid' sv' v6' hi' lo' t1' t2' un' se' at_')) (stC c' h' st' xid' sv' v6' hi' lo' t1' t2' un' se' at_') := sr_row (by kernel_rfl) rfl (by simp [stC, Value.oneCell'])
end
def pkC (ki : Int) (xid : Int) (sv : Int) (c : ByteArray) (v1 : Bool) (hi1 : Int) (lo1 : Int) (v2 : Bool) (hi2 : Int) (lo2 : Int) (v3 : Bool) (hi3 : Int) (lo3 : Int) (hr : Bool) (o : Value) : Array Value := #[.int .i64 ki, .int .i64 xid, .int .i64 sv, .string c, .bool v1, .int .u64 hi1, .int .u64 lo1, .bool v2, .int .u64 hi2, .int .u64 lo2, .bool v3, .int .u64 hi3, .int .u64 lo3, .bool hr, o]
section
variable {ki : Int} {xid : Int} {sv : Int} {c : ByteArray} {v1 : Bool} {hi1 : Int} {lo1 : Int} {v2 : Bool} {hi2 : Int} {lo2 : Int} {v3 : Bool} {hi3 : Int} {lo3 : Int} {hr : Bool} {o : Value}
theorem ld_pk : Ld Tryz.prog 38 (pkC ki xid sv c v1 hi1 lo1 v2 hi2 lo2 v3 hi3 lo3 hr o) 0 (.agg (pkC ki xid sv c v1 hi1 lo1 v2 hi2 lo2 v3 hi3 lo3 hr o)) := ld_row _ Tryz.underlying38 rfl (by kernel_rfl)
theorem ld_pk0 : Ld Tryz.prog 3 (pkC ki xid sv c v1 hi1 lo1 v2 hi2 lo2 v3 hi3 lo3 hr o) 0 (.int .i64 ki) := ld_of _ Tryz.underlying3 rfl rfl
theorem ld_pk1 : Ld Tryz.prog 3 (pkC ki xid sv c v1 hi1 lo1 v2 hi2 lo2 v3 hi3 lo3 hr o) 1 (.int .i64 xid) := ld_of _ Tryz.underlying3 rfl rfl
theorem sr_pk1 {x : Int} : Sr Tryz.prog 3 (pkC ki xid sv c v1 hi1 lo1 v2 hi2 lo2 v3 hi3 lo3 hr o) 1 (.int .i64 x) (pkC ki x sv c v1 hi1 lo1 v2 hi2 lo2 v3 hi3 lo3 hr o) := sr_one (by kernel_rfl) rfl rfl (by show 1 < 15; decide) rfl
theorem ld_pk2 : Ld Tryz.prog 3 (pkC ki xid sv c v1 hi1 lo1 v2 hi2 lo2 v3 hi3 lo3 hr o) 2 (.int .i64 sv) := ld_of _ Tryz.underlying3 rfl rfl
theorem sr_pk2 {x : Int} : Sr Tryz.prog 3 (pkC ki xid sv c v1 hi1 lo1 v2 hi2 lo2 v3 hi3 lo3 hr o) 2 (.int .i64 x) (pkC ki xid x c v1 hi1 lo1 v2 hi2 lo2 v3 hi3 lo3 hr o) := sr_one (by kernel_rfl) rfl rfl (by show 2 < 15; decide) rfl
theorem ld_pk3 : Ld Tryz.prog 9 (pkC ki xid sv c v1 hi1 lo1 v2 hi2 lo2 v3 hi3 lo3 hr o) 3 (.string c) := ld_of _ Tryz.underlying9 rfl rfl
theorem sr_pk3 {x : ByteArray} : Sr Tryz.prog 9 (pkC ki xid sv c v1 hi1 lo1 v2 hi2 lo2 v3 hi3 lo3 hr o) 3 (.string x) (pkC ki xid sv x v1 hi1 lo1 v2 hi2 lo2 v3 hi3 lo3 hr o) := sr_one (by kernel_rfl) rfl rfl (by show 3 < 15; decide) rfl
theorem ld_pk7 : Ld Tryz.prog 4 (pkC ki xid sv c v1 hi1 lo1 v2 hi2 lo2 v3 hi3 lo3 hr o) 7 (.bool v2) := ld_of _ Tryz.underlying4 rfl rfl
theorem ld_pk13 : Ld Tryz.prog 4 (pkC ki xid sv c v1 hi1 lo1 v2 hi2 lo2 v3 hi3 lo3 hr o) 13 (.bool hr) := ld_of _ Tryz.underlying4 rfl rfl
theorem ld_pk14 : Ld Tryz.prog 36 (pkC ki xid sv c v1 hi1 lo1 v2 hi2 lo2 v3 hi3 lo3 hr o) 14 (o) := ld_of _ Tryz.underlying36 rfl rfl
theorem sr_pk14 {x : Value} (h1 : x.oneCell' = true) (hc : x.cells = #[x]) : Sr Tryz.prog 36 (pkC ki xid sv c v1 hi1 lo1 v2 hi2 lo2 v3 hi3 lo3 hr o) 14 x (pkC ki xid sv c v1 hi1 lo1 v2 hi2 lo2 v3 hi3 lo3 hr x) := sr_one (by kernel_rfl) h1 hc (by show 14 < 15; decide) rfl
theorem ld_pkA4 : Ld Tryz.prog 26 (pkC ki xid sv c v1 hi1 lo1 v2 hi2 lo2 v3 hi3 lo3 hr o) 4 (.agg #[.bool v1, .int .u64 hi1, .int .u64 lo1]) := ld_sub3 _ Tryz.underlying26 rfl (by kernel_rfl) rfl rfl rfl
theorem ld_pkA7 : Ld Tryz.prog 26 (pkC ki xid sv c v1 hi1 lo1 v2 hi2 lo2 v3 hi3 lo3 hr o) 7 (.agg #[.bool v2, .int .u64 hi2, .int .u64 lo2]) := ld_sub3 _ Tryz.underlying26 rfl (by kernel_rfl) rfl rfl rfl
theorem sr_pkA7 {x : Bool} {y z : Int} : Sr Tryz.prog 26 (pkC ki xid sv c v1 hi1 lo1 v2 hi2 lo2 v3 hi3 lo3 hr o) 7 (.agg #[.bool x, .int .u64 y, .int .u64 z]) (pkC ki xid sv c v1 hi1 lo1 x y z v3 hi3 lo3 hr o) := sr_mid _ (by kernel_rfl) (by simp [Value.oneCell']) (by show 10 ≤ 15; decide) rfl
theorem ld_pkA10 : Ld Tryz.prog 26 (pkC ki xid sv c v1 hi1 lo1 v2 hi2 lo2 v3 hi3 lo3 hr o) 10 (.agg #[.bool v3, .int .u64 hi3, .int .u64 lo3]) := ld_sub3 _ Tryz.underlying26 rfl (by kernel_rfl) rfl rfl rfl
theorem sr_pk {ki' : Int} {xid' : Int} {sv' : Int} {c' : ByteArray} {v1' : Bool} {hi1' : Int} {lo1' : Int} {v2' : Bool} {hi2' : Int} {lo2' : Int} {v3' : Bool} {hi3' : Int} {lo3' : Int} {hr' : Bool} {o' : Value} (h1 : o'.oneCell' = true) : Sr Tryz.prog 38 (pkC ki xid sv c v1 hi1 lo1 v2 hi2 lo2 v3 hi3 lo3 hr o) 0 (.agg (pkC ki' xid' sv' c' v1' hi1' lo1' v2' hi2' lo2' v3' hi3' lo3' hr' o')) (pkC ki' xid' sv' c' v1' hi1' lo1' v2' hi2' lo2' v3' hi3' lo3' hr' o') := sr_row (by kernel_rfl) rfl (by simp [pkC, Value.oneCell']; exact h1)
end
section
variable {P : Program} {B : Nat → Prop} {w0 w : World} {L L' : Bxs} {F : World → Prop} {g off : Nat} {t ty : TypeId} {cs cs' : Array Value} {v : Value} {ops : Array Oper} {rest : List Oper} {o : Oper} {a : Act} {Q : Exit → Act → World → Prop} {x y : Operand}
theorem Inv.boxm (I : Inv B w0 L F w) (hm : (g, t, cs) ∈ L) : w.heap[g]? = some (.cells cs t (0, 0)) := I.box _ hm
theorem wl_sr2 (hgd : o.guard = none) (hd : o.dst = none) (ho : o.op = .store ty x y) (hx : a.eval x = .pointer (some ⟨g, off, none⟩)) (hy : a.eval y = v) (I : Inv B w0 L F w) (hm : (g, t, cs) ∈ L) (hs : Sr P ty cs off v cs') (hu : Upd L g t cs cs' L') (h : ∀ w1, Inv B w0 L' F w1 → wpList P ops Q rest a w1) : wpList P ops Q (o :: rest) a w :=
  wl_sr hgd hd ho hx hy I hu hs h
theorem wl_bx (hgd : o.guard = none) (ho : o.op = .box ty x) (hx : a.eval x = .agg cs) (I : Inv B w0 L F w) (h : ∀ g w1, Inv B w0 ((g, ty, cs) :: L) F w1 → wpList P ops Q rest (a.put o.dst (.pointer (some ⟨g, 0, none⟩))) w1) : wpList P ops Q (o :: rest) a w := by
  refine wl_box (t := ty) (cs := cs) hgd ?_ I h
  unfold execOp
  simp only [ho, hx, Instr.box]
  rfl
theorem ret_c {fn : Func} {p : Tmp} (hr : fn.results = #[.cell p ty]) (tmps : Array Value) (I : Inv B w0 L F w) (d : TypeDesc) (hp : tmps.getD p undef = .pointer (some ⟨g, 0, none⟩)) (hm : (g, t, cs) ∈ L) (hu : P.underlying ty = some d) (hd : (match d with | .struct _ | .array _ _ => true | _ => false) = true) (hi : (P.info? ty).map (·.size) = some cs.size) :
    (results fn tmps).run P w = .ok (.agg cs) w := results_cell_row hr tmps w g t cs (0, 0) d hp (I.boxm hm) hu hd hi
theorem ret_ct {fn : Func} {p u : Tmp} (hr : fn.results = #[.cell p ty, .tmp u]) (tmps : Array Value) (I : Inv B w0 L F w) (d : TypeDesc) (hp : tmps.getD p undef = .pointer (some ⟨g, 0, none⟩)) (hm : (g, t, cs) ∈ L) (hu : P.underlying ty = some d) (hd : (match d with | .struct _ | .array _ _ => true | _ => false) = true) (hi : (P.info? ty).map (·.size) = some cs.size) :
    (results fn tmps).run P w = .ok (.tuple #[.agg cs, tmps.getD u undef]) w := results_ct hr tmps w g t cs (0, 0) d hp (I.boxm hm) hu hd hi
theorem ret_ctt {fn : Func} {p u q : Tmp} (hr : fn.results = #[.cell p ty, .tmp u, .tmp q]) (tmps : Array Value) (I : Inv B w0 L F w) (d : TypeDesc) (hp : tmps.getD p undef = .pointer (some ⟨g, 0, none⟩)) (hm : (g, t, cs) ∈ L) (hu : P.underlying ty = some d) (hd : (match d with | .struct _ | .array _ _ => true | _ => false) = true) (hi : (P.info? ty).map (·.size) = some cs.size) :
    (results fn tmps).run P w = .ok (.tuple #[.agg cs, tmps.getD u undef, tmps.getD q undef]) w := results_ctt hr tmps w g t cs (0, 0) d hp (I.boxm hm) hu hd hi
end
section
variable {P : Program} {B : Nat → Prop} {w0 w w1 : World} {L L' : Bxs} {F : World → Prop} {g off : Nat} {t ty : TypeId} {cs cs' : Array Value} {v : Value} {ops : Array Oper} {oi oj : Oper} {a a' : Act} {Q : Exit → Act → World → Prop} {x y : Operand} {S : World → Prop} {ds : List Nat} {fuel : Nat} {l : Array Bool} {N : Option Tmp} {i j : Nat}
theorem Inv.sub (I : Inv B w0 L F w) (h : L'.Sublist L) : Inv B w0 L' F w :=
  ⟨I.below, fun b hb => I.box b (h.subset hb), fun b hb => I.own b (h.subset hb), (h.map _).nodup I.nodup, fun W' hW => I.foot W' (fun k hk => hW k ⟨hk.1, fun b hb => hk.2 b (h.subset hb)⟩)⟩
theorem draw_ {id n : Nat} (S : World → Prop) (ds : List Nat) (hm : P.follows .mixedOrders = true) (hn : ops.size = n) (hS : S w.drew) (h : wpAnyLast P .any ops Q S ds n (Array.replicate n false) a w.drew) : (Code.region id ops true).wp P Q a w := start_ _ hm hn rfl hS (fun _ => h)
theorem pu1 (hi : ops[i]? = some oi) (hN : oi.dst = N) (hc : anyB .any ops l (l.setIfInBounds i true) i = true) (h : wpAnyLast P .any ops Q S ds fuel (l.setIfInBounds i true) a' w)
    (hw : Region.wanted oi (yielded ops a.tmps) = true := by rfl) (hv : ∀ w, (execOp a.eval oi).run P w = .ok (.value v) w := by (intro w'; go_simp; with_reducible rfl))
    (ha : a.put N v = a' := by (simp only [Act.put, List.setIfInBounds_toArray, List.set_cons_zero, List.set_cons_succ, i64_w, i32_w]; rfl)) (hQ : ∀ c a w, Q (.panic c) (a.put oi.dst v) w → Q (.panic c) a w := by exact fun _ _ _ h => h) :
    wpAnyLast P .any ops Q S ds (fuel + 1) l a w := pure_ _ hi hN hc hQ (Or.inl ⟨hw, hv⟩) ha h
theorem ta1 (hi : ops[i]? = some oi) (hN : oi.dst = N) (hc : takeB .any ops ds l (l.setIfInBounds i true) i = true) (ho : oi.op = .load ty x) (hx : a.eval x = .pointer (some ⟨g, off, none⟩)) (hS : Inv B w0 L F w) (hm : (g, t, cs) ∈ L) (hl : Ld P ty cs off v)
    (h : wpAnyLast P .any ops Q (Inv B w0 L F) ds fuel (l.setIfInBounds i true) a' w)
    (hw : Region.wanted oi (yielded ops a.tmps) = true := by rfl) (ha : a.put N v = a' := by (simp only [Act.put, List.setIfInBounds_toArray, List.set_cons_zero, List.set_cons_succ, i64_w, i32_w]; rfl)) (hQ : ∀ c a w, Q (.panic c) (a.put oi.dst v) w → Q (.panic c) a w := by exact fun _ _ _ h => h) :
    wpAnyLast P .any ops Q (Inv B w0 L F) ds (fuel + 1) l a w := take_ _ hi hN hc hQ (Or.inl ⟨hw, fun w hS => run_ld ho hx hS hm hl⟩) hS ha h
/-- A store alone may come up; what holds behind it (S) is shown. -/
theorem st1 (hi : ops[i]? = some oi) (hN : oi.dst = none) (hc : readyB .any ops l (l.setIfInBounds i true) i = true) (hd : i ∉ ds) (ho : oi.op = .store ty x y) (hx : a.eval x = .pointer (some ⟨g, off, none⟩)) (hy : a.eval y = v) (I : Inv B w0 L F w) (hm : (g, t, cs) ∈ L) (hs : Sr P ty cs off v cs') (hu : Upd L g t cs cs' L')
    (h : ∀ w1, Inv B w0 L' F w1 → S w1 ∧ wpAnyLast P .any ops Q S ds fuel (l.setIfInBounds i true) a w1) (hw : Region.wanted oi (yielded ops a.tmps) = true := by rfl) : wpAnyLast P .any ops Q S ds (fuel + 1) l a w :=
  one_ _ hi hN hc hd (fun K hK => by
    obtain ⟨w1, h1, h2⟩ := run_sr (P := P) ho hx hy I hu hs
    exact skip_ hw hN h1 (hK.out a w1 (h w1 h2).1 (fun _ => (h w1 h2).2)))
/-- The same for a store of ds. -/
theorem sl1 (hi : ops[i]? = some oi) (hN : oi.dst = none) (hc : readyB .any ops l (l.setIfInBounds i true) i = true) (hd : i ∈ ds) (ho : oi.op = .store ty x y) (hx : a.eval x = .pointer (some ⟨g, off, none⟩)) (hy : a.eval y = v) (I : Inv B w0 L F w) (hm : (g, t, cs) ∈ L) (hs : Sr P ty cs off v cs') (hu : Upd L g t cs cs' L')
    (h : ∀ w1, Inv B w0 L' F w1 → wpAnyLast P .any ops Q S ds fuel (l.setIfInBounds i true) a w1) (hw : Region.wanted oi (yielded ops a.tmps) = true := by rfl) : wpAnyLast P .any ops Q S ds (fuel + 1) l a w :=
  last_ _ hi hN hc hd (fun K hK => by
    obtain ⟨w1, h1, h2⟩ := run_sr (P := P) ho hx hy I hu hs
    exact skip_ hw hN h1 (hK.out a w1 (h w1 h2)))
/-- A call alone may come up. -/
theorem ca1 {f : FuncId} {fn : Func} {ags : Array Operand} {ts : Array TypeId} (hi : ops[i]? = some oi) (hN : oi.dst = N) (hc : readyB .any ops l (l.setIfInBounds i true) i = true) (hd : i ∉ ds) (hf : P.funcs[f]? = some fn) (hname : (fn.name == "runtime.NumGoroutine") = false) (hb : fn.body.isSome = true) (args : Array Value)
    (hop : oi.op = .call { callee := .value (.func f), args := ags, argTypes := ts }) (hargs : ags.map a.eval = args)
    (h : Calls P f args w fun e w1 => ∃ v, e = .returned v ∧ S w1 ∧ wpAnyLast P .any ops Q S ds fuel (l.setIfInBounds i true) (a.put N v) w1) (hw : Region.wanted oi (yielded ops a.tmps) = true := by rfl) : wpAnyLast P .any ops Q S ds (fuel + 1) l a w :=
  one_ _ hi hN hc hd (fun K hK => goes_ hf hname hb args hw hN hop hargs (h.mono (fun e w1 ⟨v, he, hS, hh⟩ => ⟨v, he, hK.out _ _ hS (fun _ => hh)⟩)))
/-- Two may come up: both orders. -/
theorem two1 {Ni Nj : Option Tmp} (hi : ops[i]? = some oi) (hj : ops[j]? = some oj) (hNi : oi.dst = Ni) (hNj : oj.dst = Nj) (hc : (Region.ready .any ops l == [i, j]) = true) (hdi : i ∉ ds) (hdj : j ∉ ds)
    (h1 : ∀ K : Act → World → Prop, Shut (∀ a' w', S w' → (S w' → wpAnyLast P .any ops Q S ds fuel (l.setIfInBounds i true) a' w') → K a' w') → if Region.wanted oi (yielded ops a.tmps) = true then Oper.wp P oi a w K Q else K (a.put Ni undef) w)
    (h2 : ∀ K : Act → World → Prop, Shut (∀ a' w', S w' → (S w' → wpAnyLast P .any ops Q S ds fuel (l.setIfInBounds j true) a' w') → K a' w') → if Region.wanted oj (yielded ops a.tmps) = true then Oper.wp P oj a w K Q else K (a.put Nj undef) w) :
    wpAnyLast P .any ops Q S ds (fuel + 1) l a w := two_ _ _ hi hj hNi hNj (by rw [hc]; simp) hdi hdj h1 h2
theorem vs1 {K : Act → World → Prop} {V : Act → World → Prop} (hK : Shut (∀ a' w', S w' → (S w' → V a' w') → K a' w')) (hN : oi.dst = N) (hrun : (execOp a.eval oi).run P w = .ok (.value v) w1) (hS : S w1) (h : V (a.put N v) w1) (hw : Region.wanted oi (yielded ops a.tmps) = true := by rfl) : if Region.wanted oi (yielded ops a.tmps) = true then Oper.wp P oi a w K Q else K (a.put N undef) w :=
  value_ hw hN hrun (hK.out _ _ hS (fun _ => h))
theorem ss1 {K : Act → World → Prop} {V : Act → World → Prop} (hK : Shut (∀ a' w', S w' → (S w' → V a' w') → K a' w')) (hN : oi.dst = none) (ho : oi.op = .store ty x y) (hx : a.eval x = .pointer (some ⟨g, off, none⟩)) (hy : a.eval y = v) (I : Inv B w0 L F w) (hm : (g, t, cs) ∈ L) (hs : Sr P ty cs off v cs') (hu : Upd L g t cs cs' L')
    (h : ∀ w1, Inv B w0 L' F w1 → S w1 ∧ V a w1) (hw : Region.wanted oi (yielded ops a.tmps) = true := by rfl) : if Region.wanted oi (yielded ops a.tmps) = true then Oper.wp P oi a w K Q else K (a.put none undef) w := by
  obtain ⟨w1, h1, h2⟩ := run_sr (P := P) ho hx hy I hu hs
  exact skip_ hw hN h1 (hK.out a w1 (h w1 h2).1 (fun _ => (h w1 h2).2))
/-- One value's operation alone may come up. -/
theorem va1 (hi : ops[i]? = some oi) (hN : oi.dst = N) (hc : readyB .any ops l (l.setIfInBounds i true) i = true) (hd : i ∉ ds) (hrun : (execOp a.eval oi).run P w = .ok (.value v) w1) (hS : S w1) (h : wpAnyLast P .any ops Q S ds fuel (l.setIfInBounds i true) (a.put N v) w1) (hw : Region.wanted oi (yielded ops a.tmps) = true := by rfl) : wpAnyLast P .any ops Q S ds (fuel + 1) l a w :=
  one_ _ hi hN hc hd (fun K hK => value_ hw hN hrun (hK.out _ _ hS (fun _ => h)))
theorem do1 (hr : (Region.ready .any ops l == []) = true) (h : Q .normal a w) : wpAnyLast P .any ops Q S ds fuel l a w := done_ hr h
end
open Pa
def dhcp_Lease.f (k : Nat) (a0 a1 a2 : Int) (a3 : ByteArray) (a4 : Bool) (a5 a6 : Int) (a7 : Bool) (a8 a9 : Int) (a10 : Bool) (a11 a12 : Int) (a13 : Bool) (l : List S62) : Option (Int × Int × Int × Bool) :=
  (option_Find.f k l 51).bind fun p1 => if p1.2 = true then (option_Number.f k p1.1).bind fun p2 => if p2.2 = true then (dhcp_half.f p2.1).bind fun h => (dhcp_span.f k a0 a1 a2 a3 a4 a5 a6 a7 a8 a9 a10 a11 a12 a13 l 58 h).bind fun p3 => (dhcp_most.f p2.1).bind fun m => (dhcp_span.f k a0 a1 a2 a3 a4 a5 a6 a7 a8 a9 a10 a11 a12 a13 l 59 m).bind fun p4 =>
    (if p3.2 = true then (if p4.2 = true then (if p4.1 < p3.1 then some (0, 0, 0, false) else if p2.1 < p4.1 then some (0, 0, 0, false) else some (p2.1, p3.1, p4.1, true)) else some (0, 0, 0, false)) else some (0, 0, 0, false))
    else some (0, 0, 0, false) else some (0, 0, 0, false)
theorem dhcp_Lease.calls (k : Nat) (a0 a1 a2 : Int) (a3 : ByteArray) (a4 : Bool) (a5 a6 : Int) (a7 : Bool) (a8 a9 : Int) (a10 : Bool) (a11 a12 : Int) (a13 : Bool) (A : Option Addr) (c : Nat) (l : List S62) (r1 r2 r3 : Int) (r4 : Bool) (B : Nat → Prop) (w : World) (hB : Foot (fun W => Kd.C k62 W A l.length l) w B) (hc : l.length ≤ c) (h : dhcp_Lease.f k a0 a1 a2 a3 a4 a5 a6 a7 a8 a9 a10 a11 a12 a13 l = some (r1, r2, r3, r4)) :
  Calls Tryz.prog 60 #[.agg (pkC a0 a1 a2 a3 a4 a5 a6 a7 a8 a9 a10 a11 a12 a13 (.slice A l.length c))] w fun e w' => e = .returned (.tuple #[.int .i64 r1, .int .i64 r2, .int .i64 r3, .bool r4]) ∧ Below w.heap.size w w' := by
 have hu39 := Tryz.underlying38
 have HC := Aside0.mk hc
 have I : Aside0 (Inv B w [] (fun W => Kd.C k62 W A l.length l) w) := ⟨Inv.start hB⟩
 clear hB hc
 replace h := Option.bind_eq_some_iff.mp h
 obtain ⟨⟨v1, ok1⟩, F1, h⟩ := h
 have HF1 := Aside0.mk F1
 clear F1
 try dsimp only at h
 cases ok1
 · rw [if_neg (by decide)] at h
   simp only [Option.some.injEq, Prod.mk.injEq] at h
   obtain ⟨rfl, rfl, rfl, rfl⟩ := h
   go_enter Tryz.func60, Tryz.ntmps60
   go_wp2_with (first
    | ((with_reducible refine gate_box rfl ?_); refine wl_bx rfl rfl rfl I.out ?_; intro gb w1 hI; clear I; have I := Aside0.mk hI; clear hI)
    | ((with_reducible refine gate_ld rfl ?_); (try (refine gate_guard (by rfl) ?_; dsimp only)); refine wl_ld rfl rfl rfl I.out (by first | exact .head _ | exact .tail _ (.head _) | exact .tail _ (.tail _ (.head _)) | exact .tail _ (.tail _ (.tail _ (.head _)))) (by first | exact ld_pk14 | exact ld_pk) ?_)
    | ((with_reducible refine gate_callee (f := 71) rfl ?_); (try (refine gate_guard (by rfl) ?_; dsimp only)); refine goesL_ (some 16) rfl rfl Tryz.func71 (by kernel_rfl) rfl #[.slice A l.length c, .int .i64 51] rfl (by (try simp only [List.map_toArray, List.map_cons, List.map_nil]); first | done | rfl) ?_; (refine (option_Find.calls k A c l 51 v1 false _ I.out.now HC.out HF1.out).mono ?_); rintro e_ w1 ⟨rfl, hb⟩; refine ⟨_, rfl, ?_⟩; have I2 := Aside0.mk (I.out.call hb); clear I hb; have I := I2; clear I2)
    )
   refine bodyPost_ret (results_list (rs := [.tmp 2, .tmp 3, .tmp 4, .tmp 5]) rfl (by simp) (.tmp (.tmp (.tmp (.tmp .nil))))) rfl ?_
   exact ⟨rfl, I.out.below⟩
 rw [if_pos rfl] at h
 replace h := Option.bind_eq_some_iff.mp h
 obtain ⟨⟨n, ok2⟩, F2, h⟩ := h
 have HF2 := Aside0.mk F2
 clear F2
 try dsimp only at h
 cases ok2
 · rw [if_neg (by decide)] at h
   simp only [Option.some.injEq, Prod.mk.injEq] at h
   obtain ⟨rfl, rfl, rfl, rfl⟩ := h
   go_enter Tryz.func60, Tryz.ntmps60
   go_wp2_with (first
    | ((with_reducible refine gate_box rfl ?_); refine wl_bx rfl rfl rfl I.out ?_; intro gb w1 hI; clear I; have I := Aside0.mk hI; clear hI)
    | ((with_reducible refine gate_ld rfl ?_); (try (refine gate_guard (by rfl) ?_; dsimp only)); refine wl_ld rfl rfl rfl I.out (by first | exact .head _ | exact .tail _ (.head _) | exact .tail _ (.tail _ (.head _)) | exact .tail _ (.tail _ (.tail _ (.head _)))) (by first | exact ld_pk14 | exact ld_pk) ?_)
    | ((with_reducible refine gate_callee (f := 71) rfl ?_); (try (refine gate_guard (by rfl) ?_; dsimp only)); refine goesL_ (some 16) rfl rfl Tryz.func71 (by kernel_rfl) rfl #[.slice A l.length c, .int .i64 51] rfl (by (try simp only [List.map_toArray, List.map_cons, List.map_nil]); first | done | rfl) ?_; (refine (option_Find.calls k A c l 51 v1 true _ I.out.now HC.out HF1.out).mono ?_); rintro e_ w1 ⟨rfl, hb⟩; refine ⟨_, rfl, ?_⟩; have I2 := Aside0.mk (I.out.call hb); clear I hb; have I := I2; clear I2)
    | ((with_reducible refine gate_callee (f := 72) rfl ?_); (try (refine gate_guard (by rfl) ?_; dsimp only)); refine goesL_ (some 23) rfl rfl Tryz.func72 (by kernel_rfl) rfl #[.string v1] rfl (by (try simp only [List.map_toArray, List.map_cons, List.map_nil]); first | done | rfl) ?_; (refine (option_Number.calls k v1 n false _ HF2.out).mono ?_); rintro e_ w1 ⟨rfl, ⟨nd, rfl⟩⟩; refine ⟨_, rfl, ?_⟩; have I2 := Aside0.mk (I.out.call (pw_below_drewN (Below.refl _ _) nd)); clear I; have I := I2; clear I2)
    )
   refine bodyPost_ret (results_list (rs := [.tmp 2, .tmp 3, .tmp 4, .tmp 5]) rfl (by simp) (.tmp (.tmp (.tmp (.tmp .nil))))) rfl ?_
   exact ⟨rfl, I.out.below⟩
 rw [if_pos rfl] at h
 replace h := Option.bind_eq_some_iff.mp h
 obtain ⟨hf, F3, h⟩ := h
 have HF3 := Aside0.mk F3
 clear F3
 try dsimp only at h
 replace h := Option.bind_eq_some_iff.mp h
 obtain ⟨⟨t1, ok3⟩, F4, h⟩ := h
 have HF4 := Aside0.mk F4
 clear F4
 try dsimp only at h
 replace h := Option.bind_eq_some_iff.mp h
 obtain ⟨ms, F5, h⟩ := h
 have HF5 := Aside0.mk F5
 clear F5
 try dsimp only at h
 replace h := Option.bind_eq_some_iff.mp h
 obtain ⟨⟨t2, ok4⟩, F6, h⟩ := h
 have HF6 := Aside0.mk F6
 clear F6
 try dsimp only at h
 have H := Aside0.mk h
 clear h
 go_enter Tryz.func60, Tryz.ntmps60
 go_wp2_with (first
  | ((with_reducible refine gate_box rfl ?_); refine wl_bx rfl rfl rfl I.out ?_; intro gb w1 hI; clear I; have I := Aside0.mk hI; clear hI)
  | ((with_reducible refine gate_ld rfl ?_); (try (refine gate_guard (by rfl) ?_; dsimp only)); refine wl_ld rfl rfl rfl I.out (by first | exact .head _ | exact .tail _ (.head _) | exact .tail _ (.tail _ (.head _)) | exact .tail _ (.tail _ (.tail _ (.head _)))) (by first | exact ld_pk14 | exact ld_pk) ?_)
  | ((with_reducible refine gate_callee (f := 71) rfl ?_); (try (refine gate_guard (by rfl) ?_; dsimp only)); refine goesL_ (some 16) rfl rfl Tryz.func71 (by kernel_rfl) rfl #[.slice A l.length c, .int .i64 51] rfl (by (try simp only [List.map_toArray, List.map_cons, List.map_nil]); first | done | rfl) ?_; (refine (option_Find.calls k A c l 51 v1 true _ I.out.now HC.out HF1.out).mono ?_); rintro e_ w1 ⟨rfl, hb⟩; refine ⟨_, rfl, ?_⟩; have I2 := Aside0.mk (I.out.call hb); clear I hb; have I := I2; clear I2)
  | ((with_reducible refine gate_callee (f := 72) rfl ?_); (try (refine gate_guard (by rfl) ?_; dsimp only)); refine goesL_ (some 23) rfl rfl Tryz.func72 (by kernel_rfl) rfl #[.string v1] rfl (by (try simp only [List.map_toArray, List.map_cons, List.map_nil]); first | done | rfl) ?_; (refine (option_Number.calls k v1 n true _ HF2.out).mono ?_); rintro e_ w1 ⟨rfl, ⟨nd, rfl⟩⟩; refine ⟨_, rfl, ?_⟩; have I2 := Aside0.mk (I.out.call (pw_below_drewN (Below.refl _ _) nd)); clear I; have I := I2; clear I2)
  )
 have IS := Aside0.mk (I.out.sub (.cons_cons _ .slnil)).drew
 refine draw_ (Inv _ w [_] _) [] (by kernel_rfl) rfl IS.out ?_
 have I2 := Aside0.mk I.out.drew
 clear I
 have I := I2
 clear I2
 refine ta1 (i := 0) rfl rfl (by kernel_rfl) rfl rfl IS.out (by first | exact .head _ | exact .tail _ (.head _) | exact .tail _ (.tail _ (.head _)) | exact .tail _ (.tail _ (.tail _ (.head _)))) (by exact ld_pk) ?_ (ha := by (go_simp; rfl))
 refine pu1 (i := 1) rfl rfl (by kernel_rfl) ?_ (ha := by (go_simp; rfl))
 refine ca1 (i := 2) rfl rfl (by kernel_rfl) (by decide) Tryz.func74 (by kernel_rfl) rfl #[.int .i64 n] rfl (by (try simp only [List.map_toArray, List.map_cons, List.map_nil]); first | done | rfl) ?_
 refine (dhcp_half.calls n hf _ HF3.out).mono ?_
 rintro e_ w1 ⟨rfl, ⟨nd, rfl⟩⟩
 have I2 := Aside0.mk (I.out.call (pw_below_drewN (Below.refl _ _) nd))
 clear I
 have I := I2
 clear I2
 clear IS
 have IS := I
 refine ⟨_, rfl, IS.out, ?_⟩
 refine ca1 (i := 3) rfl rfl (by kernel_rfl) (by decide) Tryz.func73 (by kernel_rfl) rfl #[.agg (pkC a0 a1 a2 a3 a4 a5 a6 a7 a8 a9 a10 a11 a12 a13 (.slice A l.length c)), .int .i64 58, .int .i64 hf] rfl (by (try simp only [List.map_toArray, List.map_cons, List.map_nil]); first | done | rfl) ?_
 refine (dhcp_span.calls k a0 a1 a2 a3 a4 a5 a6 a7 a8 a9 a10 a11 a12 a13 A c l 58 hf t1 ok3 _ I.out.now HC.out HF4.out).mono ?_
 rintro e_ w1 ⟨rfl, hb⟩
 have I2 := Aside0.mk (I.out.call hb)
 clear I hb
 have I := I2
 clear I2
 clear IS
 have IS := I
 refine ⟨_, rfl, IS.out, ?_⟩
 refine pu1 (i := 4) rfl rfl (by kernel_rfl) ?_ (ha := by (go_simp; rfl))
 refine pu1 (i := 5) rfl rfl (by kernel_rfl) ?_ (ha := by (go_simp; rfl))
 refine pu1 (i := 6) rfl rfl (by kernel_rfl) ?_ (ha := by (go_simp; rfl))
 refine pu1 (i := 7) rfl rfl (by kernel_rfl) ?_ (ha := by (go_simp; rfl))
 refine pu1 (i := 8) rfl rfl (by kernel_rfl) ?_ (ha := by (go_simp; rfl))
 refine do1 (by kernel_rfl) ?_
 clear IS
 try go_wp2
 have IS := Aside0.mk (I.out.sub (.cons_cons _ .slnil)).drew
 refine draw_ (Inv _ w [_] _) [] (by kernel_rfl) rfl IS.out ?_
 have I2 := Aside0.mk I.out.drew
 clear I
 have I := I2
 clear I2
 refine ta1 (i := 0) rfl rfl (by kernel_rfl) rfl rfl IS.out (by first | exact .head _ | exact .tail _ (.head _) | exact .tail _ (.tail _ (.head _)) | exact .tail _ (.tail _ (.tail _ (.head _)))) (by exact ld_pk) ?_ (ha := by (go_simp; rfl))
 refine pu1 (i := 1) rfl rfl (by kernel_rfl) ?_ (ha := by (go_simp; rfl))
 refine ca1 (i := 2) rfl rfl (by kernel_rfl) (by decide) Tryz.func75 (by kernel_rfl) rfl #[.int .i64 n] rfl (by (try simp only [List.map_toArray, List.map_cons, List.map_nil]); first | done | rfl) ?_
 refine (dhcp_most.calls n ms _ HF5.out).mono ?_
 rintro e_ w1 ⟨rfl, ⟨nd, rfl⟩⟩
 have I2 := Aside0.mk (I.out.call (pw_below_drewN (Below.refl _ _) nd))
 clear I
 have I := I2
 clear I2
 clear IS
 have IS := I
 refine ⟨_, rfl, IS.out, ?_⟩
 refine ca1 (i := 3) rfl rfl (by kernel_rfl) (by decide) Tryz.func73 (by kernel_rfl) rfl #[.agg (pkC a0 a1 a2 a3 a4 a5 a6 a7 a8 a9 a10 a11 a12 a13 (.slice A l.length c)), .int .i64 59, .int .i64 ms] rfl (by (try simp only [List.map_toArray, List.map_cons, List.map_nil]); first | done | rfl) ?_
 refine (dhcp_span.calls k a0 a1 a2 a3 a4 a5 a6 a7 a8 a9 a10 a11 a12 a13 A c l 59 ms t2 ok4 _ I.out.now HC.out HF6.out).mono ?_
 rintro e_ w1 ⟨rfl, hb⟩
 have I2 := Aside0.mk (I.out.call hb)
 clear I hb
 have I := I2
 clear I2
 clear IS
 have IS := I
 refine ⟨_, rfl, IS.out, ?_⟩
 refine pu1 (i := 4) rfl rfl (by kernel_rfl) ?_ (ha := by (go_simp; rfl))
 refine pu1 (i := 5) rfl rfl (by kernel_rfl) ?_ (ha := by (go_simp; rfl))
 refine pu1 (i := 6) rfl rfl (by kernel_rfl) ?_ (ha := by (go_simp; rfl))
 refine pu1 (i := 7) rfl rfl (by kernel_rfl) ?_ (ha := by (go_simp; rfl))
 refine pu1 (i := 8) rfl rfl (by kernel_rfl) ?_ (ha := by (go_simp; rfl))
 refine do1 (by kernel_rfl) ?_
 clear IS
 have h := H.out
 clear H
 cases ok3
 · rw [if_neg (by decide)] at h
   simp only [Option.some.injEq, Prod.mk.injEq] at h
   obtain ⟨rfl, rfl, rfl, rfl⟩ := h
   go_wp2
   refine bodyPost_ret (results_list (rs := [.tmp 2, .tmp 3, .tmp 4, .tmp 5]) rfl (by simp) (.tmp (.tmp (.tmp (.tmp .nil))))) rfl ?_
   exact ⟨rfl, I.out.below⟩
 cases ok4
 · rw [if_pos rfl, if_neg (by decide)] at h
   simp only [Option.some.injEq, Prod.mk.injEq] at h
   obtain ⟨rfl, rfl, rfl, rfl⟩ := h
   go_wp2
   refine bodyPost_ret (results_list (rs := [.tmp 2, .tmp 3, .tmp 4, .tmp 5]) rfl (by simp) (.tmp (.tmp (.tmp (.tmp .nil))))) rfl ?_
   exact ⟨rfl, I.out.below⟩
 rw [if_pos rfl, if_pos rfl] at h
 by_cases c1 : t2 < t1
 · rw [if_pos c1] at h
   have c1b := decide_eq_true c1
   clear c1
   simp only [Option.some.injEq, Prod.mk.injEq] at h
   obtain ⟨rfl, rfl, rfl, rfl⟩ := h
   go_wp2
   refine bodyPost_ret (results_list (rs := [.tmp 2, .tmp 3, .tmp 4, .tmp 5]) rfl (by simp) (.tmp (.tmp (.tmp (.tmp .nil))))) rfl ?_
   exact ⟨rfl, I.out.below⟩
 rw [if_neg c1] at h
 have c1b := decide_eq_false c1
 clear c1
 by_cases c2 : n < t2
 · rw [if_pos c2] at h
   have c2b := decide_eq_true c2
   clear c2
   simp only [Option.some.injEq, Prod.mk.injEq] at h
   obtain ⟨rfl, rfl, rfl, rfl⟩ := h
   go_wp2
   refine bodyPost_ret (results_list (rs := [.tmp 2, .tmp 3, .tmp 4, .tmp 5]) rfl (by simp) (.tmp (.tmp (.tmp (.tmp .nil))))) rfl ?_
   exact ⟨rfl, I.out.below⟩
 rw [if_neg c2] at h
 have c2b := decide_eq_false c2
 clear c2
 simp only [Option.some.injEq, Prod.mk.injEq] at h
 obtain ⟨rfl, rfl, rfl, rfl⟩ := h
 go_wp2
 all_goals first | (exfalso; have d1 := of_decide_eq_false c1b; have d2 := of_decide_eq_false c2b; omega) | (refine bodyPost_ret (results_list (rs := [.tmp 2, .tmp 3, .tmp 4, .tmp 5]) rfl (by simp) (.tmp (.tmp (.tmp (.tmp .nil))))) rfl ?_; exact ⟨rfl, I.out.below⟩)
end Go.Proofs.YtlabnocmmeciaaaGreatDoor.BQ
namespace Go.Proofs.YtlabnocmmeciaaaGreatDoor.BQ
open Go RowKit YtlabnocmmeciaaaGreatDoorW.PrintWords YtlabnocmmeciaaaGreatDoorW.PrintLast YtlabnocmmeciaaaGreatDoorW.PrintMore
section
variable {P : Program} {B : Nat → Prop} {w0 w w1 : World} {L L' : Bxs} {F G : World → Prop} {g off : Nat} {t ty : TypeId} {cs cs' : Array Value} {v : Value} {ops : Array Oper} {rest : List Oper} {o : Oper} {a : Act} {Q : Exit → Act → World → Prop} {x y : Operand}
theorem mm0 {α : Type} {x : α} {L : List α} : x ∈ x :: L := .head _
theorem mm1 {α : Type} {x a : α} {L : List α} : x ∈ a :: x :: L := .tail _ mm0
theorem mm2 {α : Type} {x a b : α} {L : List α} : x ∈ a :: b :: x :: L := .tail _ mm1
theorem mm3 {α : Type} {x a b c : α} {L : List α} : x ∈ a :: b :: c :: x :: L := .tail _ mm2
theorem mm4 {α : Type} {x a b c d : α} {L : List α} : x ∈ a :: b :: c :: d :: x :: L := .tail _ mm3
theorem zm {p : Prop} (h : p := by first | exact mm0 | exact mm1 | exact mm2 | exact mm3 | exact mm4) : p := h
theorem zu {p : Prop} (h : p := by first | exact .head | exact .tail .head | exact .tail (.tail .head) | exact .tail (.tail (.tail .head)) | exact .tail (.tail (.tail (.tail .head)))) : p := h
theorem zh {p : Prop} (h : p := by (try simp only [List.map_toArray, List.map_cons, List.map_nil]); first | done | rfl) : p := h
theorem kk {p : Prop} (h : p := by kernel_rfl) : p := h
theorem gL (_h : o.op = .load ty x) (h : wpList P ops Q (o :: rest) a w) : wpList P ops Q (o :: rest) a w := h
theorem gS (_h : o.op = .store ty x y) (h : wpList P ops Q (o :: rest) a w) : wpList P ops Q (o :: rest) a w := h
theorem gB (_h : o.op = .box ty x) (h : wpList P ops Q (o :: rest) a w) : wpList P ops Q (o :: rest) a w := h
theorem gD (N : Tmp) (_h : o.dst = some N) (h : wpList P ops Q (o :: rest) a w) : wpList P ops Q (o :: rest) a w := h
/-- A load. -/
theorem ll (ho : o.op = .load ty x) (hw : Region.wanted o (yielded ops a.tmps) = true) (hx : a.eval x = .pointer (some ⟨g, off, none⟩)) (I : Aside0 (Inv B w0 L F w)) (hm : (g, t, cs) ∈ L) (hl : Ld P ty cs off v) (h : wpList P ops Q rest (a.put o.dst v) w) : wpList P ops Q (o :: rest) a w :=
  gate_guard hw (wl_ld rfl ho hx I.out hm hl h)
/-- A store. -/
theorem sk (hgd : o.guard = none) (hd : o.dst = none) (ho : o.op = .store ty x y) (hx : a.eval x = .pointer (some ⟨g, off, none⟩)) (hy : a.eval y = v) (I : Aside0 (Inv B w0 L F w)) (hm : (g, t, cs) ∈ L) (hs : Sr P ty cs off v cs') (hu : Upd L g t cs cs' L') (h : ∀ w1, Aside0 (Inv B w0 L' F w1) → wpList P ops Q rest a w1) : wpList P ops Q (o :: rest) a w :=
  wl_sr hgd hd ho hx hy I.out hu hs (fun w1 hI => h w1 ⟨hI⟩)
/-- A box for a parameter. -/
theorem bk (hgd : o.guard = none) (ho : o.op = .box ty x) (hx : a.eval x = .agg cs) (I : Aside0 (Inv B w0 L F w)) (h : ∀ g w1, Aside0 (Inv B w0 ((g, ty, cs) :: L) F w1) → wpList P ops Q rest (a.put o.dst (.pointer (some ⟨g, 0, none⟩))) w1) : wpList P ops Q (o :: rest) a w :=
  wl_bx hgd ho hx I.out (fun g w1 hI => h g w1 ⟨hI⟩)
/-- A variable's own memory. -/
theorem ak (hgd : o.guard = none) (hrun : (execOp a.eval o).run P w = .ok (.value (.pointer (some ⟨w.heap.size, 0, none⟩))) (w.alloc (.cells cs t (0, 0)))) (I : Aside0 (Inv B w0 L F w))
    (h : ∀ g w1, Aside0 (Inv B w0 ((g, t, cs) :: L) F w1) → wpList P ops Q rest (a.put o.dst (.pointer (some ⟨g, 0, none⟩))) w1) : wpList P ops Q (o :: rest) a w :=
  wl_box hgd hrun I.out (fun g w1 hI => h g w1 ⟨hI⟩)
/-- A call. -/
theorem ck {R : Ending → World → Prop} (hw : Region.wanted o (yielded ops a.tmps) = true) {f : FuncId} {fn : Func} {ags : Array Operand} {ts : Array TypeId} (hf : P.funcs[f]? = some fn) (hname : (fn.name == "runtime.NumGoroutine") = false) (hb : fn.body.isSome = true) (args : Array Value)
    (hop : o.op = .call { callee := .value (.func f), args := ags, argTypes := ts }) (hargs : ags.map a.eval = args) (hc : Calls P f args w R) (h : ∀ e w1, R e w1 → ∃ v, e = .returned v ∧ wpList P ops Q rest (a.put o.dst v) w1) : wpList P ops Q (o :: rest) a w :=
  gate_guard hw (goesL_ o.dst rfl rfl hf hname hb args hop hargs (hc.mono h))
/-- An operation of a known value. -/
theorem vk (hw : Region.wanted o (yielded ops a.tmps) = true) (hrun : (execOp a.eval o).run P w = .ok (.value v) w) (h : wpList P ops Q rest (a.put o.dst v) w) : wpList P ops Q (o :: rest) a w := by
  refine gate_guard hw (wpList_plain rfl fun K hK => ?_)
  have hrun2 : (execOp a.eval { o with guard := none }).run P w = .ok (.value v) w := hrun
  unfold Oper.wp
  rw [hrun2]
  exact hK _ _ h
theorem callK (I : Aside0 (Inv B w0 L F w)) (hb : Below w.heap.size w w1) : Aside0 (Inv B w0 L F w1) := ⟨I.out.call hb⟩
theorem addK (I : Aside0 (Inv B w0 L F w)) (hb : Below w.heap.size w w1) (hf : Foot G w1 (fun k => w.heap.size ≤ k)) : Aside0 (Inv B w0 L (fun w => F w ∧ G w) w1) := ⟨I.out.addNew hb hf (fun k hk _ => I.out.new_out k hk)⟩
end
section
variable {a : Act} {w : World} {o : Oper}
theorem al_S (ho : o.op = .alloc 28) : (execOp a.eval o).run Tryz.prog w = .ok (.value (.pointer (some ⟨w.heap.size, 0, none⟩))) (w.alloc (.cells (stC (⟨#[]⟩ : ByteArray) (⟨#[]⟩ : ByteArray) 0 0 0 false 0 0 0 0 0 0 0) 28 (0, 0))) := by
  have hu := Tryz.underlying28
  have hu24 := Tryz.underlying26
  unfold execOp; simp only [ho]
  first | (go_simp; done) | (go_simp; rfl)
theorem al_P (ho : o.op = .alloc 38) : (execOp a.eval o).run Tryz.prog w = .ok (.value (.pointer (some ⟨w.heap.size, 0, none⟩))) (w.alloc (.cells (pkC 0 0 0 (⟨#[]⟩ : ByteArray) false 0 0 false 0 0 false 0 0 false (.slice none 0 0)) 38 (0, 0))) := by
  have hu := Tryz.underlying38
  have hu24 := Tryz.underlying26
  unfold execOp; simp only [ho]
  first | (go_simp; done) | (go_simp; rfl)
theorem al_A (ho : o.op = .alloc 26) : (execOp a.eval o).run Tryz.prog w = .ok (.value (.pointer (some ⟨w.heap.size, 0, none⟩))) (w.alloc (.cells #[.bool false, .int .u64 0, .int .u64 0] 26 (0, 0))) := by
  have hu24 := Tryz.underlying26
  unfold execOp; simp only [ho]
  first | (go_simp; done) | (go_simp; rfl)
theorem al_R (ho : o.op = .alloc 32) : (execOp a.eval o).run Tryz.prog w = .ok (.value (.pointer (some ⟨w.heap.size, 0, none⟩))) (w.alloc (.cells (stC (⟨#[]⟩ : ByteArray) (⟨#[]⟩ : ByteArray) 0 0 0 false 0 0 0 0 0 0 0) 32 (0, 0))) := by
  have hu := Tryz.underlying32
  have hu24 := Tryz.underlying26
  unfold execOp; simp only [ho]
  first | (go_simp; done) | (go_simp; rfl)
end
theorem initial_c (c h : ByteArray) (st xid sv : Int) (v6 : Bool) (hi lo t1 t2 un se at_ : Int) (w : World) : Calls Tryz.prog 30 #[.agg (stC c h st xid sv v6 hi lo t1 t2 un se at_)] w fun e w' => e = .returned (.agg (stC c h 0 xid 0 false 0 0 0 0 0 0 0)) ∧ Below w.heap.size w w' := by
 have hu26 := Tryz.underlying28
 have hu39 := Tryz.underlying38
 have hu24 := Tryz.underlying26
 have I := Aside0.mk (Inv.start0 (w0 := w))
 go_enter Tryz.func30, Tryz.ntmps30
 go_wp2_with (first
  | (refine gB rfl ?_; refine bk rfl rfl rfl I ?_; clear I; intro gb w1 I)
  | (refine ak rfl (al_S rfl) I ?_; clear I; intro gb w1 I)
  | (refine gL rfl ?_; refine ll rfl rfl rfl I zm (by first | exact ld_st0 | exact ld_st1 | exact ld_st3) ?_)
  | (refine gS rfl ?_; refine sk rfl rfl rfl rfl rfl I zm (by first | exact sr_st) zu ?_; clear I; intro w1 I)
  )
 refine bodyPost_ret (ret_c rfl _ I.out _ rfl zm Tryz.underlying28 rfl (by kernel_rfl)) rfl ?_
 exact ⟨rfl, I.out.below⟩
theorem discover_c (w : World) : Calls Tryz.prog 27 #[] w fun e w' => e = .returned (.agg (pkC 1 0 0 (⟨#[]⟩ : ByteArray) false 0 0 false 0 0 false 0 0 false (.slice none 0 0))) ∧ Below w.heap.size w w' := by
 have hu26 := Tryz.underlying28
 have hu39 := Tryz.underlying38
 have hu24 := Tryz.underlying26
 have I := Aside0.mk (Inv.start0 (w0 := w))
 go_enter Tryz.func27, Tryz.ntmps27
 go_wp2_with (first
  | (refine ak rfl (al_P rfl) I ?_; clear I; intro gb w1 I)
  | (refine gS rfl ?_; refine sk rfl rfl rfl rfl rfl I zm (by first | exact sr_pk rfl) zu ?_; clear I; intro w1 I)
  )
 refine bodyPost_ret (ret_c rfl _ I.out _ rfl zm Tryz.underlying38 rfl (by kernel_rfl)) rfl ?_
 exact ⟨rfl, I.out.below⟩
theorem renewal_c (c h : ByteArray) (st xid sv : Int) (v6 : Bool) (hi lo t1 t2 un se at_ : Int) (b : Bool) (w : World) : Calls Tryz.prog 31 #[.agg (stC c h st xid sv v6 hi lo t1 t2 un se at_), .bool b] w fun e w' => e = .returned (.agg (pkC 3 0 (if b then 0 else sv) (⟨#[]⟩ : ByteArray) v6 hi lo false 0 0 false 0 0 false (.slice none 0 0))) ∧ Below w.heap.size w w' := by
 have hu26 := Tryz.underlying28
 have hu39 := Tryz.underlying38
 have hu24 := Tryz.underlying26
 have I := Aside0.mk (Inv.start0 (w0 := w))
 go_enter Tryz.func31, Tryz.ntmps31
 cases b
 ·
  go_wp2_with (first
   | (refine gB rfl ?_; refine bk rfl rfl rfl I ?_; clear I; intro gb w1 I)
   | (refine ak rfl (al_P rfl) I ?_; clear I; intro gb w1 I)
   | (refine gL rfl ?_; refine ll rfl rfl rfl I zm (by first | exact ld_st4 | exact ld_stA5 | exact ld_pk) ?_)
   | (refine gS rfl ?_; refine sk rfl rfl rfl rfl rfl I zm (by first | exact sr_pk2 | exact sr_pk rfl) zu ?_; clear I; intro w1 I)
   )
  refine bodyPost_ret (ret_c rfl _ I.out _ rfl zm Tryz.underlying38 rfl (by kernel_rfl)) rfl ?_
  exact ⟨rfl, I.out.below⟩
 ·
  go_wp2_with (first
   | (refine gB rfl ?_; refine bk rfl rfl rfl I ?_; clear I; intro gb w1 I)
   | (refine ak rfl (al_P rfl) I ?_; clear I; intro gb w1 I)
   | (refine gL rfl ?_; refine ll rfl rfl rfl I zm (by first | exact ld_st4 | exact ld_stA5 | exact ld_pk) ?_)
   | (refine gS rfl ?_; refine sk rfl rfl rfl rfl rfl I zm (by first | exact sr_pk2 | exact sr_pk rfl) zu ?_; clear I; intro w1 I)
   )
  refine bodyPost_ret (ret_c rfl _ I.out _ rfl zm Tryz.underlying38 rfl (by kernel_rfl)) rfl ?_
  exact ⟨rfl, I.out.below⟩
theorem has_c (c h : ByteArray) (st xid sv : Int) (v6 : Bool) (hi lo t1 t2 un se at_ : Int) (w : World) : Calls Tryz.prog 46 #[.agg (stC c h st xid sv v6 hi lo t1 t2 un se at_)] w fun e w' => e = .returned (.bool (decide (st = 3 ∨ st = 4 ∨ st = 5))) ∧ Below w.heap.size w w' := by
 have hu26 := Tryz.underlying28
 have hu39 := Tryz.underlying38
 have hu24 := Tryz.underlying26
 have I := Aside0.mk (Inv.start0 (w0 := w))
 by_cases h3 : st = 3
 · have e1 : (st == 3) = true := beq_iff_eq.mpr h3
   rw [decide_eq_true (Or.inl h3)]
   clear h3
   go_enter Tryz.func46, Tryz.ntmps46
   go_wp2_with (first
    | (refine gB rfl ?_; refine bk rfl rfl rfl I ?_; clear I; intro gb w1 I)
    | (refine gL rfl ?_; refine ll rfl rfl rfl I zm (by exact ld_st2) ?_)
    )
   go_ret
   exact ⟨rfl, I.out.below⟩
 have e1 : (st == 3) = false := beq_eq_false_iff_ne.mpr h3
 by_cases h4 : st = 4
 · have e2 : (st == 4) = true := beq_iff_eq.mpr h4
   rw [decide_eq_true (Or.inr (Or.inl h4))]
   clear h3 h4
   go_enter Tryz.func46, Tryz.ntmps46
   go_wp2_with (first
    | (refine gB rfl ?_; refine bk rfl rfl rfl I ?_; clear I; intro gb w1 I)
    | (refine gL rfl ?_; refine ll rfl rfl rfl I zm (by exact ld_st2) ?_)
    )
   go_ret
   exact ⟨rfl, I.out.below⟩
 have e2 : (st == 4) = false := beq_eq_false_iff_ne.mpr h4
 have e3 : decide (st = 3 ∨ st = 4 ∨ st = 5) = (st == 5) := by simp [h3, h4]; rfl
 rw [e3]
 clear h3 h4 e3
 go_enter Tryz.func46, Tryz.ntmps46
 go_wp2_with (first
  | (refine gB rfl ?_; refine bk rfl rfl rfl I ?_; clear I; intro gb w1 I)
  | (refine gL rfl ?_; refine ll rfl rfl rfl I zm (by exact ld_st2) ?_)
  )
 go_ret
 exact ⟨rfl, I.out.below⟩
theorem ret_int {k : IntKind} {a b : Int} (h : a = b) : Ending.returned (.int k a) = .returned (.int k b) := by rw [h]
theorem after_c (a b : Int) (w : World) (ha : 0 ≤ a) (ha2 : a ≤ 4294967295) (hb : -4294967296 ≤ b) (hb2 : b ≤ 9223372032559808511) : Calls Tryz.prog 29 #[.int .i64 a, .int .i64 b] w fun e w' => e = .returned (.int .i64 (min (a + b) 4294967295)) ∧ w = w' := by
 go_enter Tryz.func29, Tryz.ntmps29
 go_wp2
 all_goals first | (go_ret; exact ⟨ret_int (by omega), rfl⟩)
end Go.Proofs.YtlabnocmmeciaaaGreatDoor.BQ
namespace Go.Proofs.YtlabnocmmeciaaaGreatDoor.Pa
open Go RowKit YtlabnocmmeciaaaGreatDoorW.PrintWords YtlabnocmmeciaaaGreatDoorW.PrintLast YtlabnocmmeciaaaGreatDoorW.PrintMore
theorem k62_heap : Kd.Heap k62 := Kd.heap_iso _ (Kd.heap_pair (Kd.heap_int .i64) Kd.heap_string)
structure S38 where
 f0 : Int
 f1 : Int
 f2 : Int
 f3 : ByteArray
 f4 : S26
 f5 : S26
 f6 : S26
 f7 : Bool
 f8 : (List S62)
def z38 : S38 := ⟨(0 : Int), (0 : Int), (0 : Int), (⟨#[]⟩ : ByteArray), z26, z26, z26, false, ([] : List S62)⟩
def k38 : Kd S38 := Kd.iso (Kd.pair (Kd.int .i64) (Kd.pair (Kd.int .i64) (Kd.pair (Kd.int .i64) (Kd.pair Kd.string (Kd.pair k26 (Kd.pair k26 (Kd.pair k26 (Kd.pair Kd.bool (Kd.slice 62 k62))))))))) (fun x : S38 => (x.f0, x.f1, x.f2, x.f3, x.f4, x.f5, x.f6, x.f7, x.f8))
theorem k38_open {w : World} {x : S38} {cs : List Value} (h : k38.K w x cs) : ∃ A14 c14, cs = [.int .i64 x.f0, .int .i64 x.f1, .int .i64 x.f2, .string x.f3, .bool x.f4.f0, .int .u64 x.f4.f1, .int .u64 x.f4.f2, .bool x.f5.f0, .int .u64 x.f5.f1, .int .u64 x.f5.f2, .bool x.f6.f0, .int .u64 x.f6.f1, .int .u64 x.f6.f2, .bool x.f7, .slice A14 x.f8.length c14] ∧ x.f8.length ≤ c14 ∧ k62.C w A14 x.f8.length x.f8 := by
 obtain ⟨_, _, rfl, rfl, ⟨_, _, rfl, rfl, ⟨_, _, rfl, rfl, ⟨_, _, rfl, rfl, ⟨_, _, rfl, s4, ⟨_, _, rfl, s7, ⟨_, _, rfl, s10, ⟨_, _, rfl, rfl, ⟨A14, c14, rfl, l14, g14⟩⟩⟩⟩⟩⟩⟩⟩⟩ := h
 obtain rfl := k26_open s4
 obtain rfl := k26_open s7
 obtain rfl := k26_open s10
 exact ⟨A14, c14, rfl, l14, g14⟩
theorem k38_mk (w : World) (x : S38) {A14 : Option Addr} {c14 : Nat} (l14 : x.f8.length ≤ c14) (g14 : k62.C w A14 x.f8.length x.f8) : k38.K w x [.int .i64 x.f0, .int .i64 x.f1, .int .i64 x.f2, .string x.f3, .bool x.f4.f0, .int .u64 x.f4.f1, .int .u64 x.f4.f2, .bool x.f5.f0, .int .u64 x.f5.f1, .int .u64 x.f5.f2, .bool x.f6.f0, .int .u64 x.f6.f1, .int .u64 x.f6.f2, .bool x.f7, .slice A14 x.f8.length c14] := ⟨[.int .i64 x.f0], [.int .i64 x.f1, .int .i64 x.f2, .string x.f3, .bool x.f4.f0, .int .u64 x.f4.f1, .int .u64 x.f4.f2, .bool x.f5.f0, .int .u64 x.f5.f1, .int .u64 x.f5.f2, .bool x.f6.f0, .int .u64 x.f6.f1, .int .u64 x.f6.f2, .bool x.f7, .slice A14 x.f8.length c14], rfl, rfl, ⟨[.int .i64 x.f1], [.int .i64 x.f2, .string x.f3, .bool x.f4.f0, .int .u64 x.f4.f1, .int .u64 x.f4.f2, .bool x.f5.f0, .int .u64 x.f5.f1, .int .u64 x.f5.f2, .bool x.f6.f0, .int .u64 x.f6.f1, .int .u64 x.f6.f2, .bool x.f7, .slice A14 x.f8.length c14], rfl, rfl, ⟨[.int .i64 x.f2], [.string x.f3, .bool x.f4.f0, .int .u64 x.f4.f1, .int .u64 x.f4.f2, .bool x.f5.f0, .int .u64 x.f5.f1, .int .u64 x.f5.f2, .bool x.f6.f0, .int .u64 x.f6.f1, .int .u64 x.f6.f2, .bool x.f7, .slice A14 x.f8.length c14], rfl, rfl, ⟨[.string x.f3], [.bool x.f4.f0, .int .u64 x.f4.f1, .int .u64 x.f4.f2, .bool x.f5.f0, .int .u64 x.f5.f1, .int .u64 x.f5.f2, .bool x.f6.f0, .int .u64 x.f6.f1, .int .u64 x.f6.f2, .bool x.f7, .slice A14 x.f8.length c14], rfl, rfl, ⟨[.bool x.f4.f0, .int .u64 x.f4.f1, .int .u64 x.f4.f2], [.bool x.f5.f0, .int .u64 x.f5.f1, .int .u64 x.f5.f2, .bool x.f6.f0, .int .u64 x.f6.f1, .int .u64 x.f6.f2, .bool x.f7, .slice A14 x.f8.length c14], rfl, (k26_mk w x.f4 ), ⟨[.bool x.f5.f0, .int .u64 x.f5.f1, .int .u64 x.f5.f2], [.bool x.f6.f0, .int .u64 x.f6.f1, .int .u64 x.f6.f2, .bool x.f7, .slice A14 x.f8.length c14], rfl, (k26_mk w x.f5 ), ⟨[.bool x.f6.f0, .int .u64 x.f6.f1, .int .u64 x.f6.f2], [.bool x.f7, .slice A14 x.f8.length c14], rfl, (k26_mk w x.f6 ), ⟨[.bool x.f7], [.slice A14 x.f8.length c14], rfl, rfl, ⟨A14, c14, rfl, l14, g14⟩⟩⟩⟩⟩⟩⟩⟩⟩
def rd_T38 (xs : List S38) (i : Int) : S38 := xs.getD i.toNat z38
theorem at_T38 {w : World} {A : Option Addr} {n : Nat} {xs : List S38} (h : Kd.C k38 w A n xs) (i : Int) (h0 : 0 ≤ i) (h1 : i < n) : ∃ ad A14 c14, A = some ad ∧ w.cell? (ad.add (i.toNat * 15)) = some (.int .i64 (rd_T38 xs i).f0) ∧ w.cell? ⟨(ad.add (i.toNat * 15)).block, (ad.add (i.toNat * 15)).off + 1, none⟩ = some (.int .i64 (rd_T38 xs i).f1) ∧ w.cell? ⟨(ad.add (i.toNat * 15)).block, (ad.add (i.toNat * 15)).off + 2, none⟩ = some (.int .i64 (rd_T38 xs i).f2) ∧ w.cell? ⟨(ad.add (i.toNat * 15)).block, (ad.add (i.toNat * 15)).off + 3, none⟩ = some (.string (rd_T38 xs i).f3) ∧ w.cell? ⟨(ad.add (i.toNat * 15)).block, (ad.add (i.toNat * 15)).off + 4, none⟩ = some (.bool (rd_T38 xs i).f4.f0) ∧ w.cell? ⟨(ad.add (i.toNat * 15)).block, (ad.add (i.toNat * 15)).off + 5, none⟩ = some (.int .u64 (rd_T38 xs i).f4.f1) ∧ w.cell? ⟨(ad.add (i.toNat * 15)).block, (ad.add (i.toNat * 15)).off + 6, none⟩ = some (.int .u64 (rd_T38 xs i).f4.f2) ∧ w.cell? ⟨(ad.add (i.toNat * 15)).block, (ad.add (i.toNat * 15)).off + 7, none⟩ = some (.bool (rd_T38 xs i).f5.f0) ∧ w.cell? ⟨(ad.add (i.toNat * 15)).block, (ad.add (i.toNat * 15)).off + 8, none⟩ = some (.int .u64 (rd_T38 xs i).f5.f1) ∧ w.cell? ⟨(ad.add (i.toNat * 15)).block, (ad.add (i.toNat * 15)).off + 9, none⟩ = some (.int .u64 (rd_T38 xs i).f5.f2) ∧ w.cell? ⟨(ad.add (i.toNat * 15)).block, (ad.add (i.toNat * 15)).off + 10, none⟩ = some (.bool (rd_T38 xs i).f6.f0) ∧ w.cell? ⟨(ad.add (i.toNat * 15)).block, (ad.add (i.toNat * 15)).off + 11, none⟩ = some (.int .u64 (rd_T38 xs i).f6.f1) ∧ w.cell? ⟨(ad.add (i.toNat * 15)).block, (ad.add (i.toNat * 15)).off + 12, none⟩ = some (.int .u64 (rd_T38 xs i).f6.f2) ∧ w.cell? ⟨(ad.add (i.toNat * 15)).block, (ad.add (i.toNat * 15)).off + 13, none⟩ = some (.bool (rd_T38 xs i).f7) ∧ w.cell? ⟨(ad.add (i.toNat * 15)).block, (ad.add (i.toNat * 15)).off + 14, none⟩ = some (.slice A14 (rd_T38 xs i).f8.length c14) ∧ (rd_T38 xs i).f8.length ≤ c14 ∧ k62.C w A14 (rd_T38 xs i).f8.length (rd_T38 xs i).f8 := by
 obtain ⟨ad, c, e, _, hK, hc0⟩ := Kd.C_get h z38 i h0 h1
 have hc : ∀ j u, c[j]? = some u → w.cell? (ad.add (i.toNat * 15 + j)) = some u := hc0
 obtain ⟨A14, c14, rfl, l14, g14⟩ := k38_open hK
 exact ⟨ad, A14, c14, e, hc 0 _ rfl, by rw [← add_field _ _ 1 (by omega)]; exact hc 1 _ rfl, by rw [← add_field _ _ 2 (by omega)]; exact hc 2 _ rfl, by rw [← add_field _ _ 3 (by omega)]; exact hc 3 _ rfl, by rw [← add_field _ _ 4 (by omega)]; exact hc 4 _ rfl, by rw [← add_field _ _ 5 (by omega)]; exact hc 5 _ rfl, by rw [← add_field _ _ 6 (by omega)]; exact hc 6 _ rfl, by rw [← add_field _ _ 7 (by omega)]; exact hc 7 _ rfl, by rw [← add_field _ _ 8 (by omega)]; exact hc 8 _ rfl, by rw [← add_field _ _ 9 (by omega)]; exact hc 9 _ rfl, by rw [← add_field _ _ 10 (by omega)]; exact hc 10 _ rfl, by rw [← add_field _ _ 11 (by omega)]; exact hc 11 _ rfl, by rw [← add_field _ _ 12 (by omega)]; exact hc 12 _ rfl, by rw [← add_field _ _ 13 (by omega)]; exact hc 13 _ rfl, by rw [← add_field _ _ 14 (by omega)]; exact hc 14 _ rfl, l14, g14⟩
structure S40 where
 f0 : Int
 f1 : Int
 f2 : S38
 f3 : Bool
def z40 : S40 := ⟨(0 : Int), (0 : Int), z38, false⟩
def k40 : Kd S40 := Kd.iso (Kd.pair (Kd.int .u8) (Kd.pair (Kd.int .u32) (Kd.pair k38 Kd.bool))) (fun x : S40 => (x.f0, x.f1, x.f2, x.f3))
theorem k40_open {w : World} {x : S40} {cs : List Value} (h : k40.K w x cs) : ∃ A16 c16, cs = [.int .u8 x.f0, .int .u32 x.f1, .int .i64 x.f2.f0, .int .i64 x.f2.f1, .int .i64 x.f2.f2, .string x.f2.f3, .bool x.f2.f4.f0, .int .u64 x.f2.f4.f1, .int .u64 x.f2.f4.f2, .bool x.f2.f5.f0, .int .u64 x.f2.f5.f1, .int .u64 x.f2.f5.f2, .bool x.f2.f6.f0, .int .u64 x.f2.f6.f1, .int .u64 x.f2.f6.f2, .bool x.f2.f7, .slice A16 x.f2.f8.length c16, .bool x.f3] ∧ x.f2.f8.length ≤ c16 ∧ k62.C w A16 x.f2.f8.length x.f2.f8 := by
 obtain ⟨_, _, rfl, rfl, ⟨_, _, rfl, rfl, ⟨_, _, rfl, s2, rfl⟩⟩⟩ := h
 obtain ⟨A16, c16, rfl, l16, g16⟩ := k38_open s2
 exact ⟨A16, c16, rfl, l16, g16⟩
end Go.Proofs.YtlabnocmmeciaaaGreatDoor.Pa
namespace Go.Proofs.YtlabnocmmeciaaaGreatDoor.BQ
open Go RowKit YtlabnocmmeciaaaGreatDoorW.PrintWords YtlabnocmmeciaaaGreatDoorW.PrintLast YtlabnocmmeciaaaGreatDoorW.PrintMore Pa
def pkOf (p : S38) (o : Value) : Array Value := pkC p.f0 p.f1 p.f2 p.f3 p.f4.f0 p.f4.f1 p.f4.f2 p.f5.f0 p.f5.f1 p.f5.f2 p.f6.f0 p.f6.f1 p.f6.f2 p.f7 o
theorem row_one {W : World} {g : Nat} (p : S38) {A : Option Addr} {c : Nat} (hg : W.heap[g]? = some (.cells (pkOf p (.slice A p.f8.length c)) 38 (0, 0))) (hc : p.f8.length ≤ c) (hr : Kd.C k62 W A p.f8.length p.f8) : Kd.C k38 W (some ⟨g, 0, none⟩) 1 [p] := by
  refine ⟨rfl, by decide, fun _ => ⟨⟨g, 0, none⟩, rfl, fun j q hj => ?_⟩⟩
  match j, hj with
  | 0, hj =>
    have e : p = q := by simpa using hj
    subst e
    refine ⟨_, rfl, k38_mk W p hc hr, fun i u hu => ?_⟩
    rw [Nat.zero_mul, Nat.zero_add, Addr.add_mid, blk_cell hg, Nat.zero_add, ← Array.getElem?_toList]
    exact hu
  | j + 1, hj => simp at hj
theorem bs_run {o : Oper} {a : Act} {w : World} {x : Operand} (p : S38) (v : Value) (ho : o.op = .buildSlice 41 1 #[(0, x)]) (hx : a.eval x = .agg (pkOf p v)) : (execOp a.eval o).run Tryz.prog w = .ok (.value (.slice (some ⟨w.heap.size, 0, none⟩) 1 1)) (w.alloc (.cells (pkOf p v) 38 (0, 0))) := by
  have hu := Tryz.underlying41
  have h : ∀ cs : Array Value, cs = pkOf p v → (Instr.buildSlice 41 1 #[(0, .agg cs)]).run Tryz.prog w = .ok (.slice (some ⟨w.heap.size, 0, none⟩) 1 1) (w.alloc (.cells cs 38 (0, 0))) := by
    intro cs hcs
    subst hcs
    unfold pkOf pkC
    go_simp
  have h2 := h _ rfl
  unfold execOp
  simp only [ho]
  have e : Array.map (fun y : Nat × Operand => (y.fst, a.eval y.snd)) #[(0, x)] = #[(0, .agg (pkOf p v))] := by simp [hx]
  rw [e, Sem.run_bind, h2]
  rfl
section
variable {B : Nat → Prop} {w0 w : World} {L : Bxs} {F : World → Prop}
theorem Inv.build (I : Inv B w0 L F w) (p : S38) {A : Option Addr} {c : Nat} (hF : ∀ W, F W → Kd.C k62 W A p.f8.length p.f8) (hc : p.f8.length ≤ c) :
    Inv B w0 L (fun W => F W ∧ Kd.C k38 W (some ⟨w.heap.size, 0, none⟩) 1 [p]) (w.alloc (.cells (pkOf p (.slice A p.f8.length c)) 38 (0, 0))) := by
  refine I.addNew (w1 := w.alloc (.cells (pkOf p (.slice A p.f8.length c)) 38 (0, 0))) (ok := fun k => (B k ∨ w0.heap.size ≤ k) ∧ Out L k) ((Below.refl _ _).alloc (Nat.le_refl _) _) (fun W' hW => ?_) (fun k hk _ => hk)
  have hg : W'.heap[w.heap.size]? = some (.cells (pkOf p (.slice A p.f8.length c)) 38 (0, 0)) := by
    refine (hW _ (I.new_out _ (Nat.le_refl _)) ?_).trans (blk_new w _)
    show w.heap.size < (w.heap.push _).size
    rw [Array.size_push]; omega
  refine row_one p hg hc (hF W' (I.foot W' (fun k hk hlt => (hW k hk ?_).trans (Below.heap_alloc w _ _ hlt))))
  show k < (w.heap.push _).size
  rw [Array.size_push]; omega
end
section
variable {α : Type} {d : Kd α} {B : Nat → Prop} {w0 w W : World} {L : Bxs} {F : World → Prop} {g e : Nat} {cs : Array Value} {x : α}
theorem row_oneK (hg : W.heap[g]? = some (.cells cs e (0, 0))) (hs : cs.toList.length = d.sz) (hK : d.K W x cs.toList) : d.C W (some ⟨g, 0, none⟩) 1 [x] := by
  refine ⟨rfl, by decide, fun _ => ⟨⟨g, 0, none⟩, rfl, fun j q hj => ?_⟩⟩
  match j, hj with
  | 0, hj =>
    have e : x = q := by simpa using hj
    subst e
    refine ⟨_, hs, hK, fun i u hu => ?_⟩
    rw [Nat.zero_mul, Nat.zero_add, Addr.add_mid, blk_cell hg, Nat.zero_add, ← Array.getElem?_toList]
    exact hu
  | j + 1, hj => simp at hj
theorem Inv.buildK (I : Inv B w0 L F w) (d : Kd α) (x : α) (cs : Array Value) (e : Nat) (hs : cs.toList.length = d.sz) (hK : ∀ W, F W → d.K W x cs.toList) :
    Inv B w0 L (fun W => F W ∧ d.C W (some ⟨w.heap.size, 0, none⟩) 1 [x]) (w.alloc (.cells cs e (0, 0))) := by
  refine I.addNew (w1 := w.alloc (.cells cs e (0, 0))) (ok := fun k => (B k ∨ w0.heap.size ≤ k) ∧ Out L k) ((Below.refl _ _).alloc (Nat.le_refl _) _) (fun W' hW => ?_) (fun k hk _ => hk)
  have hsz : w.heap.size < (w.alloc (.cells cs e (0, 0))).heap.size := by
    show w.heap.size < (w.heap.push _).size
    rw [Array.size_push]; omega
  have hg : W'.heap[w.heap.size]? = some (.cells cs e (0, 0)) := (hW _ (I.new_out _ (Nat.le_refl _)) hsz).trans (blk_new w _)
  exact row_oneK hg hs (hK W' (I.foot W' (fun k hk hlt => (hW k hk (Nat.lt_trans hlt hsz)).trans (Below.heap_alloc w _ _ hlt))))
end
section
variable {P : Program} {ops : Array Oper} {rest : List Oper} {o : Oper} {a : Act} {Q : Exit → Act → World → Prop} {w w1 : World} {v : Value}
theorem wl_val (hgd : o.guard = none) (hrun : (execOp a.eval o).run P w = .ok (.value v) w1) (h : wpList P ops Q rest (a.put o.dst v) w1) : wpList P ops Q (o :: rest) a w :=
  wpList_plain hgd fun K hK => by
    unfold Oper.wp
    rw [hrun]
    exact hK _ _ h
end
theorem send_no (c h : ByteArray) (st xid sv : Int) (v6 : Bool) (hi lo t1 t2 un se at_ : Int) (ki pxid psv : Int) (pc : ByteArray) (v1 : Bool) (hi1 lo1 : Int) (v2 : Bool) (hi2 lo2 : Int) (v3 : Bool) (hi3 lo3 : Int) (hr : Bool) (o : Value) (now : Int) (w : World) (hx : 4294967295 ≤ xid) : Calls Tryz.prog 53 #[.agg (stC c h st xid sv v6 hi lo t1 t2 un se at_), .agg (pkC ki pxid psv pc v1 hi1 lo1 v2 hi2 lo2 v3 hi3 lo3 hr o), .int .i64 now] w fun e w' => e = .returned (.tuple #[.agg (stC c h st xid sv v6 hi lo t1 t2 un se at_), .slice none 0 0, .bool false]) ∧ Below w.heap.size w w' := by
 have hu26 := Tryz.underlying28
 have hu39 := Tryz.underlying38
 have hu24 := Tryz.underlying26
 have e1 : decide (4294967295 ≤ xid) = true := decide_eq_true hx
 clear hx
 have I := Aside0.mk (Inv.start0 (w0 := w))
 go_enter Tryz.func53, Tryz.ntmps53
 go_wp2_with (first
  | (refine gB rfl ?_; refine bk rfl rfl rfl I ?_; clear I; intro gb w1 I)
  | (refine ak rfl (al_S rfl) I ?_; clear I; intro gb w1 I)
  | (refine gL rfl ?_; refine ll rfl rfl rfl I zm (by first | exact ld_st3 | exact ld_st) ?_)
  | (refine gS rfl ?_; refine sk rfl rfl rfl rfl rfl I zm (by first | exact sr_st) zu ?_; clear I; intro w1 I)
  )
 refine bodyPost_ret (ret_ctt rfl _ I.out _ rfl zm Tryz.underlying28 rfl kk) rfl ?_
 exact ⟨rfl, I.out.below⟩
theorem send_yes (c h : ByteArray) (st xid sv : Int) (v6 : Bool) (hi lo t1 t2 un se at_ : Int) (ki pxid psv : Int) (pc : ByteArray) (v1 : Bool) (hi1 lo1 : Int) (v2 : Bool) (hi2 lo2 : Int) (v3 : Bool) (hi3 lo3 : Int) (hr : Bool) (A : Option Addr) (cc : Nat) (l l' : List S62) (k : Nat) (B : Nat → Prop) (now : Int) (w : World) (hx0 : 0 ≤ xid) (hx : xid < 4294967295) (hB : Foot (fun W => Kd.C k62 W A l.length l) w B) (hc : l.length ≤ cc)
  (hp : if ¬ h.toList = [] ∧ (ki = 1 ∨ ki = 3) then option_Put.f k l 12 h = some l' else l' = l) :
  Calls Tryz.prog 53 #[.agg (stC c h st xid sv v6 hi lo t1 t2 un se at_), .agg (pkC ki pxid psv pc v1 hi1 lo1 v2 hi2 lo2 v3 hi3 lo3 hr (.slice A l.length cc)), .int .i64 now] w fun e w' => ∃ g, e = .returned (.tuple #[.agg (stC c h st (xid + 1) sv v6 hi lo t1 t2 un now at_), .slice (some ⟨g, 0, none⟩) 1 1, .bool true]) ∧ Foot (fun W => Kd.C k38 W (some ⟨g, 0, none⟩) 1 [(⟨ki, xid + 1, psv, c, ⟨v1, hi1, lo1⟩, ⟨v2, hi2, lo2⟩, ⟨v3, hi3, lo3⟩, hr, l'⟩ : S38)]) w' (fun k => B k ∨ w.heap.size ≤ k) ∧ Below w.heap.size w w' := by
 have hu26 := Tryz.underlying28
 have hu39 := Tryz.underlying38
 have hu24 := Tryz.underlying26
 have e1 : decide (4294967295 ≤ xid) = false := decide_eq_false (by omega)
 have b1 : xid ≤ 4294967294 := by omega
 have I : Aside0 (Inv B w [] (fun W => Kd.C k62 W A l.length l) w) := ⟨Inv.start hB⟩
 clear hB hx
 by_cases hh : h.toList = []
 · have f1 : (h.toList == ([] : List UInt8)) = true := beq_iff_eq.mpr hh
   have f2 : (h.toList != ([] : List UInt8)) = false := bne_eq_false_iff_eq.mpr hh
   rw [if_neg (fun hq => hq.1 hh)] at hp
   subst hp
   clear hh
   go_enter Tryz.func53, Tryz.ntmps53
   go_wp2_with (first
    | (refine gB rfl ?_; refine bk rfl rfl rfl I ?_; clear I; intro gb w1 I)
    | (refine ak rfl (al_S rfl) I ?_; clear I; intro gb w1 I)
    | (refine gL rfl ?_; refine ll rfl rfl rfl I zm (by first | exact ld_st3 | exact ld_st0 | exact ld_st1 | exact ld_st) ?_)
    | (refine gS rfl ?_; refine sk rfl rfl rfl rfl rfl I zm (by first | exact sr_st3 | exact sr_st11 | exact sr_st) zu ?_; clear I; intro w1 I)
    )
   have IS := Aside0.mk (I.out.sub (.cons _ (.cons _ (.cons_cons _ .slnil)))).drew
   refine draw_ (Inv _ w [_] _) [] kk rfl IS.out ?_
   have I2 := Aside0.mk I.out.drew
   clear I
   have I := I2
   clear I2
   refine pu1 (i := 0) rfl rfl kk ?_
   refine ta1 (i := 1) rfl rfl kk rfl rfl IS.out zm (by exact ld_st3) ?_
   refine pu1 (i := 2) rfl rfl kk ?_
   refine ta1 (i := 3) rfl rfl kk rfl rfl IS.out zm (by exact ld_st0) ?_
   refine pu1 (i := 4) rfl rfl kk ?_
   refine st1 (i := 5) rfl rfl kk (by decide) rfl rfl rfl I.out zm (by first | exact sr_pk1) zu (fun w1 hI => ⟨hI.sub (.cons _ (.cons _ (.cons_cons _ .slnil))), ?_⟩)
   have IS := Aside0.mk (hI.sub (.cons _ (.cons _ (.cons_cons _ .slnil))))
   clear I
   have I := Aside0.mk hI
   clear hI
   refine pu1 (i := 6) rfl rfl kk ?_
   refine st1 (i := 7) rfl rfl kk (by decide) rfl rfl rfl I.out zm (by first | exact sr_pk3) zu (fun w1 hI => ⟨hI.sub (.cons _ (.cons _ (.cons_cons _ .slnil))), ?_⟩)
   have IS := Aside0.mk (hI.sub (.cons _ (.cons _ (.cons_cons _ .slnil))))
   clear I
   have I := Aside0.mk hI
   clear hI
   refine do1 kk ?_
   clear IS
   go_wp2_with (first
    | (refine gL rfl ?_; refine ll rfl rfl rfl I zm (by first | exact ld_st1 | exact ld_pk0 | exact ld_pk14) ?_)
    )
   have IS := Aside0.mk (I.out.sub (.cons _ (.cons_cons _ (.cons_cons _ .slnil)))).drew
   refine draw_ (Inv _ w [_, _] _) [] kk rfl IS.out ?_
   have I2 := Aside0.mk I.out.drew
   clear I
   have I := I2
   clear I2
   refine ta1 (i := 0) rfl rfl kk rfl rfl IS.out zm (by exact ld_st) ?_
   refine ta1 (i := 1) rfl rfl kk rfl rfl IS.out zm (by exact ld_pk) ?_
   refine two1 (i := 2) (j := 3) rfl rfl rfl rfl kk (by decide) (by decide) (fun K hK => ?_) (fun K hK => ?_)
   · have I2 := Aside0.mk (I.out.build (⟨ki, xid + 1, psv, c, ⟨v1, hi1, lo1⟩, ⟨v2, hi2, lo2⟩, ⟨v3, hi3, lo3⟩, hr, l'⟩ : S38) (A := A) (c := cc) (fun W hW => hW) hc)
     have IS2 := Aside0.mk (((I.out.build (⟨ki, xid + 1, psv, c, ⟨v1, hi1, lo1⟩, ⟨v2, hi2, lo2⟩, ⟨v3, hi3, lo3⟩, hr, l'⟩ : S38) (A := A) (c := cc) (fun W hW => hW) hc).imp (fun W hW => hW.1)).sub (.cons _ (.cons_cons _ (.cons_cons _ .slnil))))
     clear I IS
     have I := I2
     clear I2
     refine vs1 hK rfl (bs_run (⟨ki, xid + 1, psv, c, ⟨v1, hi1, lo1⟩, ⟨v2, hi2, lo2⟩, ⟨v3, hi3, lo3⟩, hr, l'⟩ : S38) (.slice A l'.length cc) rfl rfl) IS2.out ?_
     clear hK
     refine st1 (i := 3) rfl rfl kk (by decide) rfl rfl rfl I.out zm (by first | exact sr_st) zu (fun w1 hI => ⟨(hI.imp (fun W hW => hW.1)).sub (.cons _ (.cons_cons _ (.cons_cons _ .slnil))), ?_⟩)
     clear I
     have I := Aside0.mk hI
     clear hI
     refine pu1 (i := 4) rfl rfl kk ?_
     refine pu1 (i := 5) rfl rfl kk ?_
     refine do1 kk ?_
     try go_wp2
     refine bodyPost_ret (ret_ctt rfl _ I.out _ rfl zm Tryz.underlying28 rfl kk) rfl ?_
     exact ⟨_, rfl, I.out.foot.imp (fun W hW => hW.2) |>.mono (fun k hk => hk.1), I.out.below⟩
   · refine ss1 hK rfl rfl rfl rfl I.out zm (by first | exact sr_st) zu (fun w1 hI => ⟨hI.sub (.cons _ (.cons_cons _ (.cons_cons _ .slnil))), ?_⟩)
     clear I IS hK
     have I := Aside0.mk hI
     clear hI
     have I2 := Aside0.mk (I.out.build (⟨ki, xid + 1, psv, c, ⟨v1, hi1, lo1⟩, ⟨v2, hi2, lo2⟩, ⟨v3, hi3, lo3⟩, hr, l'⟩ : S38) (A := A) (c := cc) (fun W hW => hW) hc)
     have IS2 := Aside0.mk (((I.out.build (⟨ki, xid + 1, psv, c, ⟨v1, hi1, lo1⟩, ⟨v2, hi2, lo2⟩, ⟨v3, hi3, lo3⟩, hr, l'⟩ : S38) (A := A) (c := cc) (fun W hW => hW) hc).imp (fun W hW => hW.1)).sub (.cons _ (.cons_cons _ (.cons_cons _ .slnil))))
     clear I
     have I := I2
     clear I2
     refine va1 (i := 2) rfl rfl kk (by decide) (bs_run (⟨ki, xid + 1, psv, c, ⟨v1, hi1, lo1⟩, ⟨v2, hi2, lo2⟩, ⟨v3, hi3, lo3⟩, hr, l'⟩ : S38) (.slice A l'.length cc) rfl rfl) IS2.out ?_
     refine pu1 (i := 4) rfl rfl kk ?_
     refine pu1 (i := 5) rfl rfl kk ?_
     refine do1 kk ?_
     try go_wp2
     refine bodyPost_ret (ret_ctt rfl _ I.out _ rfl zm Tryz.underlying28 rfl kk) rfl ?_
     exact ⟨_, rfl, I.out.foot.imp (fun W hW => hW.2) |>.mono (fun k hk => hk.1), I.out.below⟩
 have f1 : (h.toList == ([] : List UInt8)) = false := beq_eq_false_iff_ne.mpr hh
 have f2 : (h.toList != ([] : List UInt8)) = true := bne_iff_ne.mpr hh
 by_cases k1 : ki = 1
 · rw [if_pos ⟨hh, .inl k1⟩] at hp
   have hp := Aside0.mk hp
   have g1 : (ki == 1) = true := beq_iff_eq.mpr k1
   clear hh k1
   go_enter Tryz.func53, Tryz.ntmps53
   go_wp2_with (first
    | (refine gB rfl ?_; refine bk rfl rfl rfl I ?_; clear I; intro gb w1 I)
    | (refine ak rfl (al_S rfl) I ?_; clear I; intro gb w1 I)
    | (refine gL rfl ?_; refine ll rfl rfl rfl I zm (by first | exact ld_st3 | exact ld_st0 | exact ld_st1 | exact ld_st) ?_)
    | (refine gS rfl ?_; refine sk rfl rfl rfl rfl rfl I zm (by first | exact sr_st3 | exact sr_st11 | exact sr_st) zu ?_; clear I; intro w1 I)
    )
   have IS := Aside0.mk (I.out.sub (.cons _ (.cons _ (.cons_cons _ .slnil)))).drew
   refine draw_ (Inv _ w [_] _) [] kk rfl IS.out ?_
   have I2 := Aside0.mk I.out.drew
   clear I
   have I := I2
   clear I2
   refine pu1 (i := 0) rfl rfl kk ?_
   refine ta1 (i := 1) rfl rfl kk rfl rfl IS.out zm (by exact ld_st3) ?_
   refine pu1 (i := 2) rfl rfl kk ?_
   refine ta1 (i := 3) rfl rfl kk rfl rfl IS.out zm (by exact ld_st0) ?_
   refine pu1 (i := 4) rfl rfl kk ?_
   refine st1 (i := 5) rfl rfl kk (by decide) rfl rfl rfl I.out zm (by first | exact sr_pk1) zu (fun w1 hI => ⟨hI.sub (.cons _ (.cons _ (.cons_cons _ .slnil))), ?_⟩)
   have IS := Aside0.mk (hI.sub (.cons _ (.cons _ (.cons_cons _ .slnil))))
   clear I
   have I := Aside0.mk hI
   clear hI
   refine pu1 (i := 6) rfl rfl kk ?_
   refine st1 (i := 7) rfl rfl kk (by decide) rfl rfl rfl I.out zm (by first | exact sr_pk3) zu (fun w1 hI => ⟨hI.sub (.cons _ (.cons _ (.cons_cons _ .slnil))), ?_⟩)
   have IS := Aside0.mk (hI.sub (.cons _ (.cons _ (.cons_cons _ .slnil))))
   clear I
   have I := Aside0.mk hI
   clear hI
   refine do1 kk ?_
   clear IS
   go_wp2_with (first
    | (refine gL rfl ?_; refine ll rfl rfl rfl I zm (by first | exact ld_st1 | exact ld_pk0 | exact ld_pk14) ?_)
    | ((with_reducible refine gate_callee (f := 69) rfl ?_); refine goesL_ (some 42) rfl rfl Tryz.func69 kk rfl #[.slice A l.length cc, .int .i64 12, .string h] rfl zh ?_; (refine (option_Put.calls k A cc l 12 h l' _ I.out.now hc hp.out).mono ?_); rintro e_ w1 ⟨v, rfl, hR, hb⟩; refine ⟨_, rfl, ?_⟩; obtain ⟨A2, c2, rfl⟩ := Kd.R_slice hR; have hc2 := (Kd.R_reads' hR).2.1; have I2 := Aside0.mk (I.out.addR hb hR); clear I hR hb; have I := I2; clear I2)
    | (refine gS rfl ?_; refine sk rfl rfl rfl rfl rfl I zm (by first | exact sr_pk14 rfl rfl) zu ?_; clear I; intro w1 I)
    )
   have IS := Aside0.mk (I.out.sub (.cons _ (.cons_cons _ (.cons_cons _ .slnil)))).drew
   refine draw_ (Inv _ w [_, _] _) [] kk rfl IS.out ?_
   have I2 := Aside0.mk I.out.drew
   clear I
   have I := I2
   clear I2
   refine ta1 (i := 0) rfl rfl kk rfl rfl IS.out zm (by exact ld_st) ?_
   refine ta1 (i := 1) rfl rfl kk rfl rfl IS.out zm (by exact ld_pk) ?_
   refine two1 (i := 2) (j := 3) rfl rfl rfl rfl kk (by decide) (by decide) (fun K hK => ?_) (fun K hK => ?_)
   · have I2 := Aside0.mk (I.out.build (⟨ki, xid + 1, psv, c, ⟨v1, hi1, lo1⟩, ⟨v2, hi2, lo2⟩, ⟨v3, hi3, lo3⟩, hr, l'⟩ : S38) (A := A2) (c := c2) (fun W hW => hW.2) hc2)
     have IS2 := Aside0.mk (((I.out.build (⟨ki, xid + 1, psv, c, ⟨v1, hi1, lo1⟩, ⟨v2, hi2, lo2⟩, ⟨v3, hi3, lo3⟩, hr, l'⟩ : S38) (A := A2) (c := c2) (fun W hW => hW.2) hc2).imp (fun W hW => hW.1)).sub (.cons _ (.cons_cons _ (.cons_cons _ .slnil))))
     clear I IS
     have I := I2
     clear I2
     refine vs1 hK rfl (bs_run (⟨ki, xid + 1, psv, c, ⟨v1, hi1, lo1⟩, ⟨v2, hi2, lo2⟩, ⟨v3, hi3, lo3⟩, hr, l'⟩ : S38) (.slice A2 l'.length c2) rfl rfl) IS2.out ?_
     clear hK
     refine st1 (i := 3) rfl rfl kk (by decide) rfl rfl rfl I.out zm (by first | exact sr_st) zu (fun w1 hI => ⟨(hI.imp (fun W hW => hW.1)).sub (.cons _ (.cons_cons _ (.cons_cons _ .slnil))), ?_⟩)
     clear I
     have I := Aside0.mk hI
     clear hI
     refine pu1 (i := 4) rfl rfl kk ?_
     refine pu1 (i := 5) rfl rfl kk ?_
     refine do1 kk ?_
     try go_wp2
     refine bodyPost_ret (ret_ctt rfl _ I.out _ rfl zm Tryz.underlying28 rfl kk) rfl ?_
     exact ⟨_, rfl, I.out.foot.imp (fun W hW => hW.2) |>.mono (fun k hk => hk.1), I.out.below⟩
   · refine ss1 hK rfl rfl rfl rfl I.out zm (by first | exact sr_st) zu (fun w1 hI => ⟨hI.sub (.cons _ (.cons_cons _ (.cons_cons _ .slnil))), ?_⟩)
     clear I IS hK
     have I := Aside0.mk hI
     clear hI
     have I2 := Aside0.mk (I.out.build (⟨ki, xid + 1, psv, c, ⟨v1, hi1, lo1⟩, ⟨v2, hi2, lo2⟩, ⟨v3, hi3, lo3⟩, hr, l'⟩ : S38) (A := A2) (c := c2) (fun W hW => hW.2) hc2)
     have IS2 := Aside0.mk (((I.out.build (⟨ki, xid + 1, psv, c, ⟨v1, hi1, lo1⟩, ⟨v2, hi2, lo2⟩, ⟨v3, hi3, lo3⟩, hr, l'⟩ : S38) (A := A2) (c := c2) (fun W hW => hW.2) hc2).imp (fun W hW => hW.1)).sub (.cons _ (.cons_cons _ (.cons_cons _ .slnil))))
     clear I
     have I := I2
     clear I2
     refine va1 (i := 2) rfl rfl kk (by decide) (bs_run (⟨ki, xid + 1, psv, c, ⟨v1, hi1, lo1⟩, ⟨v2, hi2, lo2⟩, ⟨v3, hi3, lo3⟩, hr, l'⟩ : S38) (.slice A2 l'.length c2) rfl rfl) IS2.out ?_
     refine pu1 (i := 4) rfl rfl kk ?_
     refine pu1 (i := 5) rfl rfl kk ?_
     refine do1 kk ?_
     try go_wp2
     refine bodyPost_ret (ret_ctt rfl _ I.out _ rfl zm Tryz.underlying28 rfl kk) rfl ?_
     exact ⟨_, rfl, I.out.foot.imp (fun W hW => hW.2) |>.mono (fun k hk => hk.1), I.out.below⟩
 have g1 : (ki == 1) = false := beq_eq_false_iff_ne.mpr k1
 by_cases k3 : ki = 3
 · rw [if_pos ⟨hh, .inr k3⟩] at hp
   have hp := Aside0.mk hp
   have g3 : (ki == 3) = true := beq_iff_eq.mpr k3
   clear hh k1 k3
   go_enter Tryz.func53, Tryz.ntmps53
   go_wp2_with (first
    | (refine gB rfl ?_; refine bk rfl rfl rfl I ?_; clear I; intro gb w1 I)
    | (refine ak rfl (al_S rfl) I ?_; clear I; intro gb w1 I)
    | (refine gL rfl ?_; refine ll rfl rfl rfl I zm (by first | exact ld_st3 | exact ld_st0 | exact ld_st1 | exact ld_st) ?_)
    | (refine gS rfl ?_; refine sk rfl rfl rfl rfl rfl I zm (by first | exact sr_st3 | exact sr_st11 | exact sr_st) zu ?_; clear I; intro w1 I)
    )
   have IS := Aside0.mk (I.out.sub (.cons _ (.cons _ (.cons_cons _ .slnil)))).drew
   refine draw_ (Inv _ w [_] _) [] kk rfl IS.out ?_
   have I2 := Aside0.mk I.out.drew
   clear I
   have I := I2
   clear I2
   refine pu1 (i := 0) rfl rfl kk ?_
   refine ta1 (i := 1) rfl rfl kk rfl rfl IS.out zm (by exact ld_st3) ?_
   refine pu1 (i := 2) rfl rfl kk ?_
   refine ta1 (i := 3) rfl rfl kk rfl rfl IS.out zm (by exact ld_st0) ?_
   refine pu1 (i := 4) rfl rfl kk ?_
   refine st1 (i := 5) rfl rfl kk (by decide) rfl rfl rfl I.out zm (by first | exact sr_pk1) zu (fun w1 hI => ⟨hI.sub (.cons _ (.cons _ (.cons_cons _ .slnil))), ?_⟩)
   have IS := Aside0.mk (hI.sub (.cons _ (.cons _ (.cons_cons _ .slnil))))
   clear I
   have I := Aside0.mk hI
   clear hI
   refine pu1 (i := 6) rfl rfl kk ?_
   refine st1 (i := 7) rfl rfl kk (by decide) rfl rfl rfl I.out zm (by first | exact sr_pk3) zu (fun w1 hI => ⟨hI.sub (.cons _ (.cons _ (.cons_cons _ .slnil))), ?_⟩)
   have IS := Aside0.mk (hI.sub (.cons _ (.cons _ (.cons_cons _ .slnil))))
   clear I
   have I := Aside0.mk hI
   clear hI
   refine do1 kk ?_
   clear IS
   go_wp2_with (first
    | (refine gL rfl ?_; refine ll rfl rfl rfl I zm (by first | exact ld_st1 | exact ld_pk0 | exact ld_pk14) ?_)
    | ((with_reducible refine gate_callee (f := 69) rfl ?_); refine goesL_ (some 42) rfl rfl Tryz.func69 kk rfl #[.slice A l.length cc, .int .i64 12, .string h] rfl zh ?_; (refine (option_Put.calls k A cc l 12 h l' _ I.out.now hc hp.out).mono ?_); rintro e_ w1 ⟨v, rfl, hR, hb⟩; refine ⟨_, rfl, ?_⟩; obtain ⟨A2, c2, rfl⟩ := Kd.R_slice hR; have hc2 := (Kd.R_reads' hR).2.1; have I2 := Aside0.mk (I.out.addR hb hR); clear I hR hb; have I := I2; clear I2)
    | (refine gS rfl ?_; refine sk rfl rfl rfl rfl rfl I zm (by first | exact sr_pk14 rfl rfl) zu ?_; clear I; intro w1 I)
    )
   have IS := Aside0.mk (I.out.sub (.cons _ (.cons_cons _ (.cons_cons _ .slnil)))).drew
   refine draw_ (Inv _ w [_, _] _) [] kk rfl IS.out ?_
   have I2 := Aside0.mk I.out.drew
   clear I
   have I := I2
   clear I2
   refine ta1 (i := 0) rfl rfl kk rfl rfl IS.out zm (by exact ld_st) ?_
   refine ta1 (i := 1) rfl rfl kk rfl rfl IS.out zm (by exact ld_pk) ?_
   refine two1 (i := 2) (j := 3) rfl rfl rfl rfl kk (by decide) (by decide) (fun K hK => ?_) (fun K hK => ?_)
   · have I2 := Aside0.mk (I.out.build (⟨ki, xid + 1, psv, c, ⟨v1, hi1, lo1⟩, ⟨v2, hi2, lo2⟩, ⟨v3, hi3, lo3⟩, hr, l'⟩ : S38) (A := A2) (c := c2) (fun W hW => hW.2) hc2)
     have IS2 := Aside0.mk (((I.out.build (⟨ki, xid + 1, psv, c, ⟨v1, hi1, lo1⟩, ⟨v2, hi2, lo2⟩, ⟨v3, hi3, lo3⟩, hr, l'⟩ : S38) (A := A2) (c := c2) (fun W hW => hW.2) hc2).imp (fun W hW => hW.1)).sub (.cons _ (.cons_cons _ (.cons_cons _ .slnil))))
     clear I IS
     have I := I2
     clear I2
     refine vs1 hK rfl (bs_run (⟨ki, xid + 1, psv, c, ⟨v1, hi1, lo1⟩, ⟨v2, hi2, lo2⟩, ⟨v3, hi3, lo3⟩, hr, l'⟩ : S38) (.slice A2 l'.length c2) rfl rfl) IS2.out ?_
     clear hK
     refine st1 (i := 3) rfl rfl kk (by decide) rfl rfl rfl I.out zm (by first | exact sr_st) zu (fun w1 hI => ⟨(hI.imp (fun W hW => hW.1)).sub (.cons _ (.cons_cons _ (.cons_cons _ .slnil))), ?_⟩)
     clear I
     have I := Aside0.mk hI
     clear hI
     refine pu1 (i := 4) rfl rfl kk ?_
     refine pu1 (i := 5) rfl rfl kk ?_
     refine do1 kk ?_
     try go_wp2
     refine bodyPost_ret (ret_ctt rfl _ I.out _ rfl zm Tryz.underlying28 rfl kk) rfl ?_
     exact ⟨_, rfl, I.out.foot.imp (fun W hW => hW.2) |>.mono (fun k hk => hk.1), I.out.below⟩
   · refine ss1 hK rfl rfl rfl rfl I.out zm (by first | exact sr_st) zu (fun w1 hI => ⟨hI.sub (.cons _ (.cons_cons _ (.cons_cons _ .slnil))), ?_⟩)
     clear I IS hK
     have I := Aside0.mk hI
     clear hI
     have I2 := Aside0.mk (I.out.build (⟨ki, xid + 1, psv, c, ⟨v1, hi1, lo1⟩, ⟨v2, hi2, lo2⟩, ⟨v3, hi3, lo3⟩, hr, l'⟩ : S38) (A := A2) (c := c2) (fun W hW => hW.2) hc2)
     have IS2 := Aside0.mk (((I.out.build (⟨ki, xid + 1, psv, c, ⟨v1, hi1, lo1⟩, ⟨v2, hi2, lo2⟩, ⟨v3, hi3, lo3⟩, hr, l'⟩ : S38) (A := A2) (c := c2) (fun W hW => hW.2) hc2).imp (fun W hW => hW.1)).sub (.cons _ (.cons_cons _ (.cons_cons _ .slnil))))
     clear I
     have I := I2
     clear I2
     refine va1 (i := 2) rfl rfl kk (by decide) (bs_run (⟨ki, xid + 1, psv, c, ⟨v1, hi1, lo1⟩, ⟨v2, hi2, lo2⟩, ⟨v3, hi3, lo3⟩, hr, l'⟩ : S38) (.slice A2 l'.length c2) rfl rfl) IS2.out ?_
     refine pu1 (i := 4) rfl rfl kk ?_
     refine pu1 (i := 5) rfl rfl kk ?_
     refine do1 kk ?_
     try go_wp2
     refine bodyPost_ret (ret_ctt rfl _ I.out _ rfl zm Tryz.underlying28 rfl kk) rfl ?_
     exact ⟨_, rfl, I.out.foot.imp (fun W hW => hW.2) |>.mono (fun k hk => hk.1), I.out.below⟩
 have g3 : (ki == 3) = false := beq_eq_false_iff_ne.mpr k3
 rw [if_neg (fun hq => hq.2.elim k1 k3)] at hp
 subst hp
 clear hh k1 k3
 go_enter Tryz.func53, Tryz.ntmps53
 go_wp2_with (first
  | (refine gB rfl ?_; refine bk rfl rfl rfl I ?_; clear I; intro gb w1 I)
  | (refine ak rfl (al_S rfl) I ?_; clear I; intro gb w1 I)
  | (refine gL rfl ?_; refine ll rfl rfl rfl I zm (by first | exact ld_st3 | exact ld_st0 | exact ld_st1 | exact ld_st) ?_)
  | (refine gS rfl ?_; refine sk rfl rfl rfl rfl rfl I zm (by first | exact sr_st3 | exact sr_st11 | exact sr_st) zu ?_; clear I; intro w1 I)
  )
 have IS := Aside0.mk (I.out.sub (.cons _ (.cons _ (.cons_cons _ .slnil)))).drew
 refine draw_ (Inv _ w [_] _) [] kk rfl IS.out ?_
 have I2 := Aside0.mk I.out.drew
 clear I
 have I := I2
 clear I2
 refine pu1 (i := 0) rfl rfl kk ?_
 refine ta1 (i := 1) rfl rfl kk rfl rfl IS.out zm (by exact ld_st3) ?_
 refine pu1 (i := 2) rfl rfl kk ?_
 refine ta1 (i := 3) rfl rfl kk rfl rfl IS.out zm (by exact ld_st0) ?_
 refine pu1 (i := 4) rfl rfl kk ?_
 refine st1 (i := 5) rfl rfl kk (by decide) rfl rfl rfl I.out zm (by first | exact sr_pk1) zu (fun w1 hI => ⟨hI.sub (.cons _ (.cons _ (.cons_cons _ .slnil))), ?_⟩)
 have IS := Aside0.mk (hI.sub (.cons _ (.cons _ (.cons_cons _ .slnil))))
 clear I
 have I := Aside0.mk hI
 clear hI
 refine pu1 (i := 6) rfl rfl kk ?_
 refine st1 (i := 7) rfl rfl kk (by decide) rfl rfl rfl I.out zm (by first | exact sr_pk3) zu (fun w1 hI => ⟨hI.sub (.cons _ (.cons _ (.cons_cons _ .slnil))), ?_⟩)
 have IS := Aside0.mk (hI.sub (.cons _ (.cons _ (.cons_cons _ .slnil))))
 clear I
 have I := Aside0.mk hI
 clear hI
 refine do1 kk ?_
 clear IS
 go_wp2_with (first
  | (refine gL rfl ?_; refine ll rfl rfl rfl I zm (by first | exact ld_st1 | exact ld_pk0 | exact ld_pk14) ?_)
  )
 have IS := Aside0.mk (I.out.sub (.cons _ (.cons_cons _ (.cons_cons _ .slnil)))).drew
 refine draw_ (Inv _ w [_, _] _) [] kk rfl IS.out ?_
 have I2 := Aside0.mk I.out.drew
 clear I
 have I := I2
 clear I2
 refine ta1 (i := 0) rfl rfl kk rfl rfl IS.out zm (by exact ld_st) ?_
 refine ta1 (i := 1) rfl rfl kk rfl rfl IS.out zm (by exact ld_pk) ?_
 refine two1 (i := 2) (j := 3) rfl rfl rfl rfl kk (by decide) (by decide) (fun K hK => ?_) (fun K hK => ?_)
 · have I2 := Aside0.mk (I.out.build (⟨ki, xid + 1, psv, c, ⟨v1, hi1, lo1⟩, ⟨v2, hi2, lo2⟩, ⟨v3, hi3, lo3⟩, hr, l'⟩ : S38) (A := A) (c := cc) (fun W hW => hW) hc)
   have IS2 := Aside0.mk (((I.out.build (⟨ki, xid + 1, psv, c, ⟨v1, hi1, lo1⟩, ⟨v2, hi2, lo2⟩, ⟨v3, hi3, lo3⟩, hr, l'⟩ : S38) (A := A) (c := cc) (fun W hW => hW) hc).imp (fun W hW => hW.1)).sub (.cons _ (.cons_cons _ (.cons_cons _ .slnil))))
   clear I IS
   have I := I2
   clear I2
   refine vs1 hK rfl (bs_run (⟨ki, xid + 1, psv, c, ⟨v1, hi1, lo1⟩, ⟨v2, hi2, lo2⟩, ⟨v3, hi3, lo3⟩, hr, l'⟩ : S38) (.slice A l'.length cc) rfl rfl) IS2.out ?_
   clear hK
   refine st1 (i := 3) rfl rfl kk (by decide) rfl rfl rfl I.out zm (by first | exact sr_st) zu (fun w1 hI => ⟨(hI.imp (fun W hW => hW.1)).sub (.cons _ (.cons_cons _ (.cons_cons _ .slnil))), ?_⟩)
   clear I
   have I := Aside0.mk hI
   clear hI
   refine pu1 (i := 4) rfl rfl kk ?_
   refine pu1 (i := 5) rfl rfl kk ?_
   refine do1 kk ?_
   try go_wp2
   refine bodyPost_ret (ret_ctt rfl _ I.out _ rfl zm Tryz.underlying28 rfl kk) rfl ?_
   exact ⟨_, rfl, I.out.foot.imp (fun W hW => hW.2) |>.mono (fun k hk => hk.1), I.out.below⟩
 · refine ss1 hK rfl rfl rfl rfl I.out zm (by first | exact sr_st) zu (fun w1 hI => ⟨hI.sub (.cons _ (.cons_cons _ (.cons_cons _ .slnil))), ?_⟩)
   clear I IS hK
   have I := Aside0.mk hI
   clear hI
   have I2 := Aside0.mk (I.out.build (⟨ki, xid + 1, psv, c, ⟨v1, hi1, lo1⟩, ⟨v2, hi2, lo2⟩, ⟨v3, hi3, lo3⟩, hr, l'⟩ : S38) (A := A) (c := cc) (fun W hW => hW) hc)
   have IS2 := Aside0.mk (((I.out.build (⟨ki, xid + 1, psv, c, ⟨v1, hi1, lo1⟩, ⟨v2, hi2, lo2⟩, ⟨v3, hi3, lo3⟩, hr, l'⟩ : S38) (A := A) (c := cc) (fun W hW => hW) hc).imp (fun W hW => hW.1)).sub (.cons _ (.cons_cons _ (.cons_cons _ .slnil))))
   clear I
   have I := I2
   clear I2
   refine va1 (i := 2) rfl rfl kk (by decide) (bs_run (⟨ki, xid + 1, psv, c, ⟨v1, hi1, lo1⟩, ⟨v2, hi2, lo2⟩, ⟨v3, hi3, lo3⟩, hr, l'⟩ : S38) (.slice A l'.length cc) rfl rfl) IS2.out ?_
   refine pu1 (i := 4) rfl rfl kk ?_
   refine pu1 (i := 5) rfl rfl kk ?_
   refine do1 kk ?_
   try go_wp2
   refine bodyPost_ret (ret_ctt rfl _ I.out _ rfl zm Tryz.underlying28 rfl kk) rfl ?_
   exact ⟨_, rfl, I.out.foot.imp (fun W hW => hW.2) |>.mono (fun k hk => hk.1), I.out.below⟩
theorem step_no (c h : ByteArray) (st xid sv : Int) (v6 : Bool) (hi lo t1 t2 un se at_ : Int) (ki pxid psv : Int) (pc : ByteArray) (v1 : Bool) (hi1 lo1 : Int) (v2 : Bool) (hi2 lo2 : Int) (v3 : Bool) (hi3 lo3 : Int) (hr : Bool) (o : Value) (state at' now : Int) (w : World) (hx : 4294967295 ≤ xid) : Calls Tryz.prog 26 #[.agg (stC c h st xid sv v6 hi lo t1 t2 un se at_), .agg (pkC ki pxid psv pc v1 hi1 lo1 v2 hi2 lo2 v3 hi3 lo3 hr o), .int .i64 state, .int .i64 at', .int .i64 now] w fun e w' => e = .returned (.tuple #[.agg (stC c h st xid sv v6 hi lo t1 t2 un se at_), .slice none 0 0]) ∧ Below w.heap.size w w' := by
 have hu26 := Tryz.underlying28
 have hu39 := Tryz.underlying38
 have hu24 := Tryz.underlying26
 have I := Aside0.mk (Inv.start0 (w0 := w))
 go_enter Tryz.func26, Tryz.ntmps26
 go_wp2_with (first
  | (refine gB rfl ?_; refine bk rfl rfl rfl I ?_; clear I; intro gb w1 I)
  | (refine ak rfl (al_S rfl) I ?_; clear I; intro gb w1 I)
  | (refine gL rfl ?_; refine ll rfl rfl rfl I zm (by first | exact ld_st | exact ld_pk) ?_)
  | (refine gD 19 rfl ?_; refine ck rfl Tryz.func53 kk rfl #[.agg (stC c h st xid sv v6 hi lo t1 t2 un se at_), .agg (pkC ki pxid psv pc v1 hi1 lo1 v2 hi2 lo2 v3 hi3 lo3 hr o), .int .i64 now] rfl zh (send_no c h st xid sv v6 hi lo t1 t2 un se at_ ki pxid psv pc v1 hi1 lo1 v2 hi2 lo2 v3 hi3 lo3 hr o now _ hx) ?_; rintro e_ w1 ⟨rfl, hb⟩; refine ⟨_, rfl, ?_⟩; replace I := callK I hb; clear hb)
  | (refine gS rfl ?_; refine sk rfl rfl rfl rfl rfl I zm (by first | exact sr_st) zu ?_; clear I; intro w1 I)
  )
 refine bodyPost_ret (ret_ct rfl _ I.out _ rfl zm Tryz.underlying28 rfl kk) rfl ?_
 exact ⟨rfl, I.out.below⟩
theorem step_yes (c h : ByteArray) (st xid sv : Int) (v6 : Bool) (hi lo t1 t2 un se at_ : Int) (ki pxid psv : Int) (pc : ByteArray) (v1 : Bool) (hi1 lo1 : Int) (v2 : Bool) (hi2 lo2 : Int) (v3 : Bool) (hi3 lo3 : Int) (hr : Bool) (A : Option Addr) (cc : Nat) (l l' : List S62) (k : Nat) (B : Nat → Prop) (state at' now : Int) (w : World) (hx0 : 0 ≤ xid) (hx : xid < 4294967295) (hB : Foot (fun W => Kd.C k62 W A l.length l) w B) (hc : l.length ≤ cc)
  (hp : if ¬ h.toList = [] ∧ (ki = 1 ∨ ki = 3) then option_Put.f k l 12 h = some l' else l' = l) :
  Calls Tryz.prog 26 #[.agg (stC c h st xid sv v6 hi lo t1 t2 un se at_), .agg (pkC ki pxid psv pc v1 hi1 lo1 v2 hi2 lo2 v3 hi3 lo3 hr (.slice A l.length cc)), .int .i64 state, .int .i64 at', .int .i64 now] w fun e w' => ∃ g, e = .returned (.tuple #[.agg (stC c h state (xid + 1) sv v6 hi lo t1 t2 un now at'), .slice (some ⟨g, 0, none⟩) 1 1]) ∧ Foot (fun W => Kd.C k38 W (some ⟨g, 0, none⟩) 1 [(⟨ki, xid + 1, psv, c, ⟨v1, hi1, lo1⟩, ⟨v2, hi2, lo2⟩, ⟨v3, hi3, lo3⟩, hr, l'⟩ : S38)]) w' (fun k => B k ∨ w.heap.size ≤ k) ∧ Below w.heap.size w w' := by
 have hu26 := Tryz.underlying28
 have hu39 := Tryz.underlying38
 have hu24 := Tryz.underlying26
 have hp := Aside0.mk hp
 have I : Aside0 (Inv B w [] (fun W => Kd.C k62 W A l.length l) w) := ⟨Inv.start hB⟩
 clear hB
 go_enter Tryz.func26, Tryz.ntmps26
 go_wp2_with (first
  | (refine gB rfl ?_; refine bk rfl rfl rfl I ?_; clear I; intro gb w1 I)
  | (refine ak rfl (al_S rfl) I ?_; clear I; intro gb w1 I)
  | (refine gL rfl ?_; refine ll rfl rfl rfl I zm (by first | exact ld_st | exact ld_pk) ?_)
  | (refine gD 19 rfl ?_; refine ck rfl Tryz.func53 kk rfl #[.agg (stC c h st xid sv v6 hi lo t1 t2 un se at_), .agg (pkC ki pxid psv pc v1 hi1 lo1 v2 hi2 lo2 v3 hi3 lo3 hr (.slice A l.length cc)), .int .i64 now] rfl zh (send_yes c h st xid sv v6 hi lo t1 t2 un se at_ ki pxid psv pc v1 hi1 lo1 v2 hi2 lo2 v3 hi3 lo3 hr A cc l l' k _ now _ hx0 hx I.out.foot hc hp.out) ?_; rintro e_ w1 ⟨g, rfl, hf, hb⟩; refine ⟨_, rfl, ?_⟩; replace I := Aside0.mk (I.out.addNew hb hf (fun k hk _ => hk.elim id (fun h_ => I.out.new_out k h_))); clear hb hf)
  | (refine gS rfl ?_; refine sk rfl rfl rfl rfl rfl I zm (by first | exact sr_st | exact sr_st2 | exact sr_st12) zu ?_; clear I; intro w1 I)
  )
 refine bodyPost_ret (ret_ct rfl _ I.out _ rfl zm Tryz.underlying28 rfl kk) rfl ?_
 exact ⟨_, rfl, (I.out.foot.imp (fun W hW => hW.2)).mono (fun k hk => hk.1), I.out.below⟩
theorem request_c (c h : ByteArray) (st xid sv : Int) (v6 : Bool) (hi lo t1 t2 un se at_ : Int) (k : Nat) (v : ByteArray) (b : Bool) (w : World) (hv : option_Value.f k [(⟨v6, hi, lo⟩ : S26)] = some (v, b)) : Calls Tryz.prog 54 #[.agg (stC c h st xid sv v6 hi lo t1 t2 un se at_)] w fun e w' => ∃ g, e = .returned (.agg (pkC 3 0 sv (⟨#[]⟩ : ByteArray) false 0 0 false 0 0 false 0 0 false (.slice (some ⟨g, 0, none⟩) 1 1))) ∧ Foot (fun W => Kd.C k62 W (some ⟨g, 0, none⟩) 1 [(⟨50, v⟩ : S62)]) w' (fun k => w.heap.size ≤ k) ∧ Below w.heap.size w w' := by
 have hu26 := Tryz.underlying28
 have hu39 := Tryz.underlying38
 have hu24 := Tryz.underlying26
 have hu60 := Tryz.underlying62
 have hv := Aside0.mk hv
 have I := Aside0.mk (Inv.start0 (w0 := w))
 go_enter Tryz.func54, Tryz.ntmps54
 go_wp2_with (first
  | (refine gB rfl ?_; refine bk rfl rfl rfl I ?_; clear I; intro gb w1 I)
  | (refine ak rfl (al_P rfl) I ?_; clear I; intro gb w1 I)
  | (refine gL rfl ?_; refine ll rfl rfl rfl I zm (by first | exact ld_st4 | exact ld_stA5) ?_)
  | ((with_reducible refine gate_dst (N := 8) rfl ?_); refine wl_val (v := .slice (some ⟨w1.heap.size, 0, none⟩) 1 1) (w1 := World.alloc w1 (.cells #[.bool v6, .int .u64 hi, .int .u64 lo] 26 (0, 0))) rfl (by first | (go_simp; done) | (go_simp; rfl)) ?_; have I2 := Aside0.mk (I.out.buildK k26 (⟨v6, hi, lo⟩ : S26) #[.bool v6, .int .u64 hi, .int .u64 lo] 26 rfl (fun W _ => k26_mk W ⟨v6, hi, lo⟩)); clear I; have I := I2; clear I2)
  | (refine gD 9 rfl ?_; refine ck rfl Tryz.func70 kk rfl #[.slice (some ⟨_, 0, none⟩) 1 1] rfl zh (option_Value.calls k _ 1 [(⟨v6, hi, lo⟩ : S26)] v b _ I.out.now.2 (Nat.le_refl _) hv.out) ?_; rintro e_ w1 ⟨rfl, hb⟩; refine ⟨_, rfl, ?_⟩; replace I := callK I hb; clear hb)
  | ((with_reducible refine gate_dst (N := 16) rfl ?_); refine wl_val (v := .slice (some ⟨w1.heap.size, 0, none⟩) 1 1) (w1 := World.alloc w1 (.cells #[.int .i64 50, .string v] 62 (0, 0))) rfl (by first | (go_simp; done) | (go_simp; rfl)) ?_; have I2 := Aside0.mk (I.out.buildK k62 (⟨50, v⟩ : S62) #[.int .i64 50, .string v] 62 rfl (fun W _ => k62_mk W ⟨50, v⟩)); clear I; have I := I2; clear I2)
  | (refine gS rfl ?_; refine sk rfl rfl rfl rfl rfl I zm (by first | exact sr_pk rfl) zu ?_; clear I; intro w1 I)
  )
 refine bodyPost_ret (ret_c rfl _ I.out _ rfl zm Tryz.underlying38 rfl kk) rfl ?_
 exact ⟨_, rfl, (I.out.foot.imp (fun W hW => hW.2)).mono (fun k hk => hk.1.resolve_left id), I.out.below⟩
end Go.Proofs.YtlabnocmmeciaaaGreatDoor.BQ
namespace Go.Proofs.YtlabnocmmeciaaaGreatDoor.STN
open Go RowKit YtlabnocmmeciaaaGreatDoorW.PrintWords YtlabnocmmeciaaaGreatDoorW.PrintLast YtlabnocmmeciaaaGreatDoorW.PrintMore Pa
structure Stn where
  c : ByteArray
  h : ByteArray
  st : Int
  xid : Int
  sv : Int
  a : S26
  t1 : Int
  t2 : Int
  un : Int
  se : Int
  tr : Int
def zA : S26 := ⟨false, 0, 0⟩
/-- The host is told in a Discover or a Request. -/
def hostF (h : ByteArray) (ki : Int) (l : List S62) : List S62 := if ¬ h.toList = [] ∧ (ki = 1 ∨ ki = 3) then l ++ [⟨12, h⟩] else l
theorem put_nil (h : ByteArray) : option_Put.f 1000 [] 12 h = some [⟨12, h⟩] := by rfl
theorem put_want (v h : ByteArray) : option_Put.f 1000 [⟨50, v⟩] 12 h = some [⟨50, v⟩, ⟨12, h⟩] := by kernel_rfl
def okO (l : List S62) : Prop := ∀ h, option_Put.f 1000 l 12 h = some (l ++ [⟨12, h⟩])
theorem okO_nil : okO [] := put_nil
theorem okO_want (v : ByteArray) : okO [⟨50, v⟩] := put_want v
theorem host_put {l : List S62} (hl : okO l) (h : ByteArray) (ki : Int) : if ¬ h.toList = [] ∧ (ki = 1 ∨ ki = 3) then option_Put.f 1000 l 12 h = some (hostF h ki l) else hostF h ki l = l := by
  unfold hostF
  by_cases hc : ¬ h.toList = [] ∧ (ki = 1 ∨ ki = 3)
  · rw [if_pos hc, if_pos hc]; exact hl h
  · rw [if_neg hc, if_neg hc]
def wantF (a : S26) : ByteArray := ((option_Value.f 1000 [a]).getD (⟨#[]⟩, false)).1
def msgF (s : Stn) (ki sv : Int) (cur : S26) (l : List S62) : S38 := ⟨ki, s.xid + 1, sv, s.c, cur, zA, zA, false, hostF s.h ki l⟩
def initF (s : Stn) : Stn := ⟨s.c, s.h, 0, s.xid, 0, zA, 0, 0, 0, 0, 0⟩
def stepF (s : Stn) (ki sv : Int) (cur : S26) (l : List S62) (state tr now : Int) : Stn × List S38 :=
  if 4294967295 ≤ s.xid then (s, []) else (⟨s.c, s.h, state, s.xid + 1, s.sv, s.a, s.t1, s.t2, s.un, now, tr⟩, [msgF s ki sv cur l])
def has (st : Int) : Bool := decide (st = 3 ∨ st = 4 ∨ st = 5)
def giveF (s : Stn) (ki : Int) : Stn × List S38 :=
  if has s.st = true then (if 4294967295 ≤ s.xid then (initF s, []) else (⟨s.c, s.h, 0, s.xid + 1, 0, zA, 0, 0, 0, 0, 0⟩, [msgF s ki s.sv s.a []])) else (s, [])
def holdsF (s : Stn) (now : Int) : S26 × Bool := if has s.st = true ∧ now < s.un then (s.a, true) else (zA, false)
def later (a b : Int) : Int := min (a + b) 4294967295
def waitF (tr : Int) : Int := if tr = 1 then 4 else if tr = 2 then 8 else if tr = 3 then 16 else 32
def askF (s : Stn) (now : Int) : Stn × List S38 :=
  if now < later s.se (waitF s.tr) then (s, []) else if 4 ≤ s.tr then (initF s, []) else
  if s.st = 1 then stepF s 1 0 zA [] s.st (s.tr + 1) now else stepF s 3 s.sv zA [⟨50, wantF s.a⟩] s.st (s.tr + 1) now
def renewF (s : Stn) (any : Bool) (state now : Int) : Stn × List S38 := stepF s 3 (if any then 0 else s.sv) s.a [] state s.tr now
def tickF (s : Stn) (now : Int) : Stn × List S38 :=
  if s.st = 0 then stepF s 1 0 zA [] 1 1 now else if s.st = 1 ∨ s.st = 2 then askF s now else
  if s.un ≤ now then (initF s, []) else
  if s.st ≠ 5 ∧ s.t2 ≤ now then renewF s true 5 now else
  if s.st = 3 ∧ s.t1 ≤ now then renewF s false 4 now else
  if s.st = 4 ∧ later s.se (max 60 ((s.t2 - s.se).tdiv 2)) ≤ now then renewF s false 4 now else
  if s.st = 5 ∧ later s.se (max 60 ((s.un - s.se).tdiv 2)) ≤ now then renewF s true 5 now else (s, [])
end Go.Proofs.YtlabnocmmeciaaaGreatDoor.STN
namespace Go.Proofs.YtlabnocmmeciaaaGreatDoor.BQ
open Go RowKit YtlabnocmmeciaaaGreatDoorW.PrintWords YtlabnocmmeciaaaGreatDoorW.PrintLast YtlabnocmmeciaaaGreatDoorW.PrintMore Pa STN
def stA (s : Stn) : Array Value := stC s.c s.h s.st s.xid s.sv s.a.f0 s.a.f1 s.a.f2 s.t1 s.t2 s.un s.se s.tr
def Pks (v : Value) (l : List S38) (W : World) : Prop := ∃ A c, v = .slice A l.length c ∧ l.length ≤ c ∧ Kd.C k38 W A l.length l
theorem Pks_nil (w : World) (ok : Nat → Prop) : Foot (Pks (.slice none 0 0) []) w ok := fun W _ => ⟨none, 0, rfl, Nat.le_refl _, Kd.C_nil _ _⟩
theorem Pks_one {w : World} {ok : Nat → Prop} {g : Nat} {p : S38} (h : Foot (fun W => Kd.C k38 W (some ⟨g, 0, none⟩) 1 [p]) w ok) : Foot (Pks (.slice (some ⟨g, 0, none⟩) 1 1) [p]) w ok := h.imp (fun W hW => ⟨_, _, rfl, Nat.le_refl _, hW⟩)
def Ret (f : Stn × List S38) (w : World) (e : Ending) (w' : World) : Prop := ∃ v, e = .returned (.tuple #[.agg (stA f.1), v]) ∧ Foot (Pks v f.2) w' (fun k => w.heap.size ≤ k) ∧ Below w.heap.size w w'
theorem foot_new {F : World → Prop} {w w' : World} {L : Bxs} (h : Foot F w' (fun k => ((fun _ : Nat => False) k ∨ w.heap.size ≤ k) ∧ Out L k)) : Foot F w' (fun k => w.heap.size ≤ k) := h.mono (fun k hk => hk.1.resolve_left id)
theorem foot_no (w : World) (A : Option Addr) (n : Nat) : Foot (fun W => Kd.C k62 W none 0 ([] : List S62)) w (fun _ => False) := fun W _ => Kd.C_nil _ _
theorem giveUp_c (s : Stn) (ki now : Int) (w : World) (hx0 : 0 ≤ s.xid) (hk1 : ki ≠ 1) (hk3 : ki ≠ 3) : Calls Tryz.prog 44 #[.agg (stA s), .int .i64 ki, .int .i64 now] w (Ret (giveF s ki) w) := by
 have hu26 := Tryz.underlying28
 have hu39 := Tryz.underlying38
 have hu24 := Tryz.underlying26
 obtain ⟨c, h, st, xid, sv, ⟨v6, hi, lo⟩, t1, t2, un, se, at_⟩ := s
 replace hx0 : 0 ≤ xid := hx0
 show Calls Tryz.prog 44 #[.agg (stC c h st xid sv v6 hi lo t1 t2 un se at_), .int .i64 ki, .int .i64 now] w _
 by_cases hh : has st = true
 · have hd : decide (st = 3 ∨ st = 4 ∨ st = 5) = true := hh
   by_cases hx : 4294967295 ≤ xid
   · have eF : giveF ⟨c, h, st, xid, sv, ⟨v6, hi, lo⟩, t1, t2, un, se, at_⟩ ki = (initF ⟨c, h, st, xid, sv, ⟨v6, hi, lo⟩, t1, t2, un, se, at_⟩, []) := by unfold giveF; rw [if_pos hh, if_pos hx]
     rw [eF]
     clear eF hh
     have I := Aside0.mk (Inv.start0 (w0 := w))
     go_enter Tryz.func44, Tryz.ntmps44
     go_wp2_with (first
      | (refine gB rfl ?_; refine bk rfl rfl rfl I ?_; clear I; intro gb w1 I)
      | (refine ak rfl (al_S rfl) I ?_; clear I; intro gb w1 I)
      | (refine gL rfl ?_; refine ll rfl rfl rfl I zm (by first | exact ld_st | exact ld_st4 | exact ld_stA5) ?_)
      | (refine gD 12 rfl ?_; refine ck rfl Tryz.func46 kk rfl #[.agg (stC c h st xid sv v6 hi lo t1 t2 un se at_)] rfl zh (has_c c h st xid sv v6 hi lo t1 t2 un se at_ _) ?_; rintro e_ w1 ⟨rfl, hb⟩; refine ⟨_, rfl, ?_⟩; replace I := callK I hb; clear hb)
      | (refine gD 24 rfl ?_; refine ck rfl Tryz.func53 kk rfl #[.agg (stC c h st xid sv v6 hi lo t1 t2 un se at_), .agg (pkC ki 0 sv (⟨#[]⟩ : ByteArray) v6 hi lo false 0 0 false 0 0 false (.slice none 0 0)), .int .i64 now] rfl zh (send_no c h st xid sv v6 hi lo t1 t2 un se at_ ki 0 sv (⟨#[]⟩ : ByteArray) v6 hi lo false 0 0 false 0 0 false (.slice none 0 0) now _ hx) ?_; rintro e_ w1 ⟨rfl, hb⟩; refine ⟨_, rfl, ?_⟩; replace I := callK I hb; clear hb)
      | (refine gD 29 rfl ?_; refine ck rfl Tryz.func30 kk rfl #[.agg (stC c h st xid sv v6 hi lo t1 t2 un se at_)] rfl zh (initial_c c h st xid sv v6 hi lo t1 t2 un se at_ _) ?_; rintro e_ w1 ⟨rfl, hb⟩; refine ⟨_, rfl, ?_⟩; replace I := callK I hb; clear hb)
      | (refine gS rfl ?_; refine sk rfl rfl rfl rfl rfl I zm (by first | exact sr_st) zu ?_; clear I; intro w1 I)
      )
     refine bodyPost_ret (ret_ct rfl _ I.out _ rfl zm Tryz.underlying28 rfl kk) rfl ?_
     exact ⟨_, rfl, Pks_nil _ _, I.out.below⟩
   · have eF : giveF ⟨c, h, st, xid, sv, ⟨v6, hi, lo⟩, t1, t2, un, se, at_⟩ ki = (⟨c, h, 0, xid + 1, 0, zA, 0, 0, 0, 0, 0⟩, [msgF ⟨c, h, st, xid, sv, ⟨v6, hi, lo⟩, t1, t2, un, se, at_⟩ ki sv ⟨v6, hi, lo⟩ []]) := by unfold giveF; rw [if_pos hh, if_neg hx]
     rw [eF]
     clear eF hh
     replace hx : xid < 4294967295 := by omega
     have hp := Aside0.mk (host_put okO_nil h ki)
     have I := Aside0.mk (Inv.start0 (w0 := w))
     go_enter Tryz.func44, Tryz.ntmps44
     go_wp2_with (first
      | (refine gB rfl ?_; refine bk rfl rfl rfl I ?_; clear I; intro gb w1 I)
      | (refine ak rfl (al_S rfl) I ?_; clear I; intro gb w1 I)
      | (refine gL rfl ?_; refine ll rfl rfl rfl I zm (by first | exact ld_st | exact ld_st4 | exact ld_stA5) ?_)
      | (refine gD 12 rfl ?_; refine ck rfl Tryz.func46 kk rfl #[.agg (stC c h st xid sv v6 hi lo t1 t2 un se at_)] rfl zh (has_c c h st xid sv v6 hi lo t1 t2 un se at_ _) ?_; rintro e_ w1 ⟨rfl, hb⟩; refine ⟨_, rfl, ?_⟩; replace I := callK I hb; clear hb)
      | (refine gD 24 rfl ?_; refine ck rfl Tryz.func53 kk rfl #[.agg (stC c h st xid sv v6 hi lo t1 t2 un se at_), .agg (pkC ki 0 sv (⟨#[]⟩ : ByteArray) v6 hi lo false 0 0 false 0 0 false (.slice none 0 0)), .int .i64 now] rfl zh (send_yes c h st xid sv v6 hi lo t1 t2 un se at_ ki 0 sv (⟨#[]⟩ : ByteArray) v6 hi lo false 0 0 false 0 0 false none 0 [] (hostF h ki []) 1000 (fun _ => False) now _ hx0 hx (foot_no _ none 0) (Nat.le_refl _) hp.out) ?_; rintro e_ w1 ⟨g, rfl, hf, hb⟩; refine ⟨_, rfl, ?_⟩; replace I := Aside0.mk (I.out.addNew hb hf (fun k hk _ => hk.elim False.elim (fun h_ => I.out.new_out k h_))); clear hb hf)
      | (refine gD 29 rfl ?_; refine ck rfl Tryz.func30 kk rfl #[.agg (stC c h st (xid + 1) sv v6 hi lo t1 t2 un now at_)] rfl zh (initial_c c h st (xid + 1) sv v6 hi lo t1 t2 un now at_ _) ?_; rintro e_ w1 ⟨rfl, hb⟩; refine ⟨_, rfl, ?_⟩; replace I := callK I hb; clear hb)
      | (refine gS rfl ?_; refine sk rfl rfl rfl rfl rfl I zm (by first | exact sr_st) zu ?_; clear I; intro w1 I)
      )
     refine bodyPost_ret (ret_ct rfl _ I.out _ rfl zm Tryz.underlying28 rfl kk) rfl ?_
     exact ⟨_, rfl, Pks_one (foot_new (I.out.foot.imp (fun W hW => hW.2))), I.out.below⟩
 · have hd : decide (st = 3 ∨ st = 4 ∨ st = 5) = false := Bool.eq_false_iff.mpr hh
   have eF : giveF ⟨c, h, st, xid, sv, ⟨v6, hi, lo⟩, t1, t2, un, se, at_⟩ ki = (⟨c, h, st, xid, sv, ⟨v6, hi, lo⟩, t1, t2, un, se, at_⟩, []) := by unfold giveF; rw [if_neg hh]
   rw [eF]
   clear eF hh
   have I := Aside0.mk (Inv.start0 (w0 := w))
   go_enter Tryz.func44, Tryz.ntmps44
   go_wp2_with (first
    | (refine gB rfl ?_; refine bk rfl rfl rfl I ?_; clear I; intro gb w1 I)
    | (refine ak rfl (al_S rfl) I ?_; clear I; intro gb w1 I)
    | (refine gL rfl ?_; refine ll rfl rfl rfl I zm (by exact ld_st) ?_)
    | (refine gD 12 rfl ?_; refine ck rfl Tryz.func46 kk rfl #[.agg (stC c h st xid sv v6 hi lo t1 t2 un se at_)] rfl zh (has_c c h st xid sv v6 hi lo t1 t2 un se at_ _) ?_; rintro e_ w1 ⟨rfl, hb⟩; refine ⟨_, rfl, ?_⟩; replace I := callK I hb; clear hb)
    | (refine gS rfl ?_; refine sk rfl rfl rfl rfl rfl I zm (by first | exact sr_st) zu ?_; clear I; intro w1 I)
    )
   refine bodyPost_ret (ret_ct rfl _ I.out _ rfl zm Tryz.underlying28 rfl kk) rfl ?_
   exact ⟨_, rfl, Pks_nil _ _, I.out.below⟩
theorem sr_ad {a x : Bool} {b d y z : Int} : Sr Tryz.prog 26 #[.bool a, .int .u64 b, .int .u64 d] 0 (.agg #[.bool x, .int .u64 y, .int .u64 z]) #[.bool x, .int .u64 y, .int .u64 z] := sr_row kk rfl (by simp [Value.oneCell'])
theorem ld_ad {a : Bool} {b d : Int} : Ld Tryz.prog 26 #[.bool a, .int .u64 b, .int .u64 d] 0 (.agg #[.bool a, .int .u64 b, .int .u64 d]) := ld_row _ Tryz.underlying26 rfl kk
theorem leave_c (s : Stn) (now : Int) (w : World) (hx0 : 0 ≤ s.xid) : Calls Tryz.prog 13 #[.agg (stA s), .int .i64 now] w (Ret (giveF s 7) w) := by
 have hu26 := Tryz.underlying28
 have hu39 := Tryz.underlying38
 have hu24 := Tryz.underlying26
 obtain ⟨c, h, st, xid, sv, ⟨v6, hi, lo⟩, t1, t2, un, se, at_⟩ := s
 replace hx0 : 0 ≤ xid := hx0
 show Calls Tryz.prog 13 #[.agg (stC c h st xid sv v6 hi lo t1 t2 un se at_), .int .i64 now] w _
 have I := Aside0.mk (Inv.start0 (w0 := w))
 go_enter Tryz.func13, Tryz.ntmps13
 go_wp2_with (first
  | (refine gB rfl ?_; refine bk rfl rfl rfl I ?_; clear I; intro gb w1 I)
  | (refine ak rfl (al_S rfl) I ?_; clear I; intro gb w1 I)
  | (refine gL rfl ?_; refine ll rfl rfl rfl I zm (by exact ld_st) ?_)
  | (refine gD 8 rfl ?_; refine ck rfl Tryz.func44 kk rfl #[.agg (stC c h st xid sv v6 hi lo t1 t2 un se at_), .int .i64 7, .int .i64 now] rfl zh (giveUp_c ⟨c, h, st, xid, sv, ⟨v6, hi, lo⟩, t1, t2, un, se, at_⟩ 7 now _ hx0 (by decide) (by decide)) ?_; rintro e_ w1 ⟨v, rfl, hf, hb⟩; refine ⟨_, rfl, ?_⟩; replace I := addK I hb hf; clear hb hf)
  | (refine gS rfl ?_; refine sk rfl rfl rfl rfl rfl I zm (by first | exact sr_st) zu ?_; clear I; intro w1 I)
  )
 refine bodyPost_ret (ret_ct rfl _ I.out _ rfl zm Tryz.underlying28 rfl kk) rfl ?_
 exact ⟨_, rfl, foot_new (I.out.foot.imp (fun W hW => hW.2)), I.out.below⟩
theorem refuse_c (s : Stn) (now : Int) (w : World) (hx0 : 0 ≤ s.xid) : Calls Tryz.prog 15 #[.agg (stA s), .int .i64 now] w (Ret (giveF s 4) w) := by
 have hu26 := Tryz.underlying28
 have hu39 := Tryz.underlying38
 have hu24 := Tryz.underlying26
 obtain ⟨c, h, st, xid, sv, ⟨v6, hi, lo⟩, t1, t2, un, se, at_⟩ := s
 replace hx0 : 0 ≤ xid := hx0
 show Calls Tryz.prog 15 #[.agg (stC c h st xid sv v6 hi lo t1 t2 un se at_), .int .i64 now] w _
 have I := Aside0.mk (Inv.start0 (w0 := w))
 go_enter Tryz.func15, Tryz.ntmps15
 go_wp2_with (first
  | (refine gB rfl ?_; refine bk rfl rfl rfl I ?_; clear I; intro gb w1 I)
  | (refine ak rfl (al_S rfl) I ?_; clear I; intro gb w1 I)
  | (refine gL rfl ?_; refine ll rfl rfl rfl I zm (by exact ld_st) ?_)
  | (refine gD 8 rfl ?_; refine ck rfl Tryz.func44 kk rfl #[.agg (stC c h st xid sv v6 hi lo t1 t2 un se at_), .int .i64 4, .int .i64 now] rfl zh (giveUp_c ⟨c, h, st, xid, sv, ⟨v6, hi, lo⟩, t1, t2, un, se, at_⟩ 4 now _ hx0 (by decide) (by decide)) ?_; rintro e_ w1 ⟨v, rfl, hf, hb⟩; refine ⟨_, rfl, ?_⟩; replace I := addK I hb hf; clear hb hf)
  | (refine gS rfl ?_; refine sk rfl rfl rfl rfl rfl I zm (by first | exact sr_st) zu ?_; clear I; intro w1 I)
  )
 refine bodyPost_ret (ret_ct rfl _ I.out _ rfl zm Tryz.underlying28 rfl kk) rfl ?_
 exact ⟨_, rfl, foot_new (I.out.foot.imp (fun W hW => hW.2)), I.out.below⟩
theorem holds_c (s : Stn) (now : Int) (w : World) : Calls Tryz.prog 17 #[.agg (stA s), .int .i64 now] w fun e w' => e = .returned (.tuple #[.agg #[.bool (holdsF s now).1.f0, .int .u64 (holdsF s now).1.f1, .int .u64 (holdsF s now).1.f2], .bool (holdsF s now).2]) ∧ Below w.heap.size w w' := by
 have hu26 := Tryz.underlying28
 have hu39 := Tryz.underlying38
 have hu24 := Tryz.underlying26
 obtain ⟨c, h, st, xid, sv, ⟨v6, hi, lo⟩, t1, t2, un, se, at_⟩ := s
 show Calls Tryz.prog 17 #[.agg (stC c h st xid sv v6 hi lo t1 t2 un se at_), .int .i64 now] w _
 by_cases hh : has st = true
 · have hd : decide (st = 3 ∨ st = 4 ∨ st = 5) = true := hh
   by_cases hn : now < un
   · have eF : holdsF ⟨c, h, st, xid, sv, ⟨v6, hi, lo⟩, t1, t2, un, se, at_⟩ now = (⟨v6, hi, lo⟩, true) := by unfold holdsF; rw [if_pos ⟨hh, hn⟩]
     have e1 : decide (un ≤ now) = false := decide_eq_false (by omega)
     rw [eF]
     clear eF hh hn
     have I := Aside0.mk (Inv.start0 (w0 := w))
     go_enter Tryz.func17, Tryz.ntmps17
     go_wp2_with (first
      | (refine gB rfl ?_; refine bk rfl rfl rfl I ?_; clear I; intro gb w1 I)
      | (refine ak rfl (al_A rfl) I ?_; clear I; intro gb w1 I)
      | (refine gL rfl ?_; refine ll rfl rfl rfl I zm (by first | exact ld_st | exact ld_st10 | exact ld_stA5) ?_)
      | (refine gD 7 rfl ?_; refine ck rfl Tryz.func46 kk rfl #[.agg (stC c h st xid sv v6 hi lo t1 t2 un se at_)] rfl zh (has_c c h st xid sv v6 hi lo t1 t2 un se at_ _) ?_; rintro e_ w1 ⟨rfl, hb⟩; refine ⟨_, rfl, ?_⟩; replace I := callK I hb; clear hb)
      | (refine gS rfl ?_; refine sk rfl rfl rfl rfl rfl I zm (by first | exact sr_ad) zu ?_; clear I; intro w1 I)
      )
     refine bodyPost_ret (ret_ct rfl _ I.out _ rfl zm Tryz.underlying26 rfl kk) rfl ?_
     exact ⟨rfl, I.out.below⟩
   · have eF : holdsF ⟨c, h, st, xid, sv, ⟨v6, hi, lo⟩, t1, t2, un, se, at_⟩ now = (zA, false) := by unfold holdsF; rw [if_neg (fun hq => hn hq.2)]
     have e1 : decide (un ≤ now) = true := decide_eq_true (by omega)
     rw [eF]
     clear eF hh hn
     have I := Aside0.mk (Inv.start0 (w0 := w))
     go_enter Tryz.func17, Tryz.ntmps17
     go_wp2_with (first
      | (refine gB rfl ?_; refine bk rfl rfl rfl I ?_; clear I; intro gb w1 I)
      | (refine ak rfl (al_A rfl) I ?_; clear I; intro gb w1 I)
      | (refine gL rfl ?_; refine ll rfl rfl rfl I zm (by first | exact ld_st | exact ld_st10 | exact ld_stA5) ?_)
      | (refine gD 7 rfl ?_; refine ck rfl Tryz.func46 kk rfl #[.agg (stC c h st xid sv v6 hi lo t1 t2 un se at_)] rfl zh (has_c c h st xid sv v6 hi lo t1 t2 un se at_ _) ?_; rintro e_ w1 ⟨rfl, hb⟩; refine ⟨_, rfl, ?_⟩; replace I := callK I hb; clear hb)
      | (refine gS rfl ?_; refine sk rfl rfl rfl rfl rfl I zm (by first | exact sr_ad) zu ?_; clear I; intro w1 I)
      )
     refine bodyPost_ret (ret_ct rfl _ I.out _ rfl zm Tryz.underlying26 rfl kk) rfl ?_
     exact ⟨rfl, I.out.below⟩
 · have hd : decide (st = 3 ∨ st = 4 ∨ st = 5) = false := Bool.eq_false_iff.mpr hh
   have eF : holdsF ⟨c, h, st, xid, sv, ⟨v6, hi, lo⟩, t1, t2, un, se, at_⟩ now = (zA, false) := by unfold holdsF; rw [if_neg (fun hq => hh hq.1)]
   rw [eF]
   clear eF hh
   have I := Aside0.mk (Inv.start0 (w0 := w))
   go_enter Tryz.func17, Tryz.ntmps17
   go_wp2_with (first
    | (refine gB rfl ?_; refine bk rfl rfl rfl I ?_; clear I; intro gb w1 I)
    | (refine ak rfl (al_A rfl) I ?_; clear I; intro gb w1 I)
    | (refine gL rfl ?_; refine ll rfl rfl rfl I zm (by first | exact ld_st | exact ld_st10 | exact ld_stA5) ?_)
    | (refine gD 7 rfl ?_; refine ck rfl Tryz.func46 kk rfl #[.agg (stC c h st xid sv v6 hi lo t1 t2 un se at_)] rfl zh (has_c c h st xid sv v6 hi lo t1 t2 un se at_ _) ?_; rintro e_ w1 ⟨rfl, hb⟩; refine ⟨_, rfl, ?_⟩; replace I := callK I hb; clear hb)
    | (refine gS rfl ?_; refine sk rfl rfl rfl rfl rfl I zm (by first | exact sr_ad) zu ?_; clear I; intro w1 I)
    )
   refine bodyPost_ret (ret_ct rfl _ I.out _ rfl zm Tryz.underlying26 rfl kk) rfl ?_
   exact ⟨rfl, I.out.below⟩
theorem step_c (s : Stn) (ki psv : Int) (cur : S26) (A : Option Addr) (cc : Nat) (l : List S62) (B : Nat → Prop) (state tr now : Int) (w : World) (hx0 : 0 ≤ s.xid) (hB : Foot (fun W => Kd.C k62 W A l.length l) w B) (hc : l.length ≤ cc) (hl : okO l) :
  Calls Tryz.prog 26 #[.agg (stA s), .agg (pkC ki 0 psv (⟨#[]⟩ : ByteArray) cur.f0 cur.f1 cur.f2 false 0 0 false 0 0 false (.slice A l.length cc)), .int .i64 state, .int .i64 tr, .int .i64 now] w fun e w' => ∃ v, e = .returned (.tuple #[.agg (stA (stepF s ki psv cur l state tr now).1), v]) ∧ Foot (Pks v (stepF s ki psv cur l state tr now).2) w' (fun k => B k ∨ w.heap.size ≤ k) ∧ Below w.heap.size w w' := by
 by_cases hx : 4294967295 ≤ s.xid
 · have eF : stepF s ki psv cur l state tr now = (s, []) := if_pos hx
   rw [eF]
   refine (step_no s.c s.h s.st s.xid s.sv s.a.f0 s.a.f1 s.a.f2 s.t1 s.t2 s.un s.se s.tr ki 0 psv (⟨#[]⟩ : ByteArray) cur.f0 cur.f1 cur.f2 false 0 0 false 0 0 false _ state tr now w hx).mono ?_
   rintro e w' ⟨rfl, hb⟩
   exact ⟨_, rfl, Pks_nil _ _, hb⟩
 · have eF : stepF s ki psv cur l state tr now = (⟨s.c, s.h, state, s.xid + 1, s.sv, s.a, s.t1, s.t2, s.un, now, tr⟩, [msgF s ki psv cur l]) := if_neg hx
   rw [eF]
   refine (step_yes s.c s.h s.st s.xid s.sv s.a.f0 s.a.f1 s.a.f2 s.t1 s.t2 s.un s.se s.tr ki 0 psv (⟨#[]⟩ : ByteArray) cur.f0 cur.f1 cur.f2 false 0 0 false 0 0 false A cc l (hostF s.h ki l) 1000 B state tr now w hx0 (by omega) hB hc (host_put hl s.h ki)).mono ?_
   rintro e w' ⟨g, rfl, hf, hb⟩
   exact ⟨_, rfl, Pks_one hf, hb⟩
def validF (a : S26) : Bool := (addr_Valid.f a.f0 a.f1 a.f2).getD false
def offF (s : Stn) (psv : Int) (y : S26) (now : Int) : Stn × List S38 :=
  if validF y = true ∧ y.f0 = false ∧ ¬ (y.f1 = 0 ∧ y.f2 = 0) ∧ s.xid < 4294967295 then (⟨s.c, s.h, 2, s.xid + 1, psv, y, s.t1, s.t2, s.un, now, 1⟩, [⟨3, s.xid + 1, psv, s.c, zA, zA, zA, false, hostF s.h 3 [⟨50, wantF y⟩]⟩]) else (s, [])
theorem offered_c (s : Stn) (ki pxid psv : Int) (pc : ByteArray) (v1 : Bool) (hi1 lo1 : Int) (y : S26) (v3 : Bool) (hi3 lo3 : Int) (hr : Bool) (o : Value) (now : Int) (w : World) (hx0 : 0 ≤ s.xid) (hV : addr_Valid.f y.f0 y.f1 y.f2 = some (validF y)) (hW : ∃ b, option_Value.f 1000 [y] = some (wantF y, b)) : Calls Tryz.prog 38 #[.agg (stA s), .agg (pkC ki pxid psv pc v1 hi1 lo1 y.f0 y.f1 y.f2 v3 hi3 lo3 hr o), .int .i64 now] w (Ret (offF s psv y now) w) := by
 have hu26 := Tryz.underlying28
 have hu39 := Tryz.underlying38
 have hu24 := Tryz.underlying26
 obtain ⟨c, h, st, xid, sv, ⟨v6, hi, lo⟩, t1, t2, un, se, at_⟩ := s
 obtain ⟨v2, hi2, lo2⟩ := y
 obtain ⟨bW, hW⟩ := hW
 replace hx0 : 0 ≤ xid := hx0
 have hV := Aside0.mk hV
 show Calls Tryz.prog 38 #[.agg (stC c h st xid sv v6 hi lo t1 t2 un se at_), .agg (pkC ki pxid psv pc v1 hi1 lo1 v2 hi2 lo2 v3 hi3 lo3 hr o), .int .i64 now] w _
 cases hv : validF ⟨v2, hi2, lo2⟩ with
 | false =>
  have eF : offF ⟨c, h, st, xid, sv, ⟨v6, hi, lo⟩, t1, t2, un, se, at_⟩ psv ⟨v2, hi2, lo2⟩ now = (⟨c, h, st, xid, sv, ⟨v6, hi, lo⟩, t1, t2, un, se, at_⟩, []) := by unfold offF; rw [if_neg (fun hq => by rw [hv] at hq; exact absurd hq.1 (by decide))]
  rw [eF]
  clear eF
  rw [hv] at hV
  clear hv
  have I := Aside0.mk (Inv.start0 (w0 := w))
  go_enter Tryz.func38, Tryz.ntmps38
  go_wp2_with (first
   | (refine gB rfl ?_; refine bk rfl rfl rfl I ?_; clear I; intro gb w1 I)
   | (refine ak rfl (al_S rfl) I ?_; clear I; intro gb w1 I)
   | (refine gL rfl ?_; refine ll rfl rfl rfl I zm (by first | exact ld_pkA7 | exact ld_pk7 | exact ld_st) ?_)
   | (refine gD 13 rfl ?_; refine ck rfl Tryz.func59 kk rfl #[.agg #[.bool v2, .int .u64 hi2, .int .u64 lo2]] rfl zh (addr_Valid.calls v2 hi2 lo2 false _ hV.out) ?_; rintro e_ w1 ⟨rfl, hb⟩; refine ⟨_, rfl, ?_⟩; replace I := callK I hb; clear hb)
   | (refine gS rfl ?_; refine sk rfl rfl rfl rfl rfl I zm (by first | exact sr_st) zu ?_; clear I; intro w1 I)
   )
  refine bodyPost_ret (ret_ct rfl _ I.out _ rfl zm Tryz.underlying28 rfl kk) rfl ?_
  exact ⟨_, rfl, Pks_nil _ _, I.out.below⟩
 | true =>
  cases v2 with
  | true =>
   have eF : offF ⟨c, h, st, xid, sv, ⟨v6, hi, lo⟩, t1, t2, un, se, at_⟩ psv ⟨true, hi2, lo2⟩ now = (⟨c, h, st, xid, sv, ⟨v6, hi, lo⟩, t1, t2, un, se, at_⟩, []) := by unfold offF; rw [if_neg (fun hq => Bool.noConfusion (show true = false from hq.2.1))]
   rw [eF]
   clear eF
   rw [hv] at hV
   clear hv
   have I := Aside0.mk (Inv.start0 (w0 := w))
   go_enter Tryz.func38, Tryz.ntmps38
   go_wp2_with (first
    | (refine gB rfl ?_; refine bk rfl rfl rfl I ?_; clear I; intro gb w1 I)
    | (refine ak rfl (al_S rfl) I ?_; clear I; intro gb w1 I)
    | (refine gL rfl ?_; refine ll rfl rfl rfl I zm (by first | exact ld_pkA7 | exact ld_pk7 | exact ld_st) ?_)
    | (refine gD 13 rfl ?_; refine ck rfl Tryz.func59 kk rfl #[.agg #[.bool true, .int .u64 hi2, .int .u64 lo2]] rfl zh (addr_Valid.calls true hi2 lo2 true _ hV.out) ?_; rintro e_ w1 ⟨rfl, hb⟩; refine ⟨_, rfl, ?_⟩; replace I := callK I hb; clear hb)
    | (refine gS rfl ?_; refine sk rfl rfl rfl rfl rfl I zm (by first | exact sr_st) zu ?_; clear I; intro w1 I)
    )
   refine bodyPost_ret (ret_ct rfl _ I.out _ rfl zm Tryz.underlying28 rfl kk) rfl ?_
   exact ⟨_, rfl, Pks_nil _ _, I.out.below⟩
  | false =>
   by_cases hz : hi2 = 0 ∧ lo2 = 0
   · obtain ⟨rfl, rfl⟩ := hz
     have eF : offF ⟨c, h, st, xid, sv, ⟨v6, hi, lo⟩, t1, t2, un, se, at_⟩ psv ⟨false, 0, 0⟩ now = (⟨c, h, st, xid, sv, ⟨v6, hi, lo⟩, t1, t2, un, se, at_⟩, []) := by unfold offF; rw [if_neg (fun hq => hq.2.2.1 ⟨rfl, rfl⟩)]
     rw [eF]
     clear eF
     rw [hv] at hV
     clear hv
     have I := Aside0.mk (Inv.start0 (w0 := w))
     go_enter Tryz.func38, Tryz.ntmps38
     go_wp2_with (first
      | (refine gB rfl ?_; refine bk rfl rfl rfl I ?_; clear I; intro gb w1 I)
      | (refine ak rfl (al_S rfl) I ?_; clear I; intro gb w1 I)
      | (refine gL rfl ?_; refine ll rfl rfl rfl I zm (by first | exact ld_pkA7 | exact ld_pk7 | exact ld_st) ?_)
      | (refine gD 13 rfl ?_; refine ck rfl Tryz.func59 kk rfl #[.agg #[.bool false, .int .u64 0, .int .u64 0]] rfl zh (addr_Valid.calls false 0 0 true _ hV.out) ?_; rintro e_ w1 ⟨rfl, hb⟩; refine ⟨_, rfl, ?_⟩; replace I := callK I hb; clear hb)
      | (refine gS rfl ?_; refine sk rfl rfl rfl rfl rfl I zm (by first | exact sr_st) zu ?_; clear I; intro w1 I)
      )
     refine bodyPost_ret (ret_ct rfl _ I.out _ rfl zm Tryz.underlying28 rfl kk) rfl ?_
     exact ⟨_, rfl, Pks_nil _ _, I.out.below⟩
   by_cases h1 : hi2 = 0
   · subst h1
     have h2 : (lo2 == 0) = false := beq_eq_false_iff_ne.mpr (fun h2 => hz ⟨rfl, h2⟩)
     have hW := Aside0.mk hW
     by_cases hx : 4294967295 ≤ xid
     ·
       have eF : offF ⟨c, h, st, xid, sv, ⟨v6, hi, lo⟩, t1, t2, un, se, at_⟩ psv ⟨false, 0, lo2⟩ now = (⟨c, h, st, xid, sv, ⟨v6, hi, lo⟩, t1, t2, un, se, at_⟩, []) := by unfold offF; rw [if_neg (fun hq => absurd hq.2.2.2 (by show ¬ xid < 4294967295; omega))]
       rw [eF]
       clear eF
       rw [hv] at hV
       clear hv hz
       have I := Aside0.mk (Inv.start0 (w0 := w))
       go_enter Tryz.func38, Tryz.ntmps38
       go_wp2_with (first
        | (refine gB rfl ?_; refine bk rfl rfl rfl I ?_; clear I; intro gb w1 I)
        | (refine ak rfl (al_S rfl) I ?_; clear I; intro gb w1 I)
        | (refine gL rfl ?_; refine ll rfl rfl rfl I zm (by first | exact ld_pkA7 | exact ld_pk7 | exact ld_st) ?_)
        | (refine gD 13 rfl ?_; refine ck rfl Tryz.func59 kk rfl #[.agg #[.bool false, .int .u64 0, .int .u64 lo2]] rfl zh (addr_Valid.calls false 0 lo2 true _ hV.out) ?_; rintro e_ w1 ⟨rfl, hb⟩; refine ⟨_, rfl, ?_⟩; replace I := callK I hb; clear hb)
        | (refine gS rfl ?_; refine sk rfl rfl rfl rfl rfl I zm (by first | exact sr_st) zu ?_; clear I; intro w1 I)
        )
       have IS := Aside0.mk (I.out.sub (.cons _ (.cons _ (.cons_cons _ (.cons _ .slnil))))).drew
       refine draw_ (Inv _ w [_] _) [] kk rfl IS.out ?_
       have I2 := Aside0.mk I.out.drew
       clear I
       have I := I2
       clear I2
       refine pu1 (i := 0) rfl rfl kk ?_ (ha := by (go_simp; rfl))
       refine ta1 (i := 1) rfl rfl kk rfl rfl IS.out zm (by exact ld_pk2) ?_ (ha := by (go_simp; rfl))
       refine pu1 (i := 2) rfl rfl kk ?_ (ha := by (go_simp; rfl))
       refine ta1 (i := 3) rfl rfl kk rfl rfl IS.out zm (by exact ld_pkA7) ?_ (ha := by (go_simp; rfl))
       refine pu1 (i := 4) rfl rfl kk ?_ (ha := by (go_simp; rfl))
       refine st1 (i := 5) rfl rfl kk (by decide) rfl rfl rfl I.out zm (by first | exact sr_st4) zu (fun w1 hI => ⟨hI.sub (.cons _ (.cons _ (.cons_cons _ (.cons _ .slnil)))), ?_⟩)
       have IS := Aside0.mk (hI.sub (.cons _ (.cons _ (.cons_cons _ (.cons _ .slnil)))))
       clear I
       have I := Aside0.mk hI
       clear hI
       refine pu1 (i := 6) rfl rfl kk ?_ (ha := by (go_simp; rfl))
       refine st1 (i := 7) rfl rfl kk (by decide) rfl rfl rfl I.out zm (by first | exact sr_stA5) zu (fun w1 hI => ⟨hI.sub (.cons _ (.cons _ (.cons_cons _ (.cons _ .slnil)))), ?_⟩)
       have IS := Aside0.mk (hI.sub (.cons _ (.cons _ (.cons_cons _ (.cons _ .slnil)))))
       clear I
       have I := Aside0.mk hI
       clear hI
       refine do1 kk ?_
       clear IS
       try go_wp2
       have IS := Aside0.mk (I.out.sub (.cons_cons _ (.cons _ (.cons _ (.cons _ .slnil))))).drew
       refine draw_ (Inv _ w [_] _) [9] kk rfl IS.out ?_
       have I2 := Aside0.mk I.out.drew
       clear I
       have I := I2
       clear I2
       refine ta1 (i := 0) rfl rfl kk rfl rfl IS.out zm (by exact ld_st) ?_ (ha := by (go_simp; rfl))
       refine ta1 (i := 1) rfl rfl kk rfl rfl IS.out zm (by exact ld_st) ?_ (ha := by (go_simp; rfl))
       refine pu1 (i := 3) rfl rfl kk ?_ (ha := by (go_simp; rfl))
       refine ca1 (i := 2) rfl rfl kk (by decide) Tryz.func54 kk rfl #[.agg (stC c h st xid psv false 0 lo2 t1 t2 un se at_)] rfl zh ?_
       refine (request_c c h st xid psv false 0 lo2 t1 t2 un se at_ 1000 (wantF ⟨false, 0, lo2⟩) bW _ hW.out).mono ?_
       rintro e_ w1 ⟨g, rfl, hf, hb⟩
       have I2 := Aside0.mk (I.out.addNew hb hf (fun k hk _ => I.out.new_out k hk))
       clear I hb hf IS
       have I := I2
       clear I2
       have IS := Aside0.mk ((I.out.imp (fun _ _ => trivial)).sub (.cons_cons _ (.cons _ (.cons _ (.cons _ .slnil)))))
       refine ⟨_, rfl, IS.out, ?_⟩
       refine ca1 (i := 4) rfl rfl kk (by decide) Tryz.func53 kk rfl #[.agg (stC c h st xid psv false 0 lo2 t1 t2 un se at_), .agg (pkC 3 0 psv (⟨#[]⟩ : ByteArray) false 0 0 false 0 0 false 0 0 false (.slice (some ⟨g, 0, none⟩) 1 1)), .int .i64 now] rfl zh ?_
       refine (send_no c h st xid psv false 0 lo2 t1 t2 un se at_ 3 0 psv (⟨#[]⟩ : ByteArray) false 0 0 false 0 0 false 0 0 false (.slice (some ⟨g, 0, none⟩) 1 1) now _ hx).mono ?_
       rintro e_ w1 ⟨rfl, hb⟩
       have I2 := Aside0.mk (I.out.call hb)
       clear I hb IS
       have I := I2
       clear I2
       have IS := Aside0.mk ((I.out.imp (fun _ _ => trivial)).sub (.cons_cons _ (.cons _ (.cons _ (.cons _ .slnil)))))
       refine ⟨_, rfl, IS.out, ?_⟩
       refine pu1 (i := 5) rfl rfl kk ?_ (ha := by (go_simp; rfl))
       refine pu1 (i := 6) rfl rfl kk ?_ (ha := by (go_simp; rfl))
       refine pu1 (i := 7) rfl rfl kk ?_ (ha := by (go_simp; rfl))
       refine pu1 (i := 8) rfl rfl kk ?_ (ha := by (go_simp; rfl))
       refine sl1 (i := 9) rfl rfl kk (by decide) rfl rfl rfl I.out zm (by first | exact sr_st) zu (fun w1 hI => ?_)
       clear I
       have I := Aside0.mk hI
       clear hI
       refine pu1 (i := 10) rfl rfl kk ?_ (ha := by (go_simp; rfl))
       refine pu1 (i := 11) rfl rfl kk ?_ (ha := by (go_simp; rfl))
       refine do1 kk ?_
       clear IS
       go_wp2_with (first
        | (refine gL rfl ?_; refine ll rfl rfl rfl I zm (by exact ld_st) ?_)
        | (refine gS rfl ?_; refine sk rfl rfl rfl rfl rfl I zm (by first | exact sr_st | exact sr_st2 | exact sr_st12) zu ?_; clear I; intro w1 I)
        )
       refine bodyPost_ret (ret_ct rfl _ I.out _ rfl zm Tryz.underlying28 rfl kk) rfl ?_
       exact ⟨_, rfl, Pks_nil _ _, I.out.below⟩
     ·
       have eF : offF ⟨c, h, st, xid, sv, ⟨v6, hi, lo⟩, t1, t2, un, se, at_⟩ psv ⟨false, 0, lo2⟩ now = (⟨c, h, 2, xid + 1, psv, ⟨false, 0, lo2⟩, t1, t2, un, now, 1⟩, [⟨3, xid + 1, psv, c, zA, zA, zA, false, hostF h 3 [⟨50, wantF ⟨false, 0, lo2⟩⟩]⟩]) := by unfold offF; rw [if_pos ⟨hv, rfl, hz, (by show xid < 4294967295; omega)⟩]
       rw [eF]
       clear eF
       rw [hv] at hV
       replace hx : xid < 4294967295 := by omega
       clear hv hz
       have I := Aside0.mk (Inv.start0 (w0 := w))
       go_enter Tryz.func38, Tryz.ntmps38
       go_wp2_with (first
        | (refine gB rfl ?_; refine bk rfl rfl rfl I ?_; clear I; intro gb w1 I)
        | (refine ak rfl (al_S rfl) I ?_; clear I; intro gb w1 I)
        | (refine gL rfl ?_; refine ll rfl rfl rfl I zm (by first | exact ld_pkA7 | exact ld_pk7 | exact ld_st) ?_)
        | (refine gD 13 rfl ?_; refine ck rfl Tryz.func59 kk rfl #[.agg #[.bool false, .int .u64 0, .int .u64 lo2]] rfl zh (addr_Valid.calls false 0 lo2 true _ hV.out) ?_; rintro e_ w1 ⟨rfl, hb⟩; refine ⟨_, rfl, ?_⟩; replace I := callK I hb; clear hb)
        | (refine gS rfl ?_; refine sk rfl rfl rfl rfl rfl I zm (by first | exact sr_st) zu ?_; clear I; intro w1 I)
        )
       have IS := Aside0.mk (I.out.sub (.cons _ (.cons _ (.cons_cons _ (.cons _ .slnil))))).drew
       refine draw_ (Inv _ w [_] _) [] kk rfl IS.out ?_
       have I2 := Aside0.mk I.out.drew
       clear I
       have I := I2
       clear I2
       refine pu1 (i := 0) rfl rfl kk ?_ (ha := by (go_simp; rfl))
       refine ta1 (i := 1) rfl rfl kk rfl rfl IS.out zm (by exact ld_pk2) ?_ (ha := by (go_simp; rfl))
       refine pu1 (i := 2) rfl rfl kk ?_ (ha := by (go_simp; rfl))
       refine ta1 (i := 3) rfl rfl kk rfl rfl IS.out zm (by exact ld_pkA7) ?_ (ha := by (go_simp; rfl))
       refine pu1 (i := 4) rfl rfl kk ?_ (ha := by (go_simp; rfl))
       refine st1 (i := 5) rfl rfl kk (by decide) rfl rfl rfl I.out zm (by first | exact sr_st4) zu (fun w1 hI => ⟨hI.sub (.cons _ (.cons _ (.cons_cons _ (.cons _ .slnil)))), ?_⟩)
       have IS := Aside0.mk (hI.sub (.cons _ (.cons _ (.cons_cons _ (.cons _ .slnil)))))
       clear I
       have I := Aside0.mk hI
       clear hI
       refine pu1 (i := 6) rfl rfl kk ?_ (ha := by (go_simp; rfl))
       refine st1 (i := 7) rfl rfl kk (by decide) rfl rfl rfl I.out zm (by first | exact sr_stA5) zu (fun w1 hI => ⟨hI.sub (.cons _ (.cons _ (.cons_cons _ (.cons _ .slnil)))), ?_⟩)
       have IS := Aside0.mk (hI.sub (.cons _ (.cons _ (.cons_cons _ (.cons _ .slnil)))))
       clear I
       have I := Aside0.mk hI
       clear hI
       refine do1 kk ?_
       clear IS
       try go_wp2
       have IS := Aside0.mk (I.out.sub (.cons_cons _ (.cons _ (.cons _ (.cons _ .slnil))))).drew
       refine draw_ (Inv _ w [_] _) [9] kk rfl IS.out ?_
       have I2 := Aside0.mk I.out.drew
       clear I
       have I := I2
       clear I2
       refine ta1 (i := 0) rfl rfl kk rfl rfl IS.out zm (by exact ld_st) ?_ (ha := by (go_simp; rfl))
       refine ta1 (i := 1) rfl rfl kk rfl rfl IS.out zm (by exact ld_st) ?_ (ha := by (go_simp; rfl))
       refine pu1 (i := 3) rfl rfl kk ?_ (ha := by (go_simp; rfl))
       refine ca1 (i := 2) rfl rfl kk (by decide) Tryz.func54 kk rfl #[.agg (stC c h st xid psv false 0 lo2 t1 t2 un se at_)] rfl zh ?_
       refine (request_c c h st xid psv false 0 lo2 t1 t2 un se at_ 1000 (wantF ⟨false, 0, lo2⟩) bW _ hW.out).mono ?_
       rintro e_ w1 ⟨g, rfl, hf, hb⟩
       have I2 := Aside0.mk (I.out.addNew hb hf (fun k hk _ => I.out.new_out k hk))
       clear I hb hf IS
       have I := I2
       clear I2
       have IS := Aside0.mk ((I.out.imp (fun _ _ => trivial)).sub (.cons_cons _ (.cons _ (.cons _ (.cons _ .slnil)))))
       refine ⟨_, rfl, IS.out, ?_⟩
       refine ca1 (i := 4) rfl rfl kk (by decide) Tryz.func53 kk rfl #[.agg (stC c h st xid psv false 0 lo2 t1 t2 un se at_), .agg (pkC 3 0 psv (⟨#[]⟩ : ByteArray) false 0 0 false 0 0 false 0 0 false (.slice (some ⟨g, 0, none⟩) 1 1)), .int .i64 now] rfl zh ?_
       refine (send_yes c h st xid psv false 0 lo2 t1 t2 un se at_ 3 0 psv (⟨#[]⟩ : ByteArray) false 0 0 false 0 0 false 0 0 false (some ⟨g, 0, none⟩) 1 [⟨50, wantF ⟨false, 0, lo2⟩⟩] (hostF h 3 [⟨50, wantF ⟨false, 0, lo2⟩⟩]) 1000 _ now _ hx0 hx (I.out.foot.imp (fun W hW => hW.2)) (Nat.le_refl _) (host_put (okO_want (wantF ⟨false, 0, lo2⟩)) h 3)).mono ?_
       rintro e_ w1 ⟨g2, rfl, hf, hb⟩
       have I2 := Aside0.mk (I.out.addNew hb hf (fun k hk _ => hk.elim id (fun h_ => I.out.new_out k h_)))
       clear I hb IS
       have I := I2
       clear I2
       have IS := Aside0.mk ((I.out.imp (fun _ _ => trivial)).sub (.cons_cons _ (.cons _ (.cons _ (.cons _ .slnil)))))
       refine ⟨_, rfl, IS.out, ?_⟩
       refine pu1 (i := 5) rfl rfl kk ?_ (ha := by (go_simp; rfl))
       refine pu1 (i := 6) rfl rfl kk ?_ (ha := by (go_simp; rfl))
       refine pu1 (i := 7) rfl rfl kk ?_ (ha := by (go_simp; rfl))
       refine pu1 (i := 8) rfl rfl kk ?_ (ha := by (go_simp; rfl))
       refine sl1 (i := 9) rfl rfl kk (by decide) rfl rfl rfl I.out zm (by first | exact sr_st) zu (fun w1 hI => ?_)
       clear I
       have I := Aside0.mk hI
       clear hI
       refine pu1 (i := 10) rfl rfl kk ?_ (ha := by (go_simp; rfl))
       refine pu1 (i := 11) rfl rfl kk ?_ (ha := by (go_simp; rfl))
       refine do1 kk ?_
       clear IS
       go_wp2_with (first
        | (refine gL rfl ?_; refine ll rfl rfl rfl I zm (by exact ld_st) ?_)
        | (refine gS rfl ?_; refine sk rfl rfl rfl rfl rfl I zm (by first | exact sr_st | exact sr_st2 | exact sr_st12) zu ?_; clear I; intro w1 I)
        )
       refine bodyPost_ret (ret_ct rfl _ I.out _ rfl zm Tryz.underlying28 rfl kk) rfl ?_
       exact ⟨_, rfl, Pks_one (foot_new (I.out.foot.imp (fun W hW => hW.2))), I.out.below⟩
   have h2 : (hi2 == 0) = false := beq_eq_false_iff_ne.mpr h1
   clear h1
   have hW := Aside0.mk hW
   by_cases hx : 4294967295 ≤ xid
   ·
     have eF : offF ⟨c, h, st, xid, sv, ⟨v6, hi, lo⟩, t1, t2, un, se, at_⟩ psv ⟨false, hi2, lo2⟩ now = (⟨c, h, st, xid, sv, ⟨v6, hi, lo⟩, t1, t2, un, se, at_⟩, []) := by unfold offF; rw [if_neg (fun hq => absurd hq.2.2.2 (by show ¬ xid < 4294967295; omega))]
     rw [eF]
     clear eF
     rw [hv] at hV
     clear hv hz
     have I := Aside0.mk (Inv.start0 (w0 := w))
     go_enter Tryz.func38, Tryz.ntmps38
     go_wp2_with (first
      | (refine gB rfl ?_; refine bk rfl rfl rfl I ?_; clear I; intro gb w1 I)
      | (refine ak rfl (al_S rfl) I ?_; clear I; intro gb w1 I)
      | (refine gL rfl ?_; refine ll rfl rfl rfl I zm (by first | exact ld_pkA7 | exact ld_pk7 | exact ld_st) ?_)
      | (refine gD 13 rfl ?_; refine ck rfl Tryz.func59 kk rfl #[.agg #[.bool false, .int .u64 hi2, .int .u64 lo2]] rfl zh (addr_Valid.calls false hi2 lo2 true _ hV.out) ?_; rintro e_ w1 ⟨rfl, hb⟩; refine ⟨_, rfl, ?_⟩; replace I := callK I hb; clear hb)
      | (refine gS rfl ?_; refine sk rfl rfl rfl rfl rfl I zm (by first | exact sr_st) zu ?_; clear I; intro w1 I)
      )
     have IS := Aside0.mk (I.out.sub (.cons _ (.cons _ (.cons_cons _ (.cons _ .slnil))))).drew
     refine draw_ (Inv _ w [_] _) [] kk rfl IS.out ?_
     have I2 := Aside0.mk I.out.drew
     clear I
     have I := I2
     clear I2
     refine pu1 (i := 0) rfl rfl kk ?_ (ha := by (go_simp; rfl))
     refine ta1 (i := 1) rfl rfl kk rfl rfl IS.out zm (by exact ld_pk2) ?_ (ha := by (go_simp; rfl))
     refine pu1 (i := 2) rfl rfl kk ?_ (ha := by (go_simp; rfl))
     refine ta1 (i := 3) rfl rfl kk rfl rfl IS.out zm (by exact ld_pkA7) ?_ (ha := by (go_simp; rfl))
     refine pu1 (i := 4) rfl rfl kk ?_ (ha := by (go_simp; rfl))
     refine st1 (i := 5) rfl rfl kk (by decide) rfl rfl rfl I.out zm (by first | exact sr_st4) zu (fun w1 hI => ⟨hI.sub (.cons _ (.cons _ (.cons_cons _ (.cons _ .slnil)))), ?_⟩)
     have IS := Aside0.mk (hI.sub (.cons _ (.cons _ (.cons_cons _ (.cons _ .slnil)))))
     clear I
     have I := Aside0.mk hI
     clear hI
     refine pu1 (i := 6) rfl rfl kk ?_ (ha := by (go_simp; rfl))
     refine st1 (i := 7) rfl rfl kk (by decide) rfl rfl rfl I.out zm (by first | exact sr_stA5) zu (fun w1 hI => ⟨hI.sub (.cons _ (.cons _ (.cons_cons _ (.cons _ .slnil)))), ?_⟩)
     have IS := Aside0.mk (hI.sub (.cons _ (.cons _ (.cons_cons _ (.cons _ .slnil)))))
     clear I
     have I := Aside0.mk hI
     clear hI
     refine do1 kk ?_
     clear IS
     try go_wp2
     have IS := Aside0.mk (I.out.sub (.cons_cons _ (.cons _ (.cons _ (.cons _ .slnil))))).drew
     refine draw_ (Inv _ w [_] _) [9] kk rfl IS.out ?_
     have I2 := Aside0.mk I.out.drew
     clear I
     have I := I2
     clear I2
     refine ta1 (i := 0) rfl rfl kk rfl rfl IS.out zm (by exact ld_st) ?_ (ha := by (go_simp; rfl))
     refine ta1 (i := 1) rfl rfl kk rfl rfl IS.out zm (by exact ld_st) ?_ (ha := by (go_simp; rfl))
     refine pu1 (i := 3) rfl rfl kk ?_ (ha := by (go_simp; rfl))
     refine ca1 (i := 2) rfl rfl kk (by decide) Tryz.func54 kk rfl #[.agg (stC c h st xid psv false hi2 lo2 t1 t2 un se at_)] rfl zh ?_
     refine (request_c c h st xid psv false hi2 lo2 t1 t2 un se at_ 1000 (wantF ⟨false, hi2, lo2⟩) bW _ hW.out).mono ?_
     rintro e_ w1 ⟨g, rfl, hf, hb⟩
     have I2 := Aside0.mk (I.out.addNew hb hf (fun k hk _ => I.out.new_out k hk))
     clear I hb hf IS
     have I := I2
     clear I2
     have IS := Aside0.mk ((I.out.imp (fun _ _ => trivial)).sub (.cons_cons _ (.cons _ (.cons _ (.cons _ .slnil)))))
     refine ⟨_, rfl, IS.out, ?_⟩
     refine ca1 (i := 4) rfl rfl kk (by decide) Tryz.func53 kk rfl #[.agg (stC c h st xid psv false hi2 lo2 t1 t2 un se at_), .agg (pkC 3 0 psv (⟨#[]⟩ : ByteArray) false 0 0 false 0 0 false 0 0 false (.slice (some ⟨g, 0, none⟩) 1 1)), .int .i64 now] rfl zh ?_
     refine (send_no c h st xid psv false hi2 lo2 t1 t2 un se at_ 3 0 psv (⟨#[]⟩ : ByteArray) false 0 0 false 0 0 false 0 0 false (.slice (some ⟨g, 0, none⟩) 1 1) now _ hx).mono ?_
     rintro e_ w1 ⟨rfl, hb⟩
     have I2 := Aside0.mk (I.out.call hb)
     clear I hb IS
     have I := I2
     clear I2
     have IS := Aside0.mk ((I.out.imp (fun _ _ => trivial)).sub (.cons_cons _ (.cons _ (.cons _ (.cons _ .slnil)))))
     refine ⟨_, rfl, IS.out, ?_⟩
     refine pu1 (i := 5) rfl rfl kk ?_ (ha := by (go_simp; rfl))
     refine pu1 (i := 6) rfl rfl kk ?_ (ha := by (go_simp; rfl))
     refine pu1 (i := 7) rfl rfl kk ?_ (ha := by (go_simp; rfl))
     refine pu1 (i := 8) rfl rfl kk ?_ (ha := by (go_simp; rfl))
     refine sl1 (i := 9) rfl rfl kk (by decide) rfl rfl rfl I.out zm (by first | exact sr_st) zu (fun w1 hI => ?_)
     clear I
     have I := Aside0.mk hI
     clear hI
     refine pu1 (i := 10) rfl rfl kk ?_ (ha := by (go_simp; rfl))
     refine pu1 (i := 11) rfl rfl kk ?_ (ha := by (go_simp; rfl))
     refine do1 kk ?_
     clear IS
     go_wp2_with (first
      | (refine gL rfl ?_; refine ll rfl rfl rfl I zm (by exact ld_st) ?_)
      | (refine gS rfl ?_; refine sk rfl rfl rfl rfl rfl I zm (by first | exact sr_st | exact sr_st2 | exact sr_st12) zu ?_; clear I; intro w1 I)
      )
     refine bodyPost_ret (ret_ct rfl _ I.out _ rfl zm Tryz.underlying28 rfl kk) rfl ?_
     exact ⟨_, rfl, Pks_nil _ _, I.out.below⟩
   ·
     have eF : offF ⟨c, h, st, xid, sv, ⟨v6, hi, lo⟩, t1, t2, un, se, at_⟩ psv ⟨false, hi2, lo2⟩ now = (⟨c, h, 2, xid + 1, psv, ⟨false, hi2, lo2⟩, t1, t2, un, now, 1⟩, [⟨3, xid + 1, psv, c, zA, zA, zA, false, hostF h 3 [⟨50, wantF ⟨false, hi2, lo2⟩⟩]⟩]) := by unfold offF; rw [if_pos ⟨hv, rfl, hz, (by show xid < 4294967295; omega)⟩]
     rw [eF]
     clear eF
     rw [hv] at hV
     replace hx : xid < 4294967295 := by omega
     clear hv hz
     have I := Aside0.mk (Inv.start0 (w0 := w))
     go_enter Tryz.func38, Tryz.ntmps38
     go_wp2_with (first
      | (refine gB rfl ?_; refine bk rfl rfl rfl I ?_; clear I; intro gb w1 I)
      | (refine ak rfl (al_S rfl) I ?_; clear I; intro gb w1 I)
      | (refine gL rfl ?_; refine ll rfl rfl rfl I zm (by first | exact ld_pkA7 | exact ld_pk7 | exact ld_st) ?_)
      | (refine gD 13 rfl ?_; refine ck rfl Tryz.func59 kk rfl #[.agg #[.bool false, .int .u64 hi2, .int .u64 lo2]] rfl zh (addr_Valid.calls false hi2 lo2 true _ hV.out) ?_; rintro e_ w1 ⟨rfl, hb⟩; refine ⟨_, rfl, ?_⟩; replace I := callK I hb; clear hb)
      | (refine gS rfl ?_; refine sk rfl rfl rfl rfl rfl I zm (by first | exact sr_st) zu ?_; clear I; intro w1 I)
      )
     have IS := Aside0.mk (I.out.sub (.cons _ (.cons _ (.cons_cons _ (.cons _ .slnil))))).drew
     refine draw_ (Inv _ w [_] _) [] kk rfl IS.out ?_
     have I2 := Aside0.mk I.out.drew
     clear I
     have I := I2
     clear I2
     refine pu1 (i := 0) rfl rfl kk ?_ (ha := by (go_simp; rfl))
     refine ta1 (i := 1) rfl rfl kk rfl rfl IS.out zm (by exact ld_pk2) ?_ (ha := by (go_simp; rfl))
     refine pu1 (i := 2) rfl rfl kk ?_ (ha := by (go_simp; rfl))
     refine ta1 (i := 3) rfl rfl kk rfl rfl IS.out zm (by exact ld_pkA7) ?_ (ha := by (go_simp; rfl))
     refine pu1 (i := 4) rfl rfl kk ?_ (ha := by (go_simp; rfl))
     refine st1 (i := 5) rfl rfl kk (by decide) rfl rfl rfl I.out zm (by first | exact sr_st4) zu (fun w1 hI => ⟨hI.sub (.cons _ (.cons _ (.cons_cons _ (.cons _ .slnil)))), ?_⟩)
     have IS := Aside0.mk (hI.sub (.cons _ (.cons _ (.cons_cons _ (.cons _ .slnil)))))
     clear I
     have I := Aside0.mk hI
     clear hI
     refine pu1 (i := 6) rfl rfl kk ?_ (ha := by (go_simp; rfl))
     refine st1 (i := 7) rfl rfl kk (by decide) rfl rfl rfl I.out zm (by first | exact sr_stA5) zu (fun w1 hI => ⟨hI.sub (.cons _ (.cons _ (.cons_cons _ (.cons _ .slnil)))), ?_⟩)
     have IS := Aside0.mk (hI.sub (.cons _ (.cons _ (.cons_cons _ (.cons _ .slnil)))))
     clear I
     have I := Aside0.mk hI
     clear hI
     refine do1 kk ?_
     clear IS
     try go_wp2
     have IS := Aside0.mk (I.out.sub (.cons_cons _ (.cons _ (.cons _ (.cons _ .slnil))))).drew
     refine draw_ (Inv _ w [_] _) [9] kk rfl IS.out ?_
     have I2 := Aside0.mk I.out.drew
     clear I
     have I := I2
     clear I2
     refine ta1 (i := 0) rfl rfl kk rfl rfl IS.out zm (by exact ld_st) ?_ (ha := by (go_simp; rfl))
     refine ta1 (i := 1) rfl rfl kk rfl rfl IS.out zm (by exact ld_st) ?_ (ha := by (go_simp; rfl))
     refine pu1 (i := 3) rfl rfl kk ?_ (ha := by (go_simp; rfl))
     refine ca1 (i := 2) rfl rfl kk (by decide) Tryz.func54 kk rfl #[.agg (stC c h st xid psv false hi2 lo2 t1 t2 un se at_)] rfl zh ?_
     refine (request_c c h st xid psv false hi2 lo2 t1 t2 un se at_ 1000 (wantF ⟨false, hi2, lo2⟩) bW _ hW.out).mono ?_
     rintro e_ w1 ⟨g, rfl, hf, hb⟩
     have I2 := Aside0.mk (I.out.addNew hb hf (fun k hk _ => I.out.new_out k hk))
     clear I hb hf IS
     have I := I2
     clear I2
     have IS := Aside0.mk ((I.out.imp (fun _ _ => trivial)).sub (.cons_cons _ (.cons _ (.cons _ (.cons _ .slnil)))))
     refine ⟨_, rfl, IS.out, ?_⟩
     refine ca1 (i := 4) rfl rfl kk (by decide) Tryz.func53 kk rfl #[.agg (stC c h st xid psv false hi2 lo2 t1 t2 un se at_), .agg (pkC 3 0 psv (⟨#[]⟩ : ByteArray) false 0 0 false 0 0 false 0 0 false (.slice (some ⟨g, 0, none⟩) 1 1)), .int .i64 now] rfl zh ?_
     refine (send_yes c h st xid psv false hi2 lo2 t1 t2 un se at_ 3 0 psv (⟨#[]⟩ : ByteArray) false 0 0 false 0 0 false 0 0 false (some ⟨g, 0, none⟩) 1 [⟨50, wantF ⟨false, hi2, lo2⟩⟩] (hostF h 3 [⟨50, wantF ⟨false, hi2, lo2⟩⟩]) 1000 _ now _ hx0 hx (I.out.foot.imp (fun W hW => hW.2)) (Nat.le_refl _) (host_put (okO_want (wantF ⟨false, hi2, lo2⟩)) h 3)).mono ?_
     rintro e_ w1 ⟨g2, rfl, hf, hb⟩
     have I2 := Aside0.mk (I.out.addNew hb hf (fun k hk _ => hk.elim id (fun h_ => I.out.new_out k h_)))
     clear I hb IS
     have I := I2
     clear I2
     have IS := Aside0.mk ((I.out.imp (fun _ _ => trivial)).sub (.cons_cons _ (.cons _ (.cons _ (.cons _ .slnil)))))
     refine ⟨_, rfl, IS.out, ?_⟩
     refine pu1 (i := 5) rfl rfl kk ?_ (ha := by (go_simp; rfl))
     refine pu1 (i := 6) rfl rfl kk ?_ (ha := by (go_simp; rfl))
     refine pu1 (i := 7) rfl rfl kk ?_ (ha := by (go_simp; rfl))
     refine pu1 (i := 8) rfl rfl kk ?_ (ha := by (go_simp; rfl))
     refine sl1 (i := 9) rfl rfl kk (by decide) rfl rfl rfl I.out zm (by first | exact sr_st) zu (fun w1 hI => ?_)
     clear I
     have I := Aside0.mk hI
     clear hI
     refine pu1 (i := 10) rfl rfl kk ?_ (ha := by (go_simp; rfl))
     refine pu1 (i := 11) rfl rfl kk ?_ (ha := by (go_simp; rfl))
     refine do1 kk ?_
     clear IS
     go_wp2_with (first
      | (refine gL rfl ?_; refine ll rfl rfl rfl I zm (by exact ld_st) ?_)
      | (refine gS rfl ?_; refine sk rfl rfl rfl rfl rfl I zm (by first | exact sr_st | exact sr_st2 | exact sr_st12) zu ?_; clear I; intro w1 I)
      )
     refine bodyPost_ret (ret_ct rfl _ I.out _ rfl zm Tryz.underlying28 rfl kk) rfl ?_
     exact ⟨_, rfl, Pks_one (foot_new (I.out.foot.imp (fun W hW => hW.2))), I.out.below⟩
def ackF (s : Stn) (psv : Int) (y : S26) (n u1 u2 : Int) (ok : Bool) : Stn := if ok = true ∧ y.f0 = s.a.f0 ∧ y.f1 = s.a.f1 ∧ y.f2 = s.a.f2 then ⟨s.c, s.h, 3, s.xid, psv, s.a, min (s.se + u1) 4294967295, min (s.se + u2) 4294967295, min (s.se + n) 4294967295, s.se, 0⟩ else s
theorem ack_c (s : Stn) (ki pxid psv : Int) (pc : ByteArray) (v1 : Bool) (hi1 lo1 : Int) (y : S26) (v3 : Bool) (hi3 lo3 : Int) (hr : Bool) (A : Option Addr) (cc : Nat) (l : List S62) (B : Nat → Prop) (n u1 u2 : Int) (ok : Bool) (w : World) (hs : 0 ≤ s.se ∧ s.se ≤ 4294967295) (hB : Foot (fun W => Kd.C k62 W A l.length l) w B) (hc : l.length ≤ cc) (hL : dhcp_Lease.f 1000 ki pxid psv pc v1 hi1 lo1 y.f0 y.f1 y.f2 v3 hi3 lo3 hr l = some (n, u1, u2, ok)) (hn : ok = true → 0 ≤ u1 ∧ u1 ≤ u2 ∧ u2 ≤ n ∧ n ≤ 4294967295) :
  Calls Tryz.prog 39 #[.agg (stA s), .agg (pkC ki pxid psv pc v1 hi1 lo1 y.f0 y.f1 y.f2 v3 hi3 lo3 hr (.slice A l.length cc))] w fun e w' => e = .returned (.agg (stA (ackF s psv y n u1 u2 ok))) ∧ Below w.heap.size w w' := by
 have hu26 := Tryz.underlying28
 have hu39 := Tryz.underlying38
 have hu24 := Tryz.underlying26
 obtain ⟨c, h, st, xid, sv, ⟨v6, hi, lo⟩, t1, t2, un, se, at_⟩ := s
 obtain ⟨v2, hi2, lo2⟩ := y
 replace hs : 0 ≤ se ∧ se ≤ 4294967295 := hs
 have hL := Aside0.mk hL
 have hc := Aside0.mk hc
 have I : Aside0 (Inv B w [] (fun W => Kd.C k62 W A l.length l) w) := ⟨Inv.start hB⟩
 clear hB
 show Calls Tryz.prog 39 #[.agg (stC c h st xid sv v6 hi lo t1 t2 un se at_), .agg (pkC ki pxid psv pc v1 hi1 lo1 v2 hi2 lo2 v3 hi3 lo3 hr (.slice A l.length cc))] w _
 cases ok with
 | false =>
  have eF : ackF ⟨c, h, st, xid, sv, ⟨v6, hi, lo⟩, t1, t2, un, se, at_⟩ psv ⟨v2, hi2, lo2⟩ n u1 u2 false = ⟨c, h, st, xid, sv, ⟨v6, hi, lo⟩, t1, t2, un, se, at_⟩ := by unfold ackF; rw [if_neg (fun hq => Bool.noConfusion (show false = true from hq.1))]
  rw [eF]
  clear eF hn
  go_enter Tryz.func39, Tryz.ntmps39
  go_wp2_with (first
   | (refine gB rfl ?_; refine bk rfl rfl rfl I ?_; clear I; intro gb w1 I)
   | (refine ak rfl (al_S rfl) I ?_; clear I; intro gb w1 I)
   | (refine gL rfl ?_; refine ll rfl rfl rfl I zm (by first | exact ld_pk | exact ld_pkA7 | exact ld_stA5 | exact ld_st) ?_)
   | (refine gD 11 rfl ?_; refine ck rfl Tryz.func60 kk rfl #[.agg (pkC ki pxid psv pc v1 hi1 lo1 v2 hi2 lo2 v3 hi3 lo3 hr (.slice A l.length cc))] rfl zh (dhcp_Lease.calls 1000 ki pxid psv pc v1 hi1 lo1 v2 hi2 lo2 v3 hi3 lo3 hr A cc l n u1 u2 false _ _ I.out.foot hc.out hL.out) ?_; rintro e_ w1 ⟨rfl, hb⟩; refine ⟨_, rfl, ?_⟩; replace I := callK I hb; clear hb)
   | (refine gS rfl ?_; refine sk rfl rfl rfl rfl rfl I zm (by first | exact sr_st) zu ?_; clear I; intro w1 I)
   )
  refine bodyPost_ret (ret_c rfl _ I.out _ rfl zm Tryz.underlying28 rfl kk) rfl ?_
  exact ⟨rfl, I.out.below⟩
 | true =>
  replace hn := hn rfl
  cases v6 <;> cases v2
  ·
   by_cases h1 : hi2 = hi
   · subst h1
     by_cases h2 : lo2 = lo
     · subst h2
       have eF : ackF ⟨c, h, st, xid, sv, ⟨false, hi2, lo2⟩, t1, t2, un, se, at_⟩ psv ⟨false, hi2, lo2⟩ n u1 u2 true = ⟨c, h, 3, xid, psv, ⟨false, hi2, lo2⟩, min (se + u1) 4294967295, min (se + u2) 4294967295, min (se + n) 4294967295, se, 0⟩ := by unfold ackF; rw [if_pos ⟨rfl, rfl, rfl, rfl⟩]
       rw [eF]
       clear eF
       go_enter Tryz.func39, Tryz.ntmps39
       go_wp2_with (first
        | (refine gB rfl ?_; refine bk rfl rfl rfl I ?_; clear I; intro gb w1 I)
        | (refine ak rfl (al_S rfl) I ?_; clear I; intro gb w1 I)
        | (refine gL rfl ?_; refine ll rfl rfl rfl I zm (by first | exact ld_pk | exact ld_pkA7 | exact ld_stA5 | exact ld_st) ?_)
        | (refine gD 11 rfl ?_; refine ck rfl Tryz.func60 kk rfl #[.agg (pkC ki pxid psv pc v1 hi1 lo1 false hi2 lo2 v3 hi3 lo3 hr (.slice A l.length cc))] rfl zh (dhcp_Lease.calls 1000 ki pxid psv pc v1 hi1 lo1 false hi2 lo2 v3 hi3 lo3 hr A cc l n u1 u2 true _ _ I.out.foot hc.out hL.out) ?_; rintro e_ w1 ⟨rfl, hb⟩; refine ⟨_, rfl, ?_⟩; replace I := callK I hb; clear hb)
        | (refine gS rfl ?_; refine sk rfl rfl rfl rfl rfl I zm (by first | exact sr_st) zu ?_; clear I; intro w1 I)
        )
       have IS := Aside0.mk (I.out.sub (.cons _ (.cons_cons _ (.cons _ .slnil)))).drew
       refine draw_ (Inv _ w [_] _) [] kk rfl IS.out ?_
       have I2 := Aside0.mk I.out.drew
       clear I
       have I := I2
       clear I2
       refine pu1 (i := 0) rfl rfl kk ?_ (ha := by (go_simp; rfl))
       refine ta1 (i := 1) rfl rfl kk rfl rfl IS.out zm (by exact ld_pk2) ?_ (ha := by (go_simp; rfl))
       refine pu1 (i := 2) rfl rfl kk ?_ (ha := by (go_simp; rfl))
       refine st1 (i := 3) rfl rfl kk (by decide) rfl rfl rfl I.out zm (by first | exact sr_st2) zu (fun w1 hI => ⟨hI.sub (.cons _ (.cons_cons _ (.cons _ .slnil))), ?_⟩)
       have IS := Aside0.mk (hI.sub (.cons _ (.cons_cons _ (.cons _ .slnil))))
       clear I
       have I := Aside0.mk hI
       clear hI
       refine pu1 (i := 4) rfl rfl kk ?_ (ha := by (go_simp; rfl))
       refine st1 (i := 5) rfl rfl kk (by decide) rfl rfl rfl I.out zm (by first | exact sr_st4) zu (fun w1 hI => ⟨hI.sub (.cons _ (.cons_cons _ (.cons _ .slnil))), ?_⟩)
       have IS := Aside0.mk (hI.sub (.cons _ (.cons_cons _ (.cons _ .slnil))))
       clear I
       have I := Aside0.mk hI
       clear hI
       refine pu1 (i := 6) rfl rfl kk ?_ (ha := by (go_simp; rfl))
       refine st1 (i := 7) rfl rfl kk (by decide) rfl rfl rfl I.out zm (by first | exact sr_st12) zu (fun w1 hI => ⟨hI.sub (.cons _ (.cons_cons _ (.cons _ .slnil))), ?_⟩)
       have IS := Aside0.mk (hI.sub (.cons _ (.cons_cons _ (.cons _ .slnil))))
       clear I
       have I := Aside0.mk hI
       clear hI
       refine do1 kk ?_
       clear IS
       try go_wp2
       have IS := Aside0.mk (I.out.sub (.cons _ (.cons _ (.cons_cons _ .slnil)))).drew
       refine draw_ (Inv _ w [_] _) [13, 15, 17] kk rfl IS.out ?_
       have I2 := Aside0.mk I.out.drew
       clear I
       have I := I2
       clear I2
       refine pu1 (i := 0) rfl rfl kk ?_ (ha := by (go_simp; rfl))
       refine ta1 (i := 1) rfl rfl kk rfl rfl IS.out zm (by exact ld_st11) ?_ (ha := by (go_simp; rfl))
       refine pu1 (i := 2) rfl rfl kk ?_ (ha := by (go_simp; rfl))
       refine pu1 (i := 4) rfl rfl kk ?_ (ha := by (go_simp; rfl))
       refine ta1 (i := 5) rfl rfl kk rfl rfl IS.out zm (by exact ld_st11) ?_ (ha := by (go_simp; rfl))
       refine pu1 (i := 6) rfl rfl kk ?_ (ha := by (go_simp; rfl))
       refine pu1 (i := 8) rfl rfl kk ?_ (ha := by (go_simp; rfl))
       refine ta1 (i := 9) rfl rfl kk rfl rfl IS.out zm (by exact ld_st11) ?_ (ha := by (go_simp; rfl))
       refine pu1 (i := 10) rfl rfl kk ?_ (ha := by (go_simp; rfl))
       refine ca1 (i := 3) rfl rfl kk (by decide) Tryz.func29 kk rfl #[.int .i64 se, .int .i64 u1] rfl zh ?_
       refine (after_c se u1 _ hs.1 hs.2 (by omega) (by omega)).mono ?_
       rintro e_ w1 ⟨rfl, rfl⟩
       refine ⟨_, rfl, IS.out, ?_⟩
       refine pu1 (i := 12) rfl rfl kk ?_ (ha := by (go_simp; rfl))
       refine ca1 (i := 7) rfl rfl kk (by decide) Tryz.func29 kk rfl #[.int .i64 se, .int .i64 u2] rfl zh ?_
       refine (after_c se u2 _ hs.1 hs.2 (by omega) (by omega)).mono ?_
       rintro e_ w1 ⟨rfl, rfl⟩
       refine ⟨_, rfl, IS.out, ?_⟩
       refine ca1 (i := 11) rfl rfl kk (by decide) Tryz.func29 kk rfl #[.int .i64 se, .int .i64 n] rfl zh ?_
       refine (after_c se n _ hs.1 hs.2 (by omega) (by omega)).mono ?_
       rintro e_ w1 ⟨rfl, rfl⟩
       refine ⟨_, rfl, IS.out, ?_⟩
       refine sl1 (i := 13) rfl rfl kk (by decide) rfl rfl rfl I.out zm (by first | exact sr_st8) zu (fun w1 hI => ?_)
       clear I
       have I := Aside0.mk hI
       clear hI
       refine pu1 (i := 14) rfl rfl kk ?_ (ha := by (go_simp; rfl))
       refine sl1 (i := 15) rfl rfl kk (by decide) rfl rfl rfl I.out zm (by first | exact sr_st9) zu (fun w1 hI => ?_)
       clear I
       have I := Aside0.mk hI
       clear hI
       refine pu1 (i := 16) rfl rfl kk ?_ (ha := by (go_simp; rfl))
       refine sl1 (i := 17) rfl rfl kk (by decide) rfl rfl rfl I.out zm (by first | exact sr_st10) zu (fun w1 hI => ?_)
       clear I
       have I := Aside0.mk hI
       clear hI
       refine do1 kk ?_
       clear IS
       go_wp2_with (first
        | (refine gL rfl ?_; refine ll rfl rfl rfl I zm (by exact ld_st) ?_)
        | (refine gS rfl ?_; refine sk rfl rfl rfl rfl rfl I zm (by first | exact sr_st) zu ?_; clear I; intro w1 I)
        )
       refine bodyPost_ret (ret_c rfl _ I.out _ rfl zm Tryz.underlying28 rfl kk) rfl ?_
       exact ⟨rfl, I.out.below⟩
     have hz : ¬ ((false : Bool) = false ∧ hi2 = hi2 ∧ lo2 = lo) := fun hq => h2 hq.2.2
     have h2 : (lo2 == lo) = false := beq_eq_false_iff_ne.mpr h2
     have eF : ackF ⟨c, h, st, xid, sv, ⟨false, hi2, lo⟩, t1, t2, un, se, at_⟩ psv ⟨false, hi2, lo2⟩ n u1 u2 true = ⟨c, h, st, xid, sv, ⟨false, hi2, lo⟩, t1, t2, un, se, at_⟩ := by unfold ackF; rw [if_neg (fun hq => hz hq.2)]
     rw [eF]
     clear eF hn hz
     go_enter Tryz.func39, Tryz.ntmps39
     go_wp2_with (first
      | (refine gB rfl ?_; refine bk rfl rfl rfl I ?_; clear I; intro gb w1 I)
      | (refine ak rfl (al_S rfl) I ?_; clear I; intro gb w1 I)
      | (refine gL rfl ?_; refine ll rfl rfl rfl I zm (by first | exact ld_pk | exact ld_pkA7 | exact ld_stA5 | exact ld_st) ?_)
      | (refine gD 11 rfl ?_; refine ck rfl Tryz.func60 kk rfl #[.agg (pkC ki pxid psv pc v1 hi1 lo1 false hi2 lo2 v3 hi3 lo3 hr (.slice A l.length cc))] rfl zh (dhcp_Lease.calls 1000 ki pxid psv pc v1 hi1 lo1 false hi2 lo2 v3 hi3 lo3 hr A cc l n u1 u2 true _ _ I.out.foot hc.out hL.out) ?_; rintro e_ w1 ⟨rfl, hb⟩; refine ⟨_, rfl, ?_⟩; replace I := callK I hb; clear hb)
      | (refine gS rfl ?_; refine sk rfl rfl rfl rfl rfl I zm (by first | exact sr_st) zu ?_; clear I; intro w1 I)
      )
     refine bodyPost_ret (ret_c rfl _ I.out _ rfl zm Tryz.underlying28 rfl kk) rfl ?_
     exact ⟨rfl, I.out.below⟩
   have hz : ¬ ((false : Bool) = false ∧ hi2 = hi ∧ lo2 = lo) := fun hq => h1 hq.2.1
   have h1 : (hi2 == hi) = false := beq_eq_false_iff_ne.mpr h1
   have eF : ackF ⟨c, h, st, xid, sv, ⟨false, hi, lo⟩, t1, t2, un, se, at_⟩ psv ⟨false, hi2, lo2⟩ n u1 u2 true = ⟨c, h, st, xid, sv, ⟨false, hi, lo⟩, t1, t2, un, se, at_⟩ := by unfold ackF; rw [if_neg (fun hq => hz hq.2)]
   rw [eF]
   clear eF hn hz
   go_enter Tryz.func39, Tryz.ntmps39
   go_wp2_with (first
    | (refine gB rfl ?_; refine bk rfl rfl rfl I ?_; clear I; intro gb w1 I)
    | (refine ak rfl (al_S rfl) I ?_; clear I; intro gb w1 I)
    | (refine gL rfl ?_; refine ll rfl rfl rfl I zm (by first | exact ld_pk | exact ld_pkA7 | exact ld_stA5 | exact ld_st) ?_)
    | (refine gD 11 rfl ?_; refine ck rfl Tryz.func60 kk rfl #[.agg (pkC ki pxid psv pc v1 hi1 lo1 false hi2 lo2 v3 hi3 lo3 hr (.slice A l.length cc))] rfl zh (dhcp_Lease.calls 1000 ki pxid psv pc v1 hi1 lo1 false hi2 lo2 v3 hi3 lo3 hr A cc l n u1 u2 true _ _ I.out.foot hc.out hL.out) ?_; rintro e_ w1 ⟨rfl, hb⟩; refine ⟨_, rfl, ?_⟩; replace I := callK I hb; clear hb)
    | (refine gS rfl ?_; refine sk rfl rfl rfl rfl rfl I zm (by first | exact sr_st) zu ?_; clear I; intro w1 I)
    )
   refine bodyPost_ret (ret_c rfl _ I.out _ rfl zm Tryz.underlying28 rfl kk) rfl ?_
   exact ⟨rfl, I.out.below⟩
  ·
   have hz : ¬ ((true : Bool) = false ∧ hi2 = hi ∧ lo2 = lo) := fun hq => Bool.noConfusion hq.1
   have eF : ackF ⟨c, h, st, xid, sv, ⟨false, hi, lo⟩, t1, t2, un, se, at_⟩ psv ⟨true, hi2, lo2⟩ n u1 u2 true = ⟨c, h, st, xid, sv, ⟨false, hi, lo⟩, t1, t2, un, se, at_⟩ := by unfold ackF; rw [if_neg (fun hq => hz hq.2)]
   rw [eF]
   clear eF hn hz
   go_enter Tryz.func39, Tryz.ntmps39
   go_wp2_with (first
    | (refine gB rfl ?_; refine bk rfl rfl rfl I ?_; clear I; intro gb w1 I)
    | (refine ak rfl (al_S rfl) I ?_; clear I; intro gb w1 I)
    | (refine gL rfl ?_; refine ll rfl rfl rfl I zm (by first | exact ld_pk | exact ld_pkA7 | exact ld_stA5 | exact ld_st) ?_)
    | (refine gD 11 rfl ?_; refine ck rfl Tryz.func60 kk rfl #[.agg (pkC ki pxid psv pc v1 hi1 lo1 true hi2 lo2 v3 hi3 lo3 hr (.slice A l.length cc))] rfl zh (dhcp_Lease.calls 1000 ki pxid psv pc v1 hi1 lo1 true hi2 lo2 v3 hi3 lo3 hr A cc l n u1 u2 true _ _ I.out.foot hc.out hL.out) ?_; rintro e_ w1 ⟨rfl, hb⟩; refine ⟨_, rfl, ?_⟩; replace I := callK I hb; clear hb)
    | (refine gS rfl ?_; refine sk rfl rfl rfl rfl rfl I zm (by first | exact sr_st) zu ?_; clear I; intro w1 I)
    )
   refine bodyPost_ret (ret_c rfl _ I.out _ rfl zm Tryz.underlying28 rfl kk) rfl ?_
   exact ⟨rfl, I.out.below⟩
  ·
   have hz : ¬ ((false : Bool) = true ∧ hi2 = hi ∧ lo2 = lo) := fun hq => Bool.noConfusion hq.1
   have eF : ackF ⟨c, h, st, xid, sv, ⟨true, hi, lo⟩, t1, t2, un, se, at_⟩ psv ⟨false, hi2, lo2⟩ n u1 u2 true = ⟨c, h, st, xid, sv, ⟨true, hi, lo⟩, t1, t2, un, se, at_⟩ := by unfold ackF; rw [if_neg (fun hq => hz hq.2)]
   rw [eF]
   clear eF hn hz
   go_enter Tryz.func39, Tryz.ntmps39
   go_wp2_with (first
    | (refine gB rfl ?_; refine bk rfl rfl rfl I ?_; clear I; intro gb w1 I)
    | (refine ak rfl (al_S rfl) I ?_; clear I; intro gb w1 I)
    | (refine gL rfl ?_; refine ll rfl rfl rfl I zm (by first | exact ld_pk | exact ld_pkA7 | exact ld_stA5 | exact ld_st) ?_)
    | (refine gD 11 rfl ?_; refine ck rfl Tryz.func60 kk rfl #[.agg (pkC ki pxid psv pc v1 hi1 lo1 false hi2 lo2 v3 hi3 lo3 hr (.slice A l.length cc))] rfl zh (dhcp_Lease.calls 1000 ki pxid psv pc v1 hi1 lo1 false hi2 lo2 v3 hi3 lo3 hr A cc l n u1 u2 true _ _ I.out.foot hc.out hL.out) ?_; rintro e_ w1 ⟨rfl, hb⟩; refine ⟨_, rfl, ?_⟩; replace I := callK I hb; clear hb)
    | (refine gS rfl ?_; refine sk rfl rfl rfl rfl rfl I zm (by first | exact sr_st) zu ?_; clear I; intro w1 I)
    )
   refine bodyPost_ret (ret_c rfl _ I.out _ rfl zm Tryz.underlying28 rfl kk) rfl ?_
   exact ⟨rfl, I.out.below⟩
  ·
   by_cases h1 : hi2 = hi
   · subst h1
     by_cases h2 : lo2 = lo
     · subst h2
       have eF : ackF ⟨c, h, st, xid, sv, ⟨true, hi2, lo2⟩, t1, t2, un, se, at_⟩ psv ⟨true, hi2, lo2⟩ n u1 u2 true = ⟨c, h, 3, xid, psv, ⟨true, hi2, lo2⟩, min (se + u1) 4294967295, min (se + u2) 4294967295, min (se + n) 4294967295, se, 0⟩ := by unfold ackF; rw [if_pos ⟨rfl, rfl, rfl, rfl⟩]
       rw [eF]
       clear eF
       go_enter Tryz.func39, Tryz.ntmps39
       go_wp2_with (first
        | (refine gB rfl ?_; refine bk rfl rfl rfl I ?_; clear I; intro gb w1 I)
        | (refine ak rfl (al_S rfl) I ?_; clear I; intro gb w1 I)
        | (refine gL rfl ?_; refine ll rfl rfl rfl I zm (by first | exact ld_pk | exact ld_pkA7 | exact ld_stA5 | exact ld_st) ?_)
        | (refine gD 11 rfl ?_; refine ck rfl Tryz.func60 kk rfl #[.agg (pkC ki pxid psv pc v1 hi1 lo1 true hi2 lo2 v3 hi3 lo3 hr (.slice A l.length cc))] rfl zh (dhcp_Lease.calls 1000 ki pxid psv pc v1 hi1 lo1 true hi2 lo2 v3 hi3 lo3 hr A cc l n u1 u2 true _ _ I.out.foot hc.out hL.out) ?_; rintro e_ w1 ⟨rfl, hb⟩; refine ⟨_, rfl, ?_⟩; replace I := callK I hb; clear hb)
        | (refine gS rfl ?_; refine sk rfl rfl rfl rfl rfl I zm (by first | exact sr_st) zu ?_; clear I; intro w1 I)
        )
       have IS := Aside0.mk (I.out.sub (.cons _ (.cons_cons _ (.cons _ .slnil)))).drew
       refine draw_ (Inv _ w [_] _) [] kk rfl IS.out ?_
       have I2 := Aside0.mk I.out.drew
       clear I
       have I := I2
       clear I2
       refine pu1 (i := 0) rfl rfl kk ?_ (ha := by (go_simp; rfl))
       refine ta1 (i := 1) rfl rfl kk rfl rfl IS.out zm (by exact ld_pk2) ?_ (ha := by (go_simp; rfl))
       refine pu1 (i := 2) rfl rfl kk ?_ (ha := by (go_simp; rfl))
       refine st1 (i := 3) rfl rfl kk (by decide) rfl rfl rfl I.out zm (by first | exact sr_st2) zu (fun w1 hI => ⟨hI.sub (.cons _ (.cons_cons _ (.cons _ .slnil))), ?_⟩)
       have IS := Aside0.mk (hI.sub (.cons _ (.cons_cons _ (.cons _ .slnil))))
       clear I
       have I := Aside0.mk hI
       clear hI
       refine pu1 (i := 4) rfl rfl kk ?_ (ha := by (go_simp; rfl))
       refine st1 (i := 5) rfl rfl kk (by decide) rfl rfl rfl I.out zm (by first | exact sr_st4) zu (fun w1 hI => ⟨hI.sub (.cons _ (.cons_cons _ (.cons _ .slnil))), ?_⟩)
       have IS := Aside0.mk (hI.sub (.cons _ (.cons_cons _ (.cons _ .slnil))))
       clear I
       have I := Aside0.mk hI
       clear hI
       refine pu1 (i := 6) rfl rfl kk ?_ (ha := by (go_simp; rfl))
       refine st1 (i := 7) rfl rfl kk (by decide) rfl rfl rfl I.out zm (by first | exact sr_st12) zu (fun w1 hI => ⟨hI.sub (.cons _ (.cons_cons _ (.cons _ .slnil))), ?_⟩)
       have IS := Aside0.mk (hI.sub (.cons _ (.cons_cons _ (.cons _ .slnil))))
       clear I
       have I := Aside0.mk hI
       clear hI
       refine do1 kk ?_
       clear IS
       try go_wp2
       have IS := Aside0.mk (I.out.sub (.cons _ (.cons _ (.cons_cons _ .slnil)))).drew
       refine draw_ (Inv _ w [_] _) [13, 15, 17] kk rfl IS.out ?_
       have I2 := Aside0.mk I.out.drew
       clear I
       have I := I2
       clear I2
       refine pu1 (i := 0) rfl rfl kk ?_ (ha := by (go_simp; rfl))
       refine ta1 (i := 1) rfl rfl kk rfl rfl IS.out zm (by exact ld_st11) ?_ (ha := by (go_simp; rfl))
       refine pu1 (i := 2) rfl rfl kk ?_ (ha := by (go_simp; rfl))
       refine pu1 (i := 4) rfl rfl kk ?_ (ha := by (go_simp; rfl))
       refine ta1 (i := 5) rfl rfl kk rfl rfl IS.out zm (by exact ld_st11) ?_ (ha := by (go_simp; rfl))
       refine pu1 (i := 6) rfl rfl kk ?_ (ha := by (go_simp; rfl))
       refine pu1 (i := 8) rfl rfl kk ?_ (ha := by (go_simp; rfl))
       refine ta1 (i := 9) rfl rfl kk rfl rfl IS.out zm (by exact ld_st11) ?_ (ha := by (go_simp; rfl))
       refine pu1 (i := 10) rfl rfl kk ?_ (ha := by (go_simp; rfl))
       refine ca1 (i := 3) rfl rfl kk (by decide) Tryz.func29 kk rfl #[.int .i64 se, .int .i64 u1] rfl zh ?_
       refine (after_c se u1 _ hs.1 hs.2 (by omega) (by omega)).mono ?_
       rintro e_ w1 ⟨rfl, rfl⟩
       refine ⟨_, rfl, IS.out, ?_⟩
       refine pu1 (i := 12) rfl rfl kk ?_ (ha := by (go_simp; rfl))
       refine ca1 (i := 7) rfl rfl kk (by decide) Tryz.func29 kk rfl #[.int .i64 se, .int .i64 u2] rfl zh ?_
       refine (after_c se u2 _ hs.1 hs.2 (by omega) (by omega)).mono ?_
       rintro e_ w1 ⟨rfl, rfl⟩
       refine ⟨_, rfl, IS.out, ?_⟩
       refine ca1 (i := 11) rfl rfl kk (by decide) Tryz.func29 kk rfl #[.int .i64 se, .int .i64 n] rfl zh ?_
       refine (after_c se n _ hs.1 hs.2 (by omega) (by omega)).mono ?_
       rintro e_ w1 ⟨rfl, rfl⟩
       refine ⟨_, rfl, IS.out, ?_⟩
       refine sl1 (i := 13) rfl rfl kk (by decide) rfl rfl rfl I.out zm (by first | exact sr_st8) zu (fun w1 hI => ?_)
       clear I
       have I := Aside0.mk hI
       clear hI
       refine pu1 (i := 14) rfl rfl kk ?_ (ha := by (go_simp; rfl))
       refine sl1 (i := 15) rfl rfl kk (by decide) rfl rfl rfl I.out zm (by first | exact sr_st9) zu (fun w1 hI => ?_)
       clear I
       have I := Aside0.mk hI
       clear hI
       refine pu1 (i := 16) rfl rfl kk ?_ (ha := by (go_simp; rfl))
       refine sl1 (i := 17) rfl rfl kk (by decide) rfl rfl rfl I.out zm (by first | exact sr_st10) zu (fun w1 hI => ?_)
       clear I
       have I := Aside0.mk hI
       clear hI
       refine do1 kk ?_
       clear IS
       go_wp2_with (first
        | (refine gL rfl ?_; refine ll rfl rfl rfl I zm (by exact ld_st) ?_)
        | (refine gS rfl ?_; refine sk rfl rfl rfl rfl rfl I zm (by first | exact sr_st) zu ?_; clear I; intro w1 I)
        )
       refine bodyPost_ret (ret_c rfl _ I.out _ rfl zm Tryz.underlying28 rfl kk) rfl ?_
       exact ⟨rfl, I.out.below⟩
     have hz : ¬ ((true : Bool) = true ∧ hi2 = hi2 ∧ lo2 = lo) := fun hq => h2 hq.2.2
     have h2 : (lo2 == lo) = false := beq_eq_false_iff_ne.mpr h2
     have eF : ackF ⟨c, h, st, xid, sv, ⟨true, hi2, lo⟩, t1, t2, un, se, at_⟩ psv ⟨true, hi2, lo2⟩ n u1 u2 true = ⟨c, h, st, xid, sv, ⟨true, hi2, lo⟩, t1, t2, un, se, at_⟩ := by unfold ackF; rw [if_neg (fun hq => hz hq.2)]
     rw [eF]
     clear eF hn hz
     go_enter Tryz.func39, Tryz.ntmps39
     go_wp2_with (first
      | (refine gB rfl ?_; refine bk rfl rfl rfl I ?_; clear I; intro gb w1 I)
      | (refine ak rfl (al_S rfl) I ?_; clear I; intro gb w1 I)
      | (refine gL rfl ?_; refine ll rfl rfl rfl I zm (by first | exact ld_pk | exact ld_pkA7 | exact ld_stA5 | exact ld_st) ?_)
      | (refine gD 11 rfl ?_; refine ck rfl Tryz.func60 kk rfl #[.agg (pkC ki pxid psv pc v1 hi1 lo1 true hi2 lo2 v3 hi3 lo3 hr (.slice A l.length cc))] rfl zh (dhcp_Lease.calls 1000 ki pxid psv pc v1 hi1 lo1 true hi2 lo2 v3 hi3 lo3 hr A cc l n u1 u2 true _ _ I.out.foot hc.out hL.out) ?_; rintro e_ w1 ⟨rfl, hb⟩; refine ⟨_, rfl, ?_⟩; replace I := callK I hb; clear hb)
      | (refine gS rfl ?_; refine sk rfl rfl rfl rfl rfl I zm (by first | exact sr_st) zu ?_; clear I; intro w1 I)
      )
     refine bodyPost_ret (ret_c rfl _ I.out _ rfl zm Tryz.underlying28 rfl kk) rfl ?_
     exact ⟨rfl, I.out.below⟩
   have hz : ¬ ((true : Bool) = true ∧ hi2 = hi ∧ lo2 = lo) := fun hq => h1 hq.2.1
   have h1 : (hi2 == hi) = false := beq_eq_false_iff_ne.mpr h1
   have eF : ackF ⟨c, h, st, xid, sv, ⟨true, hi, lo⟩, t1, t2, un, se, at_⟩ psv ⟨true, hi2, lo2⟩ n u1 u2 true = ⟨c, h, st, xid, sv, ⟨true, hi, lo⟩, t1, t2, un, se, at_⟩ := by unfold ackF; rw [if_neg (fun hq => hz hq.2)]
   rw [eF]
   clear eF hn hz
   go_enter Tryz.func39, Tryz.ntmps39
   go_wp2_with (first
    | (refine gB rfl ?_; refine bk rfl rfl rfl I ?_; clear I; intro gb w1 I)
    | (refine ak rfl (al_S rfl) I ?_; clear I; intro gb w1 I)
    | (refine gL rfl ?_; refine ll rfl rfl rfl I zm (by first | exact ld_pk | exact ld_pkA7 | exact ld_stA5 | exact ld_st) ?_)
    | (refine gD 11 rfl ?_; refine ck rfl Tryz.func60 kk rfl #[.agg (pkC ki pxid psv pc v1 hi1 lo1 true hi2 lo2 v3 hi3 lo3 hr (.slice A l.length cc))] rfl zh (dhcp_Lease.calls 1000 ki pxid psv pc v1 hi1 lo1 true hi2 lo2 v3 hi3 lo3 hr A cc l n u1 u2 true _ _ I.out.foot hc.out hL.out) ?_; rintro e_ w1 ⟨rfl, hb⟩; refine ⟨_, rfl, ?_⟩; replace I := callK I hb; clear hb)
    | (refine gS rfl ?_; refine sk rfl rfl rfl rfl rfl I zm (by first | exact sr_st) zu ?_; clear I; intro w1 I)
    )
   refine bodyPost_ret (ret_c rfl _ I.out _ rfl zm Tryz.underlying28 rfl kk) rfl ?_
   exact ⟨rfl, I.out.below⟩
theorem bytes_inj {a b : ByteArray} (h : a.toList = b.toList) : a = b := by
  rw [ByteArray.toList_eq, ByteArray.toList_eq] at h; exact ByteArray.ext (Array.toList_inj.mp h)
def recvF (s : Stn) (ki pxid psv : Int) (pc : ByteArray) (y : S26) (n u1 u2 : Int) (ok : Bool) (now : Int) : Stn × List S38 :=
  if ¬ (pxid = s.xid ∧ pc = s.c) then (s, []) else if ki = 2 ∧ s.st = 1 then offF s psv y now else if ki = 5 ∧ (s.st = 2 ∨ s.st = 4 ∨ s.st = 5) then (ackF s psv y n u1 u2 ok, []) else if ki = 6 ∧ (s.st = 2 ∨ s.st = 4 ∨ s.st = 5) then (initF s, []) else (s, [])
theorem recv_c (s : Stn) (ki pxid psv : Int) (pc : ByteArray) (v1 : Bool) (hi1 lo1 : Int) (y : S26) (v3 : Bool) (hi3 lo3 : Int) (hr : Bool) (A : Option Addr) (cc : Nat) (l : List S62) (B : Nat → Prop) (n u1 u2 : Int) (ok : Bool) (now : Int) (w : World) (hx0 : 0 ≤ s.xid) (hs : 0 ≤ s.se ∧ s.se ≤ 4294967295) (hV : addr_Valid.f y.f0 y.f1 y.f2 = some (validF y)) (hW : ∃ b, option_Value.f 1000 [y] = some (wantF y, b)) (hB : Foot (fun W => Kd.C k62 W A l.length l) w B) (hc : l.length ≤ cc) (hL : dhcp_Lease.f 1000 ki pxid psv pc v1 hi1 lo1 y.f0 y.f1 y.f2 v3 hi3 lo3 hr l = some (n, u1, u2, ok)) (hn : ok = true → 0 ≤ u1 ∧ u1 ≤ u2 ∧ u2 ≤ n ∧ n ≤ 4294967295) :
  Calls Tryz.prog 11 #[.agg (stA s), .agg (pkC ki pxid psv pc v1 hi1 lo1 y.f0 y.f1 y.f2 v3 hi3 lo3 hr (.slice A l.length cc)), .int .i64 now] w (Ret (recvF s ki pxid psv pc y n u1 u2 ok now) w) := by
 have hu26 := Tryz.underlying28
 have hu39 := Tryz.underlying38
 have hu24 := Tryz.underlying26
 obtain ⟨c, h, st, xid, sv, ⟨v6, hi, lo⟩, t1, t2, un, se, at_⟩ := s
 obtain ⟨v2, hi2, lo2⟩ := y
 replace hx0 : 0 ≤ xid := hx0
 replace hs : 0 ≤ se ∧ se ≤ 4294967295 := hs
 show Calls Tryz.prog 11 #[.agg (stC c h st xid sv v6 hi lo t1 t2 un se at_), .agg (pkC ki pxid psv pc v1 hi1 lo1 v2 hi2 lo2 v3 hi3 lo3 hr (.slice A l.length cc)), .int .i64 now] w _
 by_cases hp : pxid = xid
 · subst hp
   by_cases hq : pc = c
   · subst hq
     by_cases k2 : ki = 2
     · subst k2
       by_cases s1 : st = 1
       · subst s1
         have eF : recvF ⟨pc, h, 1, pxid, sv, ⟨v6, hi, lo⟩, t1, t2, un, se, at_⟩ 2 pxid psv pc ⟨v2, hi2, lo2⟩ n u1 u2 ok now = offF ⟨pc, h, 1, pxid, sv, ⟨v6, hi, lo⟩, t1, t2, un, se, at_⟩ psv ⟨v2, hi2, lo2⟩ now := by unfold recvF; rw [if_neg (fun hq => hq ⟨rfl, rfl⟩), if_pos ⟨rfl, rfl⟩]
         rw [eF]
         clear eF
         have I := Aside0.mk (Inv.start0 (w0 := w))
         go_enter Tryz.func11, Tryz.ntmps11
         go_wp2_with (first
          | (refine gB rfl ?_; refine bk rfl rfl rfl I ?_; clear I; intro gb w1 I)
          | (refine ak rfl (al_S rfl) I ?_; clear I; intro gb w1 I)
          | (refine gL rfl ?_; refine ll rfl rfl rfl I zm (by first | exact ld_pk | exact ld_pk0 | exact ld_pk1 | exact ld_pk3 | exact ld_st0 | exact ld_st2 | exact ld_st3 | exact ld_st) ?_)
          | (refine gD 47 rfl ?_; refine ck rfl Tryz.func38 kk rfl #[.agg (stC pc h 1 pxid sv v6 hi lo t1 t2 un se at_), .agg (pkC 2 pxid psv pc v1 hi1 lo1 v2 hi2 lo2 v3 hi3 lo3 hr (.slice A l.length cc)), .int .i64 now] rfl zh (offered_c ⟨pc, h, 1, pxid, sv, ⟨v6, hi, lo⟩, t1, t2, un, se, at_⟩ 2 pxid psv pc v1 hi1 lo1 ⟨v2, hi2, lo2⟩ v3 hi3 lo3 hr (.slice A l.length cc) now _ hx0 hV hW) ?_; rintro e_ w1 ⟨v, rfl, hf, hb⟩; refine ⟨_, rfl, ?_⟩; replace I := addK I hb hf; clear hb hf)
          | (refine gS rfl ?_; refine sk rfl rfl rfl rfl rfl I zm (by first | exact sr_st | exact sr_stA) zu ?_; clear I; intro w1 I)
          )
         refine bodyPost_ret (ret_ct rfl _ I.out _ rfl zm Tryz.underlying28 rfl kk) rfl ?_
         exact ⟨_, rfl, foot_new (I.out.foot.imp (fun W hW => hW.2)), I.out.below⟩
       by_cases s2 : st = 2
       · subst s2
         have eF : recvF ⟨pc, h, 2, pxid, sv, ⟨v6, hi, lo⟩, t1, t2, un, se, at_⟩ 2 pxid psv pc ⟨v2, hi2, lo2⟩ n u1 u2 ok now = (⟨pc, h, 2, pxid, sv, ⟨v6, hi, lo⟩, t1, t2, un, se, at_⟩, []) := by unfold recvF; rw [if_neg (fun hq => hq ⟨rfl, rfl⟩), if_neg (fun hq => absurd hq.2 (by show ¬ ((2 : Int) = 1); decide)), if_neg (fun hq => absurd hq.1 (by decide)), if_neg (fun hq => absurd hq.1 (by decide))]
         rw [eF]
         clear eF
         have I := Aside0.mk (Inv.start0 (w0 := w))
         go_enter Tryz.func11, Tryz.ntmps11
         go_wp2_with (first
          | (refine gB rfl ?_; refine bk rfl rfl rfl I ?_; clear I; intro gb w1 I)
          | (refine ak rfl (al_S rfl) I ?_; clear I; intro gb w1 I)
          | (refine gL rfl ?_; refine ll rfl rfl rfl I zm (by first | exact ld_pk | exact ld_pk0 | exact ld_pk1 | exact ld_pk3 | exact ld_st0 | exact ld_st2 | exact ld_st3 | exact ld_st) ?_)
          | (refine gS rfl ?_; refine sk rfl rfl rfl rfl rfl I zm (by first | exact sr_st) zu ?_; clear I; intro w1 I)
          )
         refine bodyPost_ret (ret_ct rfl _ I.out _ rfl zm Tryz.underlying28 rfl kk) rfl ?_
         exact ⟨_, rfl, Pks_nil _ _, I.out.below⟩
       by_cases s4 : st = 4
       · subst s4
         have eF : recvF ⟨pc, h, 4, pxid, sv, ⟨v6, hi, lo⟩, t1, t2, un, se, at_⟩ 2 pxid psv pc ⟨v2, hi2, lo2⟩ n u1 u2 ok now = (⟨pc, h, 4, pxid, sv, ⟨v6, hi, lo⟩, t1, t2, un, se, at_⟩, []) := by unfold recvF; rw [if_neg (fun hq => hq ⟨rfl, rfl⟩), if_neg (fun hq => absurd hq.2 (by show ¬ ((4 : Int) = 1); decide)), if_neg (fun hq => absurd hq.1 (by decide)), if_neg (fun hq => absurd hq.1 (by decide))]
         rw [eF]
         clear eF
         have I := Aside0.mk (Inv.start0 (w0 := w))
         go_enter Tryz.func11, Tryz.ntmps11
         go_wp2_with (first
          | (refine gB rfl ?_; refine bk rfl rfl rfl I ?_; clear I; intro gb w1 I)
          | (refine ak rfl (al_S rfl) I ?_; clear I; intro gb w1 I)
          | (refine gL rfl ?_; refine ll rfl rfl rfl I zm (by first | exact ld_pk | exact ld_pk0 | exact ld_pk1 | exact ld_pk3 | exact ld_st0 | exact ld_st2 | exact ld_st3 | exact ld_st) ?_)
          | (refine gS rfl ?_; refine sk rfl rfl rfl rfl rfl I zm (by first | exact sr_st) zu ?_; clear I; intro w1 I)
          )
         refine bodyPost_ret (ret_ct rfl _ I.out _ rfl zm Tryz.underlying28 rfl kk) rfl ?_
         exact ⟨_, rfl, Pks_nil _ _, I.out.below⟩
       by_cases s5 : st = 5
       · subst s5
         have eF : recvF ⟨pc, h, 5, pxid, sv, ⟨v6, hi, lo⟩, t1, t2, un, se, at_⟩ 2 pxid psv pc ⟨v2, hi2, lo2⟩ n u1 u2 ok now = (⟨pc, h, 5, pxid, sv, ⟨v6, hi, lo⟩, t1, t2, un, se, at_⟩, []) := by unfold recvF; rw [if_neg (fun hq => hq ⟨rfl, rfl⟩), if_neg (fun hq => absurd hq.2 (by show ¬ ((5 : Int) = 1); decide)), if_neg (fun hq => absurd hq.1 (by decide)), if_neg (fun hq => absurd hq.1 (by decide))]
         rw [eF]
         clear eF
         have I := Aside0.mk (Inv.start0 (w0 := w))
         go_enter Tryz.func11, Tryz.ntmps11
         go_wp2_with (first
          | (refine gB rfl ?_; refine bk rfl rfl rfl I ?_; clear I; intro gb w1 I)
          | (refine ak rfl (al_S rfl) I ?_; clear I; intro gb w1 I)
          | (refine gL rfl ?_; refine ll rfl rfl rfl I zm (by first | exact ld_pk | exact ld_pk0 | exact ld_pk1 | exact ld_pk3 | exact ld_st0 | exact ld_st2 | exact ld_st3 | exact ld_st) ?_)
          | (refine gS rfl ?_; refine sk rfl rfl rfl rfl rfl I zm (by first | exact sr_st) zu ?_; clear I; intro w1 I)
          )
         refine bodyPost_ret (ret_ct rfl _ I.out _ rfl zm Tryz.underlying28 rfl kk) rfl ?_
         exact ⟨_, rfl, Pks_nil _ _, I.out.below⟩
       have e1 : (st == 1) = false := beq_eq_false_iff_ne.mpr s1
       have e2 : (st == 2) = false := beq_eq_false_iff_ne.mpr s2
       have e4 : (st == 4) = false := beq_eq_false_iff_ne.mpr s4
       have e5 : (st == 5) = false := beq_eq_false_iff_ne.mpr s5
       have eF : recvF ⟨pc, h, st, pxid, sv, ⟨v6, hi, lo⟩, t1, t2, un, se, at_⟩ 2 pxid psv pc ⟨v2, hi2, lo2⟩ n u1 u2 ok now = (⟨pc, h, st, pxid, sv, ⟨v6, hi, lo⟩, t1, t2, un, se, at_⟩, []) := by unfold recvF; rw [if_neg (fun hq => hq ⟨rfl, rfl⟩), if_neg (fun hq => s1 hq.2), if_neg (fun hq => absurd hq.1 (by decide)), if_neg (fun hq => absurd hq.1 (by decide))]
       rw [eF]
       clear eF
       have I := Aside0.mk (Inv.start0 (w0 := w))
       go_enter Tryz.func11, Tryz.ntmps11
       go_wp2_with (first
        | (refine gB rfl ?_; refine bk rfl rfl rfl I ?_; clear I; intro gb w1 I)
        | (refine ak rfl (al_S rfl) I ?_; clear I; intro gb w1 I)
        | (refine gL rfl ?_; refine ll rfl rfl rfl I zm (by first | exact ld_pk | exact ld_pk0 | exact ld_pk1 | exact ld_pk3 | exact ld_st0 | exact ld_st2 | exact ld_st3 | exact ld_st) ?_)
        | (refine gS rfl ?_; refine sk rfl rfl rfl rfl rfl I zm (by first | exact sr_st) zu ?_; clear I; intro w1 I)
        )
       refine bodyPost_ret (ret_ct rfl _ I.out _ rfl zm Tryz.underlying28 rfl kk) rfl ?_
       exact ⟨_, rfl, Pks_nil _ _, I.out.below⟩
     by_cases k5 : ki = 5
     · subst k5
       by_cases s2 : st = 2
       · subst s2
         have eF : recvF ⟨pc, h, 2, pxid, sv, ⟨v6, hi, lo⟩, t1, t2, un, se, at_⟩ 5 pxid psv pc ⟨v2, hi2, lo2⟩ n u1 u2 ok now = (ackF ⟨pc, h, 2, pxid, sv, ⟨v6, hi, lo⟩, t1, t2, un, se, at_⟩ psv ⟨v2, hi2, lo2⟩ n u1 u2 ok, []) := by unfold recvF; rw [if_neg (fun hq => hq ⟨rfl, rfl⟩), if_neg (fun hq => absurd hq.1 (by decide)), if_pos ⟨rfl, .inl rfl⟩]
         rw [eF]
         clear eF
         have hc := Aside0.mk hc
         have I : Aside0 (Inv B w [] (fun W => Kd.C k62 W A l.length l) w) := ⟨Inv.start hB⟩
         clear hB
         go_enter Tryz.func11, Tryz.ntmps11
         go_wp2_with (first
          | (refine gB rfl ?_; refine bk rfl rfl rfl I ?_; clear I; intro gb w1 I)
          | (refine ak rfl (al_S rfl) I ?_; clear I; intro gb w1 I)
          | (refine gL rfl ?_; refine ll rfl rfl rfl I zm (by first | exact ld_pk | exact ld_pk0 | exact ld_pk1 | exact ld_pk3 | exact ld_st0 | exact ld_st2 | exact ld_st3 | exact ld_st) ?_)
          | (refine gD 59 rfl ?_; refine ck rfl Tryz.func39 kk rfl #[.agg (stC pc h 2 pxid sv v6 hi lo t1 t2 un se at_), .agg (pkC 5 pxid psv pc v1 hi1 lo1 v2 hi2 lo2 v3 hi3 lo3 hr (.slice A l.length cc))] rfl zh (ack_c ⟨pc, h, 2, pxid, sv, ⟨v6, hi, lo⟩, t1, t2, un, se, at_⟩ 5 pxid psv pc v1 hi1 lo1 ⟨v2, hi2, lo2⟩ v3 hi3 lo3 hr A cc l _ n u1 u2 ok _ hs I.out.foot hc.out hL hn) ?_; rintro e_ w1 ⟨rfl, hb⟩; refine ⟨_, rfl, ?_⟩; replace I := callK I hb; clear hb)
          | (refine gS rfl ?_; refine sk rfl rfl rfl rfl rfl I zm (by first | exact sr_st | exact sr_stA) zu ?_; clear I; intro w1 I)
          )
         refine bodyPost_ret (ret_ct rfl _ I.out _ rfl zm Tryz.underlying28 rfl kk) rfl ?_
         exact ⟨_, rfl, Pks_nil _ _, I.out.below⟩
       by_cases s4 : st = 4
       · subst s4
         have eF : recvF ⟨pc, h, 4, pxid, sv, ⟨v6, hi, lo⟩, t1, t2, un, se, at_⟩ 5 pxid psv pc ⟨v2, hi2, lo2⟩ n u1 u2 ok now = (ackF ⟨pc, h, 4, pxid, sv, ⟨v6, hi, lo⟩, t1, t2, un, se, at_⟩ psv ⟨v2, hi2, lo2⟩ n u1 u2 ok, []) := by unfold recvF; rw [if_neg (fun hq => hq ⟨rfl, rfl⟩), if_neg (fun hq => absurd hq.1 (by decide)), if_pos ⟨rfl, .inr (.inl rfl)⟩]
         rw [eF]
         clear eF
         have hc := Aside0.mk hc
         have I : Aside0 (Inv B w [] (fun W => Kd.C k62 W A l.length l) w) := ⟨Inv.start hB⟩
         clear hB
         go_enter Tryz.func11, Tryz.ntmps11
         go_wp2_with (first
          | (refine gB rfl ?_; refine bk rfl rfl rfl I ?_; clear I; intro gb w1 I)
          | (refine ak rfl (al_S rfl) I ?_; clear I; intro gb w1 I)
          | (refine gL rfl ?_; refine ll rfl rfl rfl I zm (by first | exact ld_pk | exact ld_pk0 | exact ld_pk1 | exact ld_pk3 | exact ld_st0 | exact ld_st2 | exact ld_st3 | exact ld_st) ?_)
          | (refine gD 59 rfl ?_; refine ck rfl Tryz.func39 kk rfl #[.agg (stC pc h 4 pxid sv v6 hi lo t1 t2 un se at_), .agg (pkC 5 pxid psv pc v1 hi1 lo1 v2 hi2 lo2 v3 hi3 lo3 hr (.slice A l.length cc))] rfl zh (ack_c ⟨pc, h, 4, pxid, sv, ⟨v6, hi, lo⟩, t1, t2, un, se, at_⟩ 5 pxid psv pc v1 hi1 lo1 ⟨v2, hi2, lo2⟩ v3 hi3 lo3 hr A cc l _ n u1 u2 ok _ hs I.out.foot hc.out hL hn) ?_; rintro e_ w1 ⟨rfl, hb⟩; refine ⟨_, rfl, ?_⟩; replace I := callK I hb; clear hb)
          | (refine gS rfl ?_; refine sk rfl rfl rfl rfl rfl I zm (by first | exact sr_st | exact sr_stA) zu ?_; clear I; intro w1 I)
          )
         refine bodyPost_ret (ret_ct rfl _ I.out _ rfl zm Tryz.underlying28 rfl kk) rfl ?_
         exact ⟨_, rfl, Pks_nil _ _, I.out.below⟩
       by_cases s5 : st = 5
       · subst s5
         have eF : recvF ⟨pc, h, 5, pxid, sv, ⟨v6, hi, lo⟩, t1, t2, un, se, at_⟩ 5 pxid psv pc ⟨v2, hi2, lo2⟩ n u1 u2 ok now = (ackF ⟨pc, h, 5, pxid, sv, ⟨v6, hi, lo⟩, t1, t2, un, se, at_⟩ psv ⟨v2, hi2, lo2⟩ n u1 u2 ok, []) := by unfold recvF; rw [if_neg (fun hq => hq ⟨rfl, rfl⟩), if_neg (fun hq => absurd hq.1 (by decide)), if_pos ⟨rfl, .inr (.inr rfl)⟩]
         rw [eF]
         clear eF
         have hc := Aside0.mk hc
         have I : Aside0 (Inv B w [] (fun W => Kd.C k62 W A l.length l) w) := ⟨Inv.start hB⟩
         clear hB
         go_enter Tryz.func11, Tryz.ntmps11
         go_wp2_with (first
          | (refine gB rfl ?_; refine bk rfl rfl rfl I ?_; clear I; intro gb w1 I)
          | (refine ak rfl (al_S rfl) I ?_; clear I; intro gb w1 I)
          | (refine gL rfl ?_; refine ll rfl rfl rfl I zm (by first | exact ld_pk | exact ld_pk0 | exact ld_pk1 | exact ld_pk3 | exact ld_st0 | exact ld_st2 | exact ld_st3 | exact ld_st) ?_)
          | (refine gD 59 rfl ?_; refine ck rfl Tryz.func39 kk rfl #[.agg (stC pc h 5 pxid sv v6 hi lo t1 t2 un se at_), .agg (pkC 5 pxid psv pc v1 hi1 lo1 v2 hi2 lo2 v3 hi3 lo3 hr (.slice A l.length cc))] rfl zh (ack_c ⟨pc, h, 5, pxid, sv, ⟨v6, hi, lo⟩, t1, t2, un, se, at_⟩ 5 pxid psv pc v1 hi1 lo1 ⟨v2, hi2, lo2⟩ v3 hi3 lo3 hr A cc l _ n u1 u2 ok _ hs I.out.foot hc.out hL hn) ?_; rintro e_ w1 ⟨rfl, hb⟩; refine ⟨_, rfl, ?_⟩; replace I := callK I hb; clear hb)
          | (refine gS rfl ?_; refine sk rfl rfl rfl rfl rfl I zm (by first | exact sr_st | exact sr_stA) zu ?_; clear I; intro w1 I)
          )
         refine bodyPost_ret (ret_ct rfl _ I.out _ rfl zm Tryz.underlying28 rfl kk) rfl ?_
         exact ⟨_, rfl, Pks_nil _ _, I.out.below⟩
       have e2 : (st == 2) = false := beq_eq_false_iff_ne.mpr s2
       have e4 : (st == 4) = false := beq_eq_false_iff_ne.mpr s4
       have e5 : (st == 5) = false := beq_eq_false_iff_ne.mpr s5
       have eF : recvF ⟨pc, h, st, pxid, sv, ⟨v6, hi, lo⟩, t1, t2, un, se, at_⟩ 5 pxid psv pc ⟨v2, hi2, lo2⟩ n u1 u2 ok now = (⟨pc, h, st, pxid, sv, ⟨v6, hi, lo⟩, t1, t2, un, se, at_⟩, []) := by unfold recvF; rw [if_neg (fun hq => hq ⟨rfl, rfl⟩), if_neg (fun hq => absurd hq.1 (by decide)), if_neg (fun hq => (fun hs => hs.elim s2 (fun hs => hs.elim s4 s5)) hq.2), if_neg (fun hq => absurd hq.1 (by decide))]
       rw [eF]
       clear eF
       have I := Aside0.mk (Inv.start0 (w0 := w))
       go_enter Tryz.func11, Tryz.ntmps11
       go_wp2_with (first
        | (refine gB rfl ?_; refine bk rfl rfl rfl I ?_; clear I; intro gb w1 I)
        | (refine ak rfl (al_S rfl) I ?_; clear I; intro gb w1 I)
        | (refine gL rfl ?_; refine ll rfl rfl rfl I zm (by first | exact ld_pk | exact ld_pk0 | exact ld_pk1 | exact ld_pk3 | exact ld_st0 | exact ld_st2 | exact ld_st3 | exact ld_st) ?_)
        | (refine gS rfl ?_; refine sk rfl rfl rfl rfl rfl I zm (by first | exact sr_st) zu ?_; clear I; intro w1 I)
        )
       refine bodyPost_ret (ret_ct rfl _ I.out _ rfl zm Tryz.underlying28 rfl kk) rfl ?_
       exact ⟨_, rfl, Pks_nil _ _, I.out.below⟩
     by_cases k6 : ki = 6
     · subst k6
       by_cases s2 : st = 2
       · subst s2
         have eF : recvF ⟨pc, h, 2, pxid, sv, ⟨v6, hi, lo⟩, t1, t2, un, se, at_⟩ 6 pxid psv pc ⟨v2, hi2, lo2⟩ n u1 u2 ok now = (initF ⟨pc, h, 2, pxid, sv, ⟨v6, hi, lo⟩, t1, t2, un, se, at_⟩, []) := by unfold recvF; rw [if_neg (fun hq => hq ⟨rfl, rfl⟩), if_neg (fun hq => absurd hq.1 (by decide)), if_neg (fun hq => absurd hq.1 (by decide)), if_pos ⟨rfl, .inl rfl⟩]
         rw [eF]
         clear eF
         have I := Aside0.mk (Inv.start0 (w0 := w))
         go_enter Tryz.func11, Tryz.ntmps11
         go_wp2_with (first
          | (refine gB rfl ?_; refine bk rfl rfl rfl I ?_; clear I; intro gb w1 I)
          | (refine ak rfl (al_S rfl) I ?_; clear I; intro gb w1 I)
          | (refine gL rfl ?_; refine ll rfl rfl rfl I zm (by first | exact ld_pk | exact ld_pk0 | exact ld_pk1 | exact ld_pk3 | exact ld_st0 | exact ld_st2 | exact ld_st3 | exact ld_st) ?_)
          | (refine gD 68 rfl ?_; refine ck rfl Tryz.func30 kk rfl #[.agg (stC pc h 2 pxid sv v6 hi lo t1 t2 un se at_)] rfl zh (initial_c pc h 2 pxid sv v6 hi lo t1 t2 un se at_ _) ?_; rintro e_ w1 ⟨rfl, hb⟩; refine ⟨_, rfl, ?_⟩; replace I := callK I hb; clear hb)
          | (refine gS rfl ?_; refine sk rfl rfl rfl rfl rfl I zm (by first | exact sr_st) zu ?_; clear I; intro w1 I)
          )
         refine bodyPost_ret (ret_ct rfl _ I.out _ rfl zm Tryz.underlying28 rfl kk) rfl ?_
         exact ⟨_, rfl, Pks_nil _ _, I.out.below⟩
       by_cases s4 : st = 4
       · subst s4
         have eF : recvF ⟨pc, h, 4, pxid, sv, ⟨v6, hi, lo⟩, t1, t2, un, se, at_⟩ 6 pxid psv pc ⟨v2, hi2, lo2⟩ n u1 u2 ok now = (initF ⟨pc, h, 4, pxid, sv, ⟨v6, hi, lo⟩, t1, t2, un, se, at_⟩, []) := by unfold recvF; rw [if_neg (fun hq => hq ⟨rfl, rfl⟩), if_neg (fun hq => absurd hq.1 (by decide)), if_neg (fun hq => absurd hq.1 (by decide)), if_pos ⟨rfl, .inr (.inl rfl)⟩]
         rw [eF]
         clear eF
         have I := Aside0.mk (Inv.start0 (w0 := w))
         go_enter Tryz.func11, Tryz.ntmps11
         go_wp2_with (first
          | (refine gB rfl ?_; refine bk rfl rfl rfl I ?_; clear I; intro gb w1 I)
          | (refine ak rfl (al_S rfl) I ?_; clear I; intro gb w1 I)
          | (refine gL rfl ?_; refine ll rfl rfl rfl I zm (by first | exact ld_pk | exact ld_pk0 | exact ld_pk1 | exact ld_pk3 | exact ld_st0 | exact ld_st2 | exact ld_st3 | exact ld_st) ?_)
          | (refine gD 68 rfl ?_; refine ck rfl Tryz.func30 kk rfl #[.agg (stC pc h 4 pxid sv v6 hi lo t1 t2 un se at_)] rfl zh (initial_c pc h 4 pxid sv v6 hi lo t1 t2 un se at_ _) ?_; rintro e_ w1 ⟨rfl, hb⟩; refine ⟨_, rfl, ?_⟩; replace I := callK I hb; clear hb)
          | (refine gS rfl ?_; refine sk rfl rfl rfl rfl rfl I zm (by first | exact sr_st) zu ?_; clear I; intro w1 I)
          )
         refine bodyPost_ret (ret_ct rfl _ I.out _ rfl zm Tryz.underlying28 rfl kk) rfl ?_
         exact ⟨_, rfl, Pks_nil _ _, I.out.below⟩
       by_cases s5 : st = 5
       · subst s5
         have eF : recvF ⟨pc, h, 5, pxid, sv, ⟨v6, hi, lo⟩, t1, t2, un, se, at_⟩ 6 pxid psv pc ⟨v2, hi2, lo2⟩ n u1 u2 ok now = (initF ⟨pc, h, 5, pxid, sv, ⟨v6, hi, lo⟩, t1, t2, un, se, at_⟩, []) := by unfold recvF; rw [if_neg (fun hq => hq ⟨rfl, rfl⟩), if_neg (fun hq => absurd hq.1 (by decide)), if_neg (fun hq => absurd hq.1 (by decide)), if_pos ⟨rfl, .inr (.inr rfl)⟩]
         rw [eF]
         clear eF
         have I := Aside0.mk (Inv.start0 (w0 := w))
         go_enter Tryz.func11, Tryz.ntmps11
         go_wp2_with (first
          | (refine gB rfl ?_; refine bk rfl rfl rfl I ?_; clear I; intro gb w1 I)
          | (refine ak rfl (al_S rfl) I ?_; clear I; intro gb w1 I)
          | (refine gL rfl ?_; refine ll rfl rfl rfl I zm (by first | exact ld_pk | exact ld_pk0 | exact ld_pk1 | exact ld_pk3 | exact ld_st0 | exact ld_st2 | exact ld_st3 | exact ld_st) ?_)
          | (refine gD 68 rfl ?_; refine ck rfl Tryz.func30 kk rfl #[.agg (stC pc h 5 pxid sv v6 hi lo t1 t2 un se at_)] rfl zh (initial_c pc h 5 pxid sv v6 hi lo t1 t2 un se at_ _) ?_; rintro e_ w1 ⟨rfl, hb⟩; refine ⟨_, rfl, ?_⟩; replace I := callK I hb; clear hb)
          | (refine gS rfl ?_; refine sk rfl rfl rfl rfl rfl I zm (by first | exact sr_st) zu ?_; clear I; intro w1 I)
          )
         refine bodyPost_ret (ret_ct rfl _ I.out _ rfl zm Tryz.underlying28 rfl kk) rfl ?_
         exact ⟨_, rfl, Pks_nil _ _, I.out.below⟩
       have e2 : (st == 2) = false := beq_eq_false_iff_ne.mpr s2
       have e4 : (st == 4) = false := beq_eq_false_iff_ne.mpr s4
       have e5 : (st == 5) = false := beq_eq_false_iff_ne.mpr s5
       have eF : recvF ⟨pc, h, st, pxid, sv, ⟨v6, hi, lo⟩, t1, t2, un, se, at_⟩ 6 pxid psv pc ⟨v2, hi2, lo2⟩ n u1 u2 ok now = (⟨pc, h, st, pxid, sv, ⟨v6, hi, lo⟩, t1, t2, un, se, at_⟩, []) := by unfold recvF; rw [if_neg (fun hq => hq ⟨rfl, rfl⟩), if_neg (fun hq => absurd hq.1 (by decide)), if_neg (fun hq => absurd hq.1 (by decide)), if_neg (fun hq => (fun hs => hs.elim s2 (fun hs => hs.elim s4 s5)) hq.2)]
       rw [eF]
       clear eF
       have I := Aside0.mk (Inv.start0 (w0 := w))
       go_enter Tryz.func11, Tryz.ntmps11
       go_wp2_with (first
        | (refine gB rfl ?_; refine bk rfl rfl rfl I ?_; clear I; intro gb w1 I)
        | (refine ak rfl (al_S rfl) I ?_; clear I; intro gb w1 I)
        | (refine gL rfl ?_; refine ll rfl rfl rfl I zm (by first | exact ld_pk | exact ld_pk0 | exact ld_pk1 | exact ld_pk3 | exact ld_st0 | exact ld_st2 | exact ld_st3 | exact ld_st) ?_)
        | (refine gS rfl ?_; refine sk rfl rfl rfl rfl rfl I zm (by first | exact sr_st) zu ?_; clear I; intro w1 I)
        )
       refine bodyPost_ret (ret_ct rfl _ I.out _ rfl zm Tryz.underlying28 rfl kk) rfl ?_
       exact ⟨_, rfl, Pks_nil _ _, I.out.below⟩
     by_cases s2 : st = 2
     · subst s2
       have g2 : (ki == 2) = false := beq_eq_false_iff_ne.mpr k2
       have g5 : (ki == 5) = false := beq_eq_false_iff_ne.mpr k5
       have g6 : (ki == 6) = false := beq_eq_false_iff_ne.mpr k6
       have eF : recvF ⟨pc, h, 2, pxid, sv, ⟨v6, hi, lo⟩, t1, t2, un, se, at_⟩ ki pxid psv pc ⟨v2, hi2, lo2⟩ n u1 u2 ok now = (⟨pc, h, 2, pxid, sv, ⟨v6, hi, lo⟩, t1, t2, un, se, at_⟩, []) := by unfold recvF; rw [if_neg (fun hq => hq ⟨rfl, rfl⟩), if_neg (fun hq => k2 hq.1), if_neg (fun hq => k5 hq.1), if_neg (fun hq => k6 hq.1)]
       rw [eF]
       clear eF
       have I := Aside0.mk (Inv.start0 (w0 := w))
       go_enter Tryz.func11, Tryz.ntmps11
       go_wp2_with (first
        | (refine gB rfl ?_; refine bk rfl rfl rfl I ?_; clear I; intro gb w1 I)
        | (refine ak rfl (al_S rfl) I ?_; clear I; intro gb w1 I)
        | (refine gL rfl ?_; refine ll rfl rfl rfl I zm (by first | exact ld_pk | exact ld_pk0 | exact ld_pk1 | exact ld_pk3 | exact ld_st0 | exact ld_st2 | exact ld_st3 | exact ld_st) ?_)
        | (refine gS rfl ?_; refine sk rfl rfl rfl rfl rfl I zm (by first | exact sr_st) zu ?_; clear I; intro w1 I)
        )
       refine bodyPost_ret (ret_ct rfl _ I.out _ rfl zm Tryz.underlying28 rfl kk) rfl ?_
       exact ⟨_, rfl, Pks_nil _ _, I.out.below⟩
     by_cases s4 : st = 4
     · subst s4
       have g2 : (ki == 2) = false := beq_eq_false_iff_ne.mpr k2
       have g5 : (ki == 5) = false := beq_eq_false_iff_ne.mpr k5
       have g6 : (ki == 6) = false := beq_eq_false_iff_ne.mpr k6
       have eF : recvF ⟨pc, h, 4, pxid, sv, ⟨v6, hi, lo⟩, t1, t2, un, se, at_⟩ ki pxid psv pc ⟨v2, hi2, lo2⟩ n u1 u2 ok now = (⟨pc, h, 4, pxid, sv, ⟨v6, hi, lo⟩, t1, t2, un, se, at_⟩, []) := by unfold recvF; rw [if_neg (fun hq => hq ⟨rfl, rfl⟩), if_neg (fun hq => k2 hq.1), if_neg (fun hq => k5 hq.1), if_neg (fun hq => k6 hq.1)]
       rw [eF]
       clear eF
       have I := Aside0.mk (Inv.start0 (w0 := w))
       go_enter Tryz.func11, Tryz.ntmps11
       go_wp2_with (first
        | (refine gB rfl ?_; refine bk rfl rfl rfl I ?_; clear I; intro gb w1 I)
        | (refine ak rfl (al_S rfl) I ?_; clear I; intro gb w1 I)
        | (refine gL rfl ?_; refine ll rfl rfl rfl I zm (by first | exact ld_pk | exact ld_pk0 | exact ld_pk1 | exact ld_pk3 | exact ld_st0 | exact ld_st2 | exact ld_st3 | exact ld_st) ?_)
        | (refine gS rfl ?_; refine sk rfl rfl rfl rfl rfl I zm (by first | exact sr_st) zu ?_; clear I; intro w1 I)
        )
       refine bodyPost_ret (ret_ct rfl _ I.out _ rfl zm Tryz.underlying28 rfl kk) rfl ?_
       exact ⟨_, rfl, Pks_nil _ _, I.out.below⟩
     by_cases s5 : st = 5
     · subst s5
       have g2 : (ki == 2) = false := beq_eq_false_iff_ne.mpr k2
       have g5 : (ki == 5) = false := beq_eq_false_iff_ne.mpr k5
       have g6 : (ki == 6) = false := beq_eq_false_iff_ne.mpr k6
       have eF : recvF ⟨pc, h, 5, pxid, sv, ⟨v6, hi, lo⟩, t1, t2, un, se, at_⟩ ki pxid psv pc ⟨v2, hi2, lo2⟩ n u1 u2 ok now = (⟨pc, h, 5, pxid, sv, ⟨v6, hi, lo⟩, t1, t2, un, se, at_⟩, []) := by unfold recvF; rw [if_neg (fun hq => hq ⟨rfl, rfl⟩), if_neg (fun hq => k2 hq.1), if_neg (fun hq => k5 hq.1), if_neg (fun hq => k6 hq.1)]
       rw [eF]
       clear eF
       have I := Aside0.mk (Inv.start0 (w0 := w))
       go_enter Tryz.func11, Tryz.ntmps11
       go_wp2_with (first
        | (refine gB rfl ?_; refine bk rfl rfl rfl I ?_; clear I; intro gb w1 I)
        | (refine ak rfl (al_S rfl) I ?_; clear I; intro gb w1 I)
        | (refine gL rfl ?_; refine ll rfl rfl rfl I zm (by first | exact ld_pk | exact ld_pk0 | exact ld_pk1 | exact ld_pk3 | exact ld_st0 | exact ld_st2 | exact ld_st3 | exact ld_st) ?_)
        | (refine gS rfl ?_; refine sk rfl rfl rfl rfl rfl I zm (by first | exact sr_st) zu ?_; clear I; intro w1 I)
        )
       refine bodyPost_ret (ret_ct rfl _ I.out _ rfl zm Tryz.underlying28 rfl kk) rfl ?_
       exact ⟨_, rfl, Pks_nil _ _, I.out.below⟩
     have e2 : (st == 2) = false := beq_eq_false_iff_ne.mpr s2
     have e4 : (st == 4) = false := beq_eq_false_iff_ne.mpr s4
     have e5 : (st == 5) = false := beq_eq_false_iff_ne.mpr s5
     have g2 : (ki == 2) = false := beq_eq_false_iff_ne.mpr k2
     have g5 : (ki == 5) = false := beq_eq_false_iff_ne.mpr k5
     have g6 : (ki == 6) = false := beq_eq_false_iff_ne.mpr k6
     have eF : recvF ⟨pc, h, st, pxid, sv, ⟨v6, hi, lo⟩, t1, t2, un, se, at_⟩ ki pxid psv pc ⟨v2, hi2, lo2⟩ n u1 u2 ok now = (⟨pc, h, st, pxid, sv, ⟨v6, hi, lo⟩, t1, t2, un, se, at_⟩, []) := by unfold recvF; rw [if_neg (fun hq => hq ⟨rfl, rfl⟩), if_neg (fun hq => k2 hq.1), if_neg (fun hq => k5 hq.1), if_neg (fun hq => k6 hq.1)]
     rw [eF]
     clear eF
     have I := Aside0.mk (Inv.start0 (w0 := w))
     go_enter Tryz.func11, Tryz.ntmps11
     go_wp2_with (first
      | (refine gB rfl ?_; refine bk rfl rfl rfl I ?_; clear I; intro gb w1 I)
      | (refine ak rfl (al_S rfl) I ?_; clear I; intro gb w1 I)
      | (refine gL rfl ?_; refine ll rfl rfl rfl I zm (by first | exact ld_pk | exact ld_pk0 | exact ld_pk1 | exact ld_pk3 | exact ld_st0 | exact ld_st2 | exact ld_st3 | exact ld_st) ?_)
      | (refine gS rfl ?_; refine sk rfl rfl rfl rfl rfl I zm (by first | exact sr_st) zu ?_; clear I; intro w1 I)
      )
     refine bodyPost_ret (ret_ct rfl _ I.out _ rfl zm Tryz.underlying28 rfl kk) rfl ?_
     exact ⟨_, rfl, Pks_nil _ _, I.out.below⟩
   have hL0 : ¬ pc.toList = c.toList := fun h2 => hq (bytes_inj h2)
   have hq2 : (pc.toList == c.toList) = false := beq_eq_false_iff_ne.mpr hL0
   have hq3 : (pc.toList != c.toList) = true := bne_iff_ne.mpr hL0
   have eF : recvF ⟨c, h, st, pxid, sv, ⟨v6, hi, lo⟩, t1, t2, un, se, at_⟩ ki pxid psv pc ⟨v2, hi2, lo2⟩ n u1 u2 ok now = (⟨c, h, st, pxid, sv, ⟨v6, hi, lo⟩, t1, t2, un, se, at_⟩, []) := by unfold recvF; rw [if_pos (fun h2 => hq h2.2)]
   rw [eF]
   clear eF
   have I := Aside0.mk (Inv.start0 (w0 := w))
   go_enter Tryz.func11, Tryz.ntmps11
   go_wp2_with (first
    | (refine gB rfl ?_; refine bk rfl rfl rfl I ?_; clear I; intro gb w1 I)
    | (refine ak rfl (al_S rfl) I ?_; clear I; intro gb w1 I)
    | (refine gL rfl ?_; refine ll rfl rfl rfl I zm (by first | exact ld_pk | exact ld_pk0 | exact ld_pk1 | exact ld_pk3 | exact ld_st0 | exact ld_st2 | exact ld_st3 | exact ld_st) ?_)
    | (refine gS rfl ?_; refine sk rfl rfl rfl rfl rfl I zm (by first | exact sr_st) zu ?_; clear I; intro w1 I)
    )
   refine bodyPost_ret (ret_ct rfl _ I.out _ rfl zm Tryz.underlying28 rfl kk) rfl ?_
   exact ⟨_, rfl, Pks_nil _ _, I.out.below⟩
 have hq2 : (pxid == xid) = false := beq_eq_false_iff_ne.mpr hp
 have hq3 : (pxid != xid) = true := bne_iff_ne.mpr hp
 have eF : recvF ⟨c, h, st, xid, sv, ⟨v6, hi, lo⟩, t1, t2, un, se, at_⟩ ki pxid psv pc ⟨v2, hi2, lo2⟩ n u1 u2 ok now = (⟨c, h, st, xid, sv, ⟨v6, hi, lo⟩, t1, t2, un, se, at_⟩, []) := by unfold recvF; rw [if_pos (fun h2 => hp h2.1)]
 rw [eF]
 clear eF
 have I := Aside0.mk (Inv.start0 (w0 := w))
 go_enter Tryz.func11, Tryz.ntmps11
 go_wp2_with (first
  | (refine gB rfl ?_; refine bk rfl rfl rfl I ?_; clear I; intro gb w1 I)
  | (refine ak rfl (al_S rfl) I ?_; clear I; intro gb w1 I)
  | (refine gL rfl ?_; refine ll rfl rfl rfl I zm (by first | exact ld_pk | exact ld_pk0 | exact ld_pk1 | exact ld_pk3 | exact ld_st0 | exact ld_st2 | exact ld_st3 | exact ld_st) ?_)
  | (refine gS rfl ?_; refine sk rfl rfl rfl rfl rfl I zm (by first | exact sr_st) zu ?_; clear I; intro w1 I)
  )
 refine bodyPost_ret (ret_ct rfl _ I.out _ rfl zm Tryz.underlying28 rfl kk) rfl ?_
 exact ⟨_, rfl, Pks_nil _ _, I.out.below⟩
theorem asking_c (s : Stn) (now : Int) (w : World) (hx0 : 0 ≤ s.xid) (hs : 0 ≤ s.se ∧ s.se ≤ 4294967295) (ht : 1 ≤ s.tr ∧ s.tr ≤ 4) (hW : ∃ b, option_Value.f 1000 [s.a] = some (wantF s.a, b)) : Calls Tryz.prog 28 #[.agg (stA s), .int .i64 now] w (Ret (askF s now) w) := by
 have hu26 := Tryz.underlying28
 have hu39 := Tryz.underlying38
 have hu24 := Tryz.underlying26
 obtain ⟨c, h, st, xid, sv, ⟨v6, hi, lo⟩, t1, t2, un, se, at_⟩ := s
 obtain ⟨bW, hW⟩ := hW
 replace hx0 : 0 ≤ xid := hx0
 replace hs : 0 ≤ se ∧ se ≤ 4294967295 := hs
 replace ht : 1 ≤ at_ ∧ at_ ≤ 4 := ht
 have hW := Aside0.mk hW
 show Calls Tryz.prog 28 #[.agg (stC c h st xid sv v6 hi lo t1 t2 un se at_), .int .i64 now] w _
 have h4 : at_ = 1 ∨ at_ = 2 ∨ at_ = 3 ∨ at_ = 4 := by omega
 clear ht
 rcases h4 with rfl | rfl | rfl | rfl
 ·
  by_cases hn : now < min (se + 4) 4294967295
  · have e1 : decide (now < min (se + 4) 4294967295) = true := decide_eq_true hn
    have eF : askF ⟨c, h, st, xid, sv, ⟨v6, hi, lo⟩, t1, t2, un, se, 1⟩ now = (⟨c, h, st, xid, sv, ⟨v6, hi, lo⟩, t1, t2, un, se, 1⟩, []) := by unfold askF; exact if_pos hn
    rw [eF]
    clear eF
    clear hn
    have I := Aside0.mk (Inv.start0 (w0 := w))
    go_enter Tryz.func28, Tryz.ntmps28
    go_wp2_with (first
     | (refine gB rfl ?_; refine bk rfl rfl rfl I ?_; clear I; intro gb w1 I)
     | (refine ak rfl (al_S rfl) I ?_; clear I; intro gb w1 I)
     | (refine gL rfl ?_; refine ll rfl rfl rfl I zm (by first | exact ld_st11 | exact ld_st12 | exact ld_st2 | exact ld_st) ?_)
     | (refine gD 16 rfl ?_; refine ck rfl Tryz.func29 kk rfl #[.int .i64 se, .int .i64 4] rfl kk (after_c se 4 _ hs.1 hs.2 (by omega) (by omega)) ?_; rintro e_ w1 ⟨rfl, rfl⟩; refine ⟨_, rfl, ?_⟩; skip)
     | (refine gS rfl ?_; refine sk rfl rfl rfl rfl rfl I zm (by first | exact sr_st) zu ?_; clear I; intro w1 I)
     )
    refine bodyPost_ret (ret_ct rfl _ I.out _ rfl zm Tryz.underlying28 rfl kk) rfl ?_
    exact ⟨_, rfl, Pks_nil _ _, I.out.below⟩
  have e1 : decide (now < min (se + 4) 4294967295) = false := decide_eq_false hn
  by_cases h1 : st = 1
  · subst h1
    have eF : askF ⟨c, h, 1, xid, sv, ⟨v6, hi, lo⟩, t1, t2, un, se, 1⟩ now = stepF ⟨c, h, 1, xid, sv, ⟨v6, hi, lo⟩, t1, t2, un, se, 1⟩ 1 0 zA [] 1 (1 + 1) now := by unfold askF; exact ((if_neg hn).trans (if_neg (show ¬ (4 : Int) ≤ 1 by decide))).trans (if_pos rfl)
    rw [eF]
    clear eF
    clear hn
    have I := Aside0.mk (Inv.start0 (w0 := w))
    go_enter Tryz.func28, Tryz.ntmps28
    go_wp2_with (first
     | (refine gB rfl ?_; refine bk rfl rfl rfl I ?_; clear I; intro gb w1 I)
     | (refine ak rfl (al_S rfl) I ?_; clear I; intro gb w1 I)
     | (refine gL rfl ?_; refine ll rfl rfl rfl I zm (by first | exact ld_st11 | exact ld_st12 | exact ld_st2 | exact ld_st) ?_)
     | (refine gD 16 rfl ?_; refine ck rfl Tryz.func29 kk rfl #[.int .i64 se, .int .i64 4] rfl kk (after_c se 4 _ hs.1 hs.2 (by omega) (by omega)) ?_; rintro e_ w1 ⟨rfl, rfl⟩; refine ⟨_, rfl, ?_⟩; skip)
     | (refine gS rfl ?_; refine sk rfl rfl rfl rfl rfl I zm (by first | exact sr_st) zu ?_; clear I; intro w1 I)
     )
    have IS := Aside0.mk (I.out.sub (.cons _ (.cons_cons _ .slnil))).drew
    refine draw_ (Inv _ w [_] _) [11] kk rfl IS.out ?_
    have I2 := Aside0.mk I.out.drew
    clear I
    have I := I2
    clear I2
    refine ta1 (i := 0) rfl rfl kk rfl rfl IS.out zm (by exact ld_st) ?_ (ha := by (go_simp; rfl))
    refine pu1 (i := 2) rfl rfl kk ?_ (ha := by (go_simp; rfl))
    refine ta1 (i := 3) rfl rfl kk rfl rfl IS.out zm (by exact ld_st2) ?_ (ha := by (go_simp; rfl))
    refine pu1 (i := 4) rfl rfl kk ?_ (ha := by (go_simp; rfl))
    refine ta1 (i := 5) rfl rfl kk rfl rfl IS.out zm (by exact ld_st12) ?_ (ha := by (go_simp; rfl))
    refine pu1 (i := 6) rfl rfl kk ?_ (ha := by (go_simp; rfl))
    refine pu1 (i := 7) rfl rfl kk ?_ (ha := by (go_simp; rfl))
    refine ca1 (i := 1) rfl rfl kk (by decide) Tryz.func27 kk rfl #[] rfl zh ?_
    refine (discover_c _).mono ?_
    rintro e_ w1 ⟨rfl, hb⟩
    have I2 := Aside0.mk (I.out.call hb)
    clear I hb
    have I := I2
    clear I2
    clear IS
    have IS := Aside0.mk ((I.out.imp (fun _ _ => trivial)).sub (.cons _ (.cons_cons _ .slnil)))
    refine ⟨_, rfl, IS.out, ?_⟩
    refine ca1 (i := 8) rfl rfl kk (by decide) Tryz.func26 kk rfl #[.agg (stC c h 1 xid sv v6 hi lo t1 t2 un se 1), .agg (pkC 1 0 0 (⟨#[]⟩ : ByteArray) false 0 0 false 0 0 false 0 0 false (.slice none 0 0)), .int .i64 (1), .int .i64 (1 + 1), .int .i64 now] rfl zh ?_
    refine (step_c ⟨c, h, 1, xid, sv, ⟨v6, hi, lo⟩, t1, t2, un, se, 1⟩ 1 0 zA none 0 [] (fun _ => False) (1) (1 + 1) now _ hx0 (foot_no _ none 0) (Nat.le_refl _) okO_nil).mono ?_
    rintro e_ w1 ⟨v, rfl, hf, hb⟩
    have I2 := Aside0.mk (I.out.addNew hb hf (fun k hk _ => hk.elim False.elim (fun h_ => I.out.new_out k h_)))
    clear hf
    clear I hb
    have I := I2
    clear I2
    clear IS
    have IS := Aside0.mk ((I.out.imp (fun _ _ => trivial)).sub (.cons _ (.cons_cons _ .slnil)))
    refine ⟨_, rfl, IS.out, ?_⟩
    refine pu1 (i := 9) rfl rfl kk ?_ (ha := by (go_simp; rfl))
    refine pu1 (i := 10) rfl rfl kk ?_ (ha := by (go_simp; rfl))
    refine sl1 (i := 11) rfl rfl kk (by decide) rfl rfl rfl I.out zm (by first | exact sr_st) zu (fun w1 hI => ?_)
    clear I
    have I := Aside0.mk hI
    clear hI
    refine pu1 (i := 12) rfl rfl kk ?_ (ha := by (go_simp; rfl))
    refine do1 kk ?_
    clear IS
    try go_wp2
    refine bodyPost_ret (ret_ct rfl _ I.out _ rfl zm Tryz.underlying28 rfl kk) rfl ?_
    exact ⟨_, rfl, foot_new (I.out.foot.imp (fun W hW => hW.2)), I.out.below⟩
  have eF : askF ⟨c, h, st, xid, sv, ⟨v6, hi, lo⟩, t1, t2, un, se, 1⟩ now = stepF ⟨c, h, st, xid, sv, ⟨v6, hi, lo⟩, t1, t2, un, se, 1⟩ 3 sv zA [⟨50, wantF ⟨v6, hi, lo⟩⟩] st (1 + 1) now := by unfold askF; exact ((if_neg hn).trans (if_neg (show ¬ (4 : Int) ≤ 1 by decide))).trans (if_neg h1)
  rw [eF]
  clear eF
  replace h1 : (st == 1) = false := beq_eq_false_iff_ne.mpr h1
  clear hn
  have I := Aside0.mk (Inv.start0 (w0 := w))
  go_enter Tryz.func28, Tryz.ntmps28
  go_wp2_with (first
   | (refine gB rfl ?_; refine bk rfl rfl rfl I ?_; clear I; intro gb w1 I)
   | (refine ak rfl (al_S rfl) I ?_; clear I; intro gb w1 I)
   | (refine gL rfl ?_; refine ll rfl rfl rfl I zm (by first | exact ld_st11 | exact ld_st12 | exact ld_st2 | exact ld_st) ?_)
   | (refine gD 16 rfl ?_; refine ck rfl Tryz.func29 kk rfl #[.int .i64 se, .int .i64 4] rfl kk (after_c se 4 _ hs.1 hs.2 (by omega) (by omega)) ?_; rintro e_ w1 ⟨rfl, rfl⟩; refine ⟨_, rfl, ?_⟩; skip)
   | (refine gS rfl ?_; refine sk rfl rfl rfl rfl rfl I zm (by first | exact sr_st) zu ?_; clear I; intro w1 I)
   )
  have IS := Aside0.mk (I.out.sub (.cons _ (.cons_cons _ .slnil))).drew
  refine draw_ (Inv _ w [_] _) [12] kk rfl IS.out ?_
  have I2 := Aside0.mk I.out.drew
  clear I
  have I := I2
  clear I2
  refine ta1 (i := 0) rfl rfl kk rfl rfl IS.out zm (by exact ld_st) ?_ (ha := by (go_simp; rfl))
  refine ta1 (i := 1) rfl rfl kk rfl rfl IS.out zm (by exact ld_st) ?_ (ha := by (go_simp; rfl))
  refine pu1 (i := 3) rfl rfl kk ?_ (ha := by (go_simp; rfl))
  refine ta1 (i := 4) rfl rfl kk rfl rfl IS.out zm (by exact ld_st2) ?_ (ha := by (go_simp; rfl))
  refine pu1 (i := 5) rfl rfl kk ?_ (ha := by (go_simp; rfl))
  refine ta1 (i := 6) rfl rfl kk rfl rfl IS.out zm (by exact ld_st12) ?_ (ha := by (go_simp; rfl))
  refine pu1 (i := 7) rfl rfl kk ?_ (ha := by (go_simp; rfl))
  refine pu1 (i := 8) rfl rfl kk ?_ (ha := by (go_simp; rfl))
  refine ca1 (i := 2) rfl rfl kk (by decide) Tryz.func54 kk rfl #[.agg (stC c h st xid sv v6 hi lo t1 t2 un se 1)] rfl zh ?_
  refine (request_c c h st xid sv v6 hi lo t1 t2 un se 1 1000 (wantF ⟨v6, hi, lo⟩) bW _ hW.out).mono ?_
  rintro e_ w1 ⟨g, rfl, hf, hb⟩
  have I2 := Aside0.mk (I.out.addNew hb hf (fun k hk _ => I.out.new_out k hk))
  clear hf
  clear I hb
  have I := I2
  clear I2
  clear IS
  have IS := Aside0.mk ((I.out.imp (fun _ _ => trivial)).sub (.cons _ (.cons_cons _ .slnil)))
  refine ⟨_, rfl, IS.out, ?_⟩
  refine ca1 (i := 9) rfl rfl kk (by decide) Tryz.func26 kk rfl #[.agg (stC c h st xid sv v6 hi lo t1 t2 un se 1), .agg (pkC 3 0 sv (⟨#[]⟩ : ByteArray) false 0 0 false 0 0 false 0 0 false (.slice (some ⟨g, 0, none⟩) 1 1)), .int .i64 (st), .int .i64 (1 + 1), .int .i64 now] rfl zh ?_
  refine (step_c ⟨c, h, st, xid, sv, ⟨v6, hi, lo⟩, t1, t2, un, se, 1⟩ 3 sv zA (some ⟨g, 0, none⟩) 1 [⟨50, wantF ⟨v6, hi, lo⟩⟩] _ (st) (1 + 1) now _ hx0 (I.out.foot.imp (fun W hW => hW.2)) (Nat.le_refl _) (okO_want _)).mono ?_
  rintro e_ w1 ⟨v, rfl, hf, hb⟩
  have I2 := Aside0.mk (I.out.addNew hb hf (fun k hk _ => hk.elim id (fun h_ => I.out.new_out k h_)))
  clear hf
  clear I hb
  have I := I2
  clear I2
  clear IS
  have IS := Aside0.mk ((I.out.imp (fun _ _ => trivial)).sub (.cons _ (.cons_cons _ .slnil)))
  refine ⟨_, rfl, IS.out, ?_⟩
  refine pu1 (i := 10) rfl rfl kk ?_ (ha := by (go_simp; rfl))
  refine pu1 (i := 11) rfl rfl kk ?_ (ha := by (go_simp; rfl))
  refine sl1 (i := 12) rfl rfl kk (by decide) rfl rfl rfl I.out zm (by first | exact sr_st) zu (fun w1 hI => ?_)
  clear I
  have I := Aside0.mk hI
  clear hI
  refine pu1 (i := 13) rfl rfl kk ?_ (ha := by (go_simp; rfl))
  refine do1 kk ?_
  clear IS
  try go_wp2
  refine bodyPost_ret (ret_ct rfl _ I.out _ rfl zm Tryz.underlying28 rfl kk) rfl ?_
  exact ⟨_, rfl, foot_new (I.out.foot.imp (fun W hW => hW.2)), I.out.below⟩
 ·
  by_cases hn : now < min (se + 8) 4294967295
  · have e1 : decide (now < min (se + 8) 4294967295) = true := decide_eq_true hn
    have eF : askF ⟨c, h, st, xid, sv, ⟨v6, hi, lo⟩, t1, t2, un, se, 2⟩ now = (⟨c, h, st, xid, sv, ⟨v6, hi, lo⟩, t1, t2, un, se, 2⟩, []) := by unfold askF; exact if_pos hn
    rw [eF]
    clear eF
    clear hn
    have I := Aside0.mk (Inv.start0 (w0 := w))
    go_enter Tryz.func28, Tryz.ntmps28
    go_wp2_with (first
     | (refine gB rfl ?_; refine bk rfl rfl rfl I ?_; clear I; intro gb w1 I)
     | (refine ak rfl (al_S rfl) I ?_; clear I; intro gb w1 I)
     | (refine gL rfl ?_; refine ll rfl rfl rfl I zm (by first | exact ld_st11 | exact ld_st12 | exact ld_st2 | exact ld_st) ?_)
     | (refine gD 16 rfl ?_; refine ck rfl Tryz.func29 kk rfl #[.int .i64 se, .int .i64 8] rfl kk (after_c se 8 _ hs.1 hs.2 (by omega) (by omega)) ?_; rintro e_ w1 ⟨rfl, rfl⟩; refine ⟨_, rfl, ?_⟩; skip)
     | (refine gS rfl ?_; refine sk rfl rfl rfl rfl rfl I zm (by first | exact sr_st) zu ?_; clear I; intro w1 I)
     )
    refine bodyPost_ret (ret_ct rfl _ I.out _ rfl zm Tryz.underlying28 rfl kk) rfl ?_
    exact ⟨_, rfl, Pks_nil _ _, I.out.below⟩
  have e1 : decide (now < min (se + 8) 4294967295) = false := decide_eq_false hn
  by_cases h1 : st = 1
  · subst h1
    have eF : askF ⟨c, h, 1, xid, sv, ⟨v6, hi, lo⟩, t1, t2, un, se, 2⟩ now = stepF ⟨c, h, 1, xid, sv, ⟨v6, hi, lo⟩, t1, t2, un, se, 2⟩ 1 0 zA [] 1 (2 + 1) now := by unfold askF; exact ((if_neg hn).trans (if_neg (show ¬ (4 : Int) ≤ 2 by decide))).trans (if_pos rfl)
    rw [eF]
    clear eF
    clear hn
    have I := Aside0.mk (Inv.start0 (w0 := w))
    go_enter Tryz.func28, Tryz.ntmps28
    go_wp2_with (first
     | (refine gB rfl ?_; refine bk rfl rfl rfl I ?_; clear I; intro gb w1 I)
     | (refine ak rfl (al_S rfl) I ?_; clear I; intro gb w1 I)
     | (refine gL rfl ?_; refine ll rfl rfl rfl I zm (by first | exact ld_st11 | exact ld_st12 | exact ld_st2 | exact ld_st) ?_)
     | (refine gD 16 rfl ?_; refine ck rfl Tryz.func29 kk rfl #[.int .i64 se, .int .i64 8] rfl kk (after_c se 8 _ hs.1 hs.2 (by omega) (by omega)) ?_; rintro e_ w1 ⟨rfl, rfl⟩; refine ⟨_, rfl, ?_⟩; skip)
     | (refine gS rfl ?_; refine sk rfl rfl rfl rfl rfl I zm (by first | exact sr_st) zu ?_; clear I; intro w1 I)
     )
    have IS := Aside0.mk (I.out.sub (.cons _ (.cons_cons _ .slnil))).drew
    refine draw_ (Inv _ w [_] _) [11] kk rfl IS.out ?_
    have I2 := Aside0.mk I.out.drew
    clear I
    have I := I2
    clear I2
    refine ta1 (i := 0) rfl rfl kk rfl rfl IS.out zm (by exact ld_st) ?_ (ha := by (go_simp; rfl))
    refine pu1 (i := 2) rfl rfl kk ?_ (ha := by (go_simp; rfl))
    refine ta1 (i := 3) rfl rfl kk rfl rfl IS.out zm (by exact ld_st2) ?_ (ha := by (go_simp; rfl))
    refine pu1 (i := 4) rfl rfl kk ?_ (ha := by (go_simp; rfl))
    refine ta1 (i := 5) rfl rfl kk rfl rfl IS.out zm (by exact ld_st12) ?_ (ha := by (go_simp; rfl))
    refine pu1 (i := 6) rfl rfl kk ?_ (ha := by (go_simp; rfl))
    refine pu1 (i := 7) rfl rfl kk ?_ (ha := by (go_simp; rfl))
    refine ca1 (i := 1) rfl rfl kk (by decide) Tryz.func27 kk rfl #[] rfl zh ?_
    refine (discover_c _).mono ?_
    rintro e_ w1 ⟨rfl, hb⟩
    have I2 := Aside0.mk (I.out.call hb)
    clear I hb
    have I := I2
    clear I2
    clear IS
    have IS := Aside0.mk ((I.out.imp (fun _ _ => trivial)).sub (.cons _ (.cons_cons _ .slnil)))
    refine ⟨_, rfl, IS.out, ?_⟩
    refine ca1 (i := 8) rfl rfl kk (by decide) Tryz.func26 kk rfl #[.agg (stC c h 1 xid sv v6 hi lo t1 t2 un se 2), .agg (pkC 1 0 0 (⟨#[]⟩ : ByteArray) false 0 0 false 0 0 false 0 0 false (.slice none 0 0)), .int .i64 (1), .int .i64 (2 + 1), .int .i64 now] rfl zh ?_
    refine (step_c ⟨c, h, 1, xid, sv, ⟨v6, hi, lo⟩, t1, t2, un, se, 2⟩ 1 0 zA none 0 [] (fun _ => False) (1) (2 + 1) now _ hx0 (foot_no _ none 0) (Nat.le_refl _) okO_nil).mono ?_
    rintro e_ w1 ⟨v, rfl, hf, hb⟩
    have I2 := Aside0.mk (I.out.addNew hb hf (fun k hk _ => hk.elim False.elim (fun h_ => I.out.new_out k h_)))
    clear hf
    clear I hb
    have I := I2
    clear I2
    clear IS
    have IS := Aside0.mk ((I.out.imp (fun _ _ => trivial)).sub (.cons _ (.cons_cons _ .slnil)))
    refine ⟨_, rfl, IS.out, ?_⟩
    refine pu1 (i := 9) rfl rfl kk ?_ (ha := by (go_simp; rfl))
    refine pu1 (i := 10) rfl rfl kk ?_ (ha := by (go_simp; rfl))
    refine sl1 (i := 11) rfl rfl kk (by decide) rfl rfl rfl I.out zm (by first | exact sr_st) zu (fun w1 hI => ?_)
    clear I
    have I := Aside0.mk hI
    clear hI
    refine pu1 (i := 12) rfl rfl kk ?_ (ha := by (go_simp; rfl))
    refine do1 kk ?_
    clear IS
    try go_wp2
    refine bodyPost_ret (ret_ct rfl _ I.out _ rfl zm Tryz.underlying28 rfl kk) rfl ?_
    exact ⟨_, rfl, foot_new (I.out.foot.imp (fun W hW => hW.2)), I.out.below⟩
  have eF : askF ⟨c, h, st, xid, sv, ⟨v6, hi, lo⟩, t1, t2, un, se, 2⟩ now = stepF ⟨c, h, st, xid, sv, ⟨v6, hi, lo⟩, t1, t2, un, se, 2⟩ 3 sv zA [⟨50, wantF ⟨v6, hi, lo⟩⟩] st (2 + 1) now := by unfold askF; exact ((if_neg hn).trans (if_neg (show ¬ (4 : Int) ≤ 2 by decide))).trans (if_neg h1)
  rw [eF]
  clear eF
  replace h1 : (st == 1) = false := beq_eq_false_iff_ne.mpr h1
  clear hn
  have I := Aside0.mk (Inv.start0 (w0 := w))
  go_enter Tryz.func28, Tryz.ntmps28
  go_wp2_with (first
   | (refine gB rfl ?_; refine bk rfl rfl rfl I ?_; clear I; intro gb w1 I)
   | (refine ak rfl (al_S rfl) I ?_; clear I; intro gb w1 I)
   | (refine gL rfl ?_; refine ll rfl rfl rfl I zm (by first | exact ld_st11 | exact ld_st12 | exact ld_st2 | exact ld_st) ?_)
   | (refine gD 16 rfl ?_; refine ck rfl Tryz.func29 kk rfl #[.int .i64 se, .int .i64 8] rfl kk (after_c se 8 _ hs.1 hs.2 (by omega) (by omega)) ?_; rintro e_ w1 ⟨rfl, rfl⟩; refine ⟨_, rfl, ?_⟩; skip)
   | (refine gS rfl ?_; refine sk rfl rfl rfl rfl rfl I zm (by first | exact sr_st) zu ?_; clear I; intro w1 I)
   )
  have IS := Aside0.mk (I.out.sub (.cons _ (.cons_cons _ .slnil))).drew
  refine draw_ (Inv _ w [_] _) [12] kk rfl IS.out ?_
  have I2 := Aside0.mk I.out.drew
  clear I
  have I := I2
  clear I2
  refine ta1 (i := 0) rfl rfl kk rfl rfl IS.out zm (by exact ld_st) ?_ (ha := by (go_simp; rfl))
  refine ta1 (i := 1) rfl rfl kk rfl rfl IS.out zm (by exact ld_st) ?_ (ha := by (go_simp; rfl))
  refine pu1 (i := 3) rfl rfl kk ?_ (ha := by (go_simp; rfl))
  refine ta1 (i := 4) rfl rfl kk rfl rfl IS.out zm (by exact ld_st2) ?_ (ha := by (go_simp; rfl))
  refine pu1 (i := 5) rfl rfl kk ?_ (ha := by (go_simp; rfl))
  refine ta1 (i := 6) rfl rfl kk rfl rfl IS.out zm (by exact ld_st12) ?_ (ha := by (go_simp; rfl))
  refine pu1 (i := 7) rfl rfl kk ?_ (ha := by (go_simp; rfl))
  refine pu1 (i := 8) rfl rfl kk ?_ (ha := by (go_simp; rfl))
  refine ca1 (i := 2) rfl rfl kk (by decide) Tryz.func54 kk rfl #[.agg (stC c h st xid sv v6 hi lo t1 t2 un se 2)] rfl zh ?_
  refine (request_c c h st xid sv v6 hi lo t1 t2 un se 2 1000 (wantF ⟨v6, hi, lo⟩) bW _ hW.out).mono ?_
  rintro e_ w1 ⟨g, rfl, hf, hb⟩
  have I2 := Aside0.mk (I.out.addNew hb hf (fun k hk _ => I.out.new_out k hk))
  clear hf
  clear I hb
  have I := I2
  clear I2
  clear IS
  have IS := Aside0.mk ((I.out.imp (fun _ _ => trivial)).sub (.cons _ (.cons_cons _ .slnil)))
  refine ⟨_, rfl, IS.out, ?_⟩
  refine ca1 (i := 9) rfl rfl kk (by decide) Tryz.func26 kk rfl #[.agg (stC c h st xid sv v6 hi lo t1 t2 un se 2), .agg (pkC 3 0 sv (⟨#[]⟩ : ByteArray) false 0 0 false 0 0 false 0 0 false (.slice (some ⟨g, 0, none⟩) 1 1)), .int .i64 (st), .int .i64 (2 + 1), .int .i64 now] rfl zh ?_
  refine (step_c ⟨c, h, st, xid, sv, ⟨v6, hi, lo⟩, t1, t2, un, se, 2⟩ 3 sv zA (some ⟨g, 0, none⟩) 1 [⟨50, wantF ⟨v6, hi, lo⟩⟩] _ (st) (2 + 1) now _ hx0 (I.out.foot.imp (fun W hW => hW.2)) (Nat.le_refl _) (okO_want _)).mono ?_
  rintro e_ w1 ⟨v, rfl, hf, hb⟩
  have I2 := Aside0.mk (I.out.addNew hb hf (fun k hk _ => hk.elim id (fun h_ => I.out.new_out k h_)))
  clear hf
  clear I hb
  have I := I2
  clear I2
  clear IS
  have IS := Aside0.mk ((I.out.imp (fun _ _ => trivial)).sub (.cons _ (.cons_cons _ .slnil)))
  refine ⟨_, rfl, IS.out, ?_⟩
  refine pu1 (i := 10) rfl rfl kk ?_ (ha := by (go_simp; rfl))
  refine pu1 (i := 11) rfl rfl kk ?_ (ha := by (go_simp; rfl))
  refine sl1 (i := 12) rfl rfl kk (by decide) rfl rfl rfl I.out zm (by first | exact sr_st) zu (fun w1 hI => ?_)
  clear I
  have I := Aside0.mk hI
  clear hI
  refine pu1 (i := 13) rfl rfl kk ?_ (ha := by (go_simp; rfl))
  refine do1 kk ?_
  clear IS
  try go_wp2
  refine bodyPost_ret (ret_ct rfl _ I.out _ rfl zm Tryz.underlying28 rfl kk) rfl ?_
  exact ⟨_, rfl, foot_new (I.out.foot.imp (fun W hW => hW.2)), I.out.below⟩
 ·
  by_cases hn : now < min (se + 16) 4294967295
  · have e1 : decide (now < min (se + 16) 4294967295) = true := decide_eq_true hn
    have eF : askF ⟨c, h, st, xid, sv, ⟨v6, hi, lo⟩, t1, t2, un, se, 3⟩ now = (⟨c, h, st, xid, sv, ⟨v6, hi, lo⟩, t1, t2, un, se, 3⟩, []) := by unfold askF; exact if_pos hn
    rw [eF]
    clear eF
    clear hn
    have I := Aside0.mk (Inv.start0 (w0 := w))
    go_enter Tryz.func28, Tryz.ntmps28
    go_wp2_with (first
     | (refine gB rfl ?_; refine bk rfl rfl rfl I ?_; clear I; intro gb w1 I)
     | (refine ak rfl (al_S rfl) I ?_; clear I; intro gb w1 I)
     | (refine gL rfl ?_; refine ll rfl rfl rfl I zm (by first | exact ld_st11 | exact ld_st12 | exact ld_st2 | exact ld_st) ?_)
     | (refine gD 16 rfl ?_; refine ck rfl Tryz.func29 kk rfl #[.int .i64 se, .int .i64 16] rfl kk (after_c se 16 _ hs.1 hs.2 (by omega) (by omega)) ?_; rintro e_ w1 ⟨rfl, rfl⟩; refine ⟨_, rfl, ?_⟩; skip)
     | (refine gS rfl ?_; refine sk rfl rfl rfl rfl rfl I zm (by first | exact sr_st) zu ?_; clear I; intro w1 I)
     )
    refine bodyPost_ret (ret_ct rfl _ I.out _ rfl zm Tryz.underlying28 rfl kk) rfl ?_
    exact ⟨_, rfl, Pks_nil _ _, I.out.below⟩
  have e1 : decide (now < min (se + 16) 4294967295) = false := decide_eq_false hn
  by_cases h1 : st = 1
  · subst h1
    have eF : askF ⟨c, h, 1, xid, sv, ⟨v6, hi, lo⟩, t1, t2, un, se, 3⟩ now = stepF ⟨c, h, 1, xid, sv, ⟨v6, hi, lo⟩, t1, t2, un, se, 3⟩ 1 0 zA [] 1 (3 + 1) now := by unfold askF; exact ((if_neg hn).trans (if_neg (show ¬ (4 : Int) ≤ 3 by decide))).trans (if_pos rfl)
    rw [eF]
    clear eF
    clear hn
    have I := Aside0.mk (Inv.start0 (w0 := w))
    go_enter Tryz.func28, Tryz.ntmps28
    go_wp2_with (first
     | (refine gB rfl ?_; refine bk rfl rfl rfl I ?_; clear I; intro gb w1 I)
     | (refine ak rfl (al_S rfl) I ?_; clear I; intro gb w1 I)
     | (refine gL rfl ?_; refine ll rfl rfl rfl I zm (by first | exact ld_st11 | exact ld_st12 | exact ld_st2 | exact ld_st) ?_)
     | (refine gD 16 rfl ?_; refine ck rfl Tryz.func29 kk rfl #[.int .i64 se, .int .i64 16] rfl kk (after_c se 16 _ hs.1 hs.2 (by omega) (by omega)) ?_; rintro e_ w1 ⟨rfl, rfl⟩; refine ⟨_, rfl, ?_⟩; skip)
     | (refine gS rfl ?_; refine sk rfl rfl rfl rfl rfl I zm (by first | exact sr_st) zu ?_; clear I; intro w1 I)
     )
    have IS := Aside0.mk (I.out.sub (.cons _ (.cons_cons _ .slnil))).drew
    refine draw_ (Inv _ w [_] _) [11] kk rfl IS.out ?_
    have I2 := Aside0.mk I.out.drew
    clear I
    have I := I2
    clear I2
    refine ta1 (i := 0) rfl rfl kk rfl rfl IS.out zm (by exact ld_st) ?_ (ha := by (go_simp; rfl))
    refine pu1 (i := 2) rfl rfl kk ?_ (ha := by (go_simp; rfl))
    refine ta1 (i := 3) rfl rfl kk rfl rfl IS.out zm (by exact ld_st2) ?_ (ha := by (go_simp; rfl))
    refine pu1 (i := 4) rfl rfl kk ?_ (ha := by (go_simp; rfl))
    refine ta1 (i := 5) rfl rfl kk rfl rfl IS.out zm (by exact ld_st12) ?_ (ha := by (go_simp; rfl))
    refine pu1 (i := 6) rfl rfl kk ?_ (ha := by (go_simp; rfl))
    refine pu1 (i := 7) rfl rfl kk ?_ (ha := by (go_simp; rfl))
    refine ca1 (i := 1) rfl rfl kk (by decide) Tryz.func27 kk rfl #[] rfl zh ?_
    refine (discover_c _).mono ?_
    rintro e_ w1 ⟨rfl, hb⟩
    have I2 := Aside0.mk (I.out.call hb)
    clear I hb
    have I := I2
    clear I2
    clear IS
    have IS := Aside0.mk ((I.out.imp (fun _ _ => trivial)).sub (.cons _ (.cons_cons _ .slnil)))
    refine ⟨_, rfl, IS.out, ?_⟩
    refine ca1 (i := 8) rfl rfl kk (by decide) Tryz.func26 kk rfl #[.agg (stC c h 1 xid sv v6 hi lo t1 t2 un se 3), .agg (pkC 1 0 0 (⟨#[]⟩ : ByteArray) false 0 0 false 0 0 false 0 0 false (.slice none 0 0)), .int .i64 (1), .int .i64 (3 + 1), .int .i64 now] rfl zh ?_
    refine (step_c ⟨c, h, 1, xid, sv, ⟨v6, hi, lo⟩, t1, t2, un, se, 3⟩ 1 0 zA none 0 [] (fun _ => False) (1) (3 + 1) now _ hx0 (foot_no _ none 0) (Nat.le_refl _) okO_nil).mono ?_
    rintro e_ w1 ⟨v, rfl, hf, hb⟩
    have I2 := Aside0.mk (I.out.addNew hb hf (fun k hk _ => hk.elim False.elim (fun h_ => I.out.new_out k h_)))
    clear hf
    clear I hb
    have I := I2
    clear I2
    clear IS
    have IS := Aside0.mk ((I.out.imp (fun _ _ => trivial)).sub (.cons _ (.cons_cons _ .slnil)))
    refine ⟨_, rfl, IS.out, ?_⟩
    refine pu1 (i := 9) rfl rfl kk ?_ (ha := by (go_simp; rfl))
    refine pu1 (i := 10) rfl rfl kk ?_ (ha := by (go_simp; rfl))
    refine sl1 (i := 11) rfl rfl kk (by decide) rfl rfl rfl I.out zm (by first | exact sr_st) zu (fun w1 hI => ?_)
    clear I
    have I := Aside0.mk hI
    clear hI
    refine pu1 (i := 12) rfl rfl kk ?_ (ha := by (go_simp; rfl))
    refine do1 kk ?_
    clear IS
    try go_wp2
    refine bodyPost_ret (ret_ct rfl _ I.out _ rfl zm Tryz.underlying28 rfl kk) rfl ?_
    exact ⟨_, rfl, foot_new (I.out.foot.imp (fun W hW => hW.2)), I.out.below⟩
  have eF : askF ⟨c, h, st, xid, sv, ⟨v6, hi, lo⟩, t1, t2, un, se, 3⟩ now = stepF ⟨c, h, st, xid, sv, ⟨v6, hi, lo⟩, t1, t2, un, se, 3⟩ 3 sv zA [⟨50, wantF ⟨v6, hi, lo⟩⟩] st (3 + 1) now := by unfold askF; exact ((if_neg hn).trans (if_neg (show ¬ (4 : Int) ≤ 3 by decide))).trans (if_neg h1)
  rw [eF]
  clear eF
  replace h1 : (st == 1) = false := beq_eq_false_iff_ne.mpr h1
  clear hn
  have I := Aside0.mk (Inv.start0 (w0 := w))
  go_enter Tryz.func28, Tryz.ntmps28
  go_wp2_with (first
   | (refine gB rfl ?_; refine bk rfl rfl rfl I ?_; clear I; intro gb w1 I)
   | (refine ak rfl (al_S rfl) I ?_; clear I; intro gb w1 I)
   | (refine gL rfl ?_; refine ll rfl rfl rfl I zm (by first | exact ld_st11 | exact ld_st12 | exact ld_st2 | exact ld_st) ?_)
   | (refine gD 16 rfl ?_; refine ck rfl Tryz.func29 kk rfl #[.int .i64 se, .int .i64 16] rfl kk (after_c se 16 _ hs.1 hs.2 (by omega) (by omega)) ?_; rintro e_ w1 ⟨rfl, rfl⟩; refine ⟨_, rfl, ?_⟩; skip)
   | (refine gS rfl ?_; refine sk rfl rfl rfl rfl rfl I zm (by first | exact sr_st) zu ?_; clear I; intro w1 I)
   )
  have IS := Aside0.mk (I.out.sub (.cons _ (.cons_cons _ .slnil))).drew
  refine draw_ (Inv _ w [_] _) [12] kk rfl IS.out ?_
  have I2 := Aside0.mk I.out.drew
  clear I
  have I := I2
  clear I2
  refine ta1 (i := 0) rfl rfl kk rfl rfl IS.out zm (by exact ld_st) ?_ (ha := by (go_simp; rfl))
  refine ta1 (i := 1) rfl rfl kk rfl rfl IS.out zm (by exact ld_st) ?_ (ha := by (go_simp; rfl))
  refine pu1 (i := 3) rfl rfl kk ?_ (ha := by (go_simp; rfl))
  refine ta1 (i := 4) rfl rfl kk rfl rfl IS.out zm (by exact ld_st2) ?_ (ha := by (go_simp; rfl))
  refine pu1 (i := 5) rfl rfl kk ?_ (ha := by (go_simp; rfl))
  refine ta1 (i := 6) rfl rfl kk rfl rfl IS.out zm (by exact ld_st12) ?_ (ha := by (go_simp; rfl))
  refine pu1 (i := 7) rfl rfl kk ?_ (ha := by (go_simp; rfl))
  refine pu1 (i := 8) rfl rfl kk ?_ (ha := by (go_simp; rfl))
  refine ca1 (i := 2) rfl rfl kk (by decide) Tryz.func54 kk rfl #[.agg (stC c h st xid sv v6 hi lo t1 t2 un se 3)] rfl zh ?_
  refine (request_c c h st xid sv v6 hi lo t1 t2 un se 3 1000 (wantF ⟨v6, hi, lo⟩) bW _ hW.out).mono ?_
  rintro e_ w1 ⟨g, rfl, hf, hb⟩
  have I2 := Aside0.mk (I.out.addNew hb hf (fun k hk _ => I.out.new_out k hk))
  clear hf
  clear I hb
  have I := I2
  clear I2
  clear IS
  have IS := Aside0.mk ((I.out.imp (fun _ _ => trivial)).sub (.cons _ (.cons_cons _ .slnil)))
  refine ⟨_, rfl, IS.out, ?_⟩
  refine ca1 (i := 9) rfl rfl kk (by decide) Tryz.func26 kk rfl #[.agg (stC c h st xid sv v6 hi lo t1 t2 un se 3), .agg (pkC 3 0 sv (⟨#[]⟩ : ByteArray) false 0 0 false 0 0 false 0 0 false (.slice (some ⟨g, 0, none⟩) 1 1)), .int .i64 (st), .int .i64 (3 + 1), .int .i64 now] rfl zh ?_
  refine (step_c ⟨c, h, st, xid, sv, ⟨v6, hi, lo⟩, t1, t2, un, se, 3⟩ 3 sv zA (some ⟨g, 0, none⟩) 1 [⟨50, wantF ⟨v6, hi, lo⟩⟩] _ (st) (3 + 1) now _ hx0 (I.out.foot.imp (fun W hW => hW.2)) (Nat.le_refl _) (okO_want _)).mono ?_
  rintro e_ w1 ⟨v, rfl, hf, hb⟩
  have I2 := Aside0.mk (I.out.addNew hb hf (fun k hk _ => hk.elim id (fun h_ => I.out.new_out k h_)))
  clear hf
  clear I hb
  have I := I2
  clear I2
  clear IS
  have IS := Aside0.mk ((I.out.imp (fun _ _ => trivial)).sub (.cons _ (.cons_cons _ .slnil)))
  refine ⟨_, rfl, IS.out, ?_⟩
  refine pu1 (i := 10) rfl rfl kk ?_ (ha := by (go_simp; rfl))
  refine pu1 (i := 11) rfl rfl kk ?_ (ha := by (go_simp; rfl))
  refine sl1 (i := 12) rfl rfl kk (by decide) rfl rfl rfl I.out zm (by first | exact sr_st) zu (fun w1 hI => ?_)
  clear I
  have I := Aside0.mk hI
  clear hI
  refine pu1 (i := 13) rfl rfl kk ?_ (ha := by (go_simp; rfl))
  refine do1 kk ?_
  clear IS
  try go_wp2
  refine bodyPost_ret (ret_ct rfl _ I.out _ rfl zm Tryz.underlying28 rfl kk) rfl ?_
  exact ⟨_, rfl, foot_new (I.out.foot.imp (fun W hW => hW.2)), I.out.below⟩
 ·
  by_cases hn : now < min (se + 32) 4294967295
  · have e1 : decide (now < min (se + 32) 4294967295) = true := decide_eq_true hn
    have eF : askF ⟨c, h, st, xid, sv, ⟨v6, hi, lo⟩, t1, t2, un, se, 4⟩ now = (⟨c, h, st, xid, sv, ⟨v6, hi, lo⟩, t1, t2, un, se, 4⟩, []) := by unfold askF; exact if_pos hn
    rw [eF]
    clear eF
    clear hn
    have I := Aside0.mk (Inv.start0 (w0 := w))
    go_enter Tryz.func28, Tryz.ntmps28
    go_wp2_with (first
     | (refine gB rfl ?_; refine bk rfl rfl rfl I ?_; clear I; intro gb w1 I)
     | (refine ak rfl (al_S rfl) I ?_; clear I; intro gb w1 I)
     | (refine gL rfl ?_; refine ll rfl rfl rfl I zm (by first | exact ld_st11 | exact ld_st12 | exact ld_st2 | exact ld_st) ?_)
     | (refine gD 16 rfl ?_; refine ck rfl Tryz.func29 kk rfl #[.int .i64 se, .int .i64 32] rfl kk (after_c se 32 _ hs.1 hs.2 (by omega) (by omega)) ?_; rintro e_ w1 ⟨rfl, rfl⟩; refine ⟨_, rfl, ?_⟩; skip)
     | (refine gS rfl ?_; refine sk rfl rfl rfl rfl rfl I zm (by first | exact sr_st) zu ?_; clear I; intro w1 I)
     )
    refine bodyPost_ret (ret_ct rfl _ I.out _ rfl zm Tryz.underlying28 rfl kk) rfl ?_
    exact ⟨_, rfl, Pks_nil _ _, I.out.below⟩
  have e1 : decide (now < min (se + 32) 4294967295) = false := decide_eq_false hn
  have eF : askF ⟨c, h, st, xid, sv, ⟨v6, hi, lo⟩, t1, t2, un, se, 4⟩ now = (initF ⟨c, h, st, xid, sv, ⟨v6, hi, lo⟩, t1, t2, un, se, 4⟩, []) := by unfold askF; exact (if_neg hn).trans (if_pos (show (4 : Int) ≤ 4 by decide))
  rw [eF]
  clear eF
  clear hn
  have I := Aside0.mk (Inv.start0 (w0 := w))
  go_enter Tryz.func28, Tryz.ntmps28
  go_wp2_with (first
   | (refine gB rfl ?_; refine bk rfl rfl rfl I ?_; clear I; intro gb w1 I)
   | (refine ak rfl (al_S rfl) I ?_; clear I; intro gb w1 I)
   | (refine gL rfl ?_; refine ll rfl rfl rfl I zm (by first | exact ld_st11 | exact ld_st12 | exact ld_st2 | exact ld_st) ?_)
   | (refine gD 16 rfl ?_; refine ck rfl Tryz.func29 kk rfl #[.int .i64 se, .int .i64 32] rfl kk (after_c se 32 _ hs.1 hs.2 (by omega) (by omega)) ?_; rintro e_ w1 ⟨rfl, rfl⟩; refine ⟨_, rfl, ?_⟩; skip)
   | (refine gD 23 rfl ?_; refine ck rfl Tryz.func30 kk rfl #[.agg (stC c h st xid sv v6 hi lo t1 t2 un se 4)] rfl zh (initial_c c h st xid sv v6 hi lo t1 t2 un se 4 _) ?_; rintro e_ w1 ⟨rfl, hb⟩; refine ⟨_, rfl, ?_⟩; replace I := callK I hb; clear hb)
   | (refine gS rfl ?_; refine sk rfl rfl rfl rfl rfl I zm (by first | exact sr_st) zu ?_; clear I; intro w1 I)
   )
  refine bodyPost_ret (ret_ct rfl _ I.out _ rfl zm Tryz.underlying28 rfl kk) rfl ?_
  exact ⟨_, rfl, Pks_nil _ _, I.out.below⟩
end Go.Proofs.YtlabnocmmeciaaaGreatDoor.BQ
