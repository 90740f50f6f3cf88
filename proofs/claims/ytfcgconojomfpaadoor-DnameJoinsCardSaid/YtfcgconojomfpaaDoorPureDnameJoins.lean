/- The plain statement of the law DnameJoins. -/
import Derived.Test.YtfcgconojomfpaaDoorDnB
import Derived.Test.YtfcgconojomfpaaDoorJoin
import Derived.Test.YtfcgconojomfpaaDoorPax28
import Derived.Test.YtfcgconojomfpaaDoorPax29
namespace Go.Proofs.YtfcgconojomfpaaDoor.Pa
open Go.RowKit Go.Proofs.YtfcgconojomfpaaDoorW.PrintWords Go.Proofs.YtfcgconojomfpaaDoorW.PrintLast Go.Proofs.YtfcgconojomfpaaDoor.DN
set_option linter.unusedVariables false
set_option linter.unusedSimpArgs false

/-! ### the reference -/
def rjL (l : List ByteArray) : ByteArray × Int := if l.all (fun x => labL (L x)) = true then (if validL (nm (l.map L)) = true then (B (nm (l.map L)), 0) else (⟨#[]⟩, 2)) else (⟨#[]⟩, 2)
theorem rjoin_l0 (l : List ByteArray) (hn : l.length ≤ 255) (hs : ∀ x ∈ l, x.size ≤ 100) : ∀ d i k : Nat, i + d = l.length → d + 3000 ≤ k → (l.take i).all (fun x => labL (L x)) = true → ddiref01_Join.l0 k l i = some (rjL l) := by
  intro d
  induction d with
  | zero =>
    intro i k hd hk hall
    obtain ⟨k, rfl⟩ : ∃ j, k = j + 1 := ⟨k - 1, by omega⟩
    rw [List.take_of_length_le (by omega)] at hall
    have hsz : (B (nm (l.map L))).size ≤ 140737488351232 := by
      rw [B_size, nm]
      split
      · simp
      · have : ∀ x : List ByteArray, (∀ y ∈ x, y.size ≤ 100) → (txt (x.map L)).length ≤ 101 * x.length := by
          intro x
          induction x with
          | nil => intro _; simp [txt]
          | cons y x ih =>
            intro hy
            have h1 := hy y (by simp)
            have h2 := ih (fun z hz => hy z (by simp [hz]))
            rw [List.map_cons, txt_cons, List.length_append, List.length_cons, L_len, List.length_cons]; omega
        have := this l hs; omega
    simp only [ddiref01_Join.l0]
    rw [if_neg (by omega), name_f l (by omega) (fun x hx => by have := hs x hx; omega) k (by omega), Option.bind_some, rvalid_f _ hsz k (by omega), Option.bind_some, L_B]
    unfold rjL
    rw [if_pos hall]
    cases validL (nm (l.map L)) <;> simp
  | succ d ih =>
    intro i k hd hk hall
    obtain ⟨k, rfl⟩ : ∃ j, k = j + 1 := ⟨k - 1, by omega⟩
    have hi : i < l.length := by omega
    have hx := hs _ (List.getElem_mem hi)
    simp only [ddiref01_Join.l0]
    rw [if_pos (by omega), if_pos (by omega), rd_at l i hi, islab_f _ (by omega) k (by omega), Option.bind_some]
    cases hl : labL (L l[i]) with
    | true =>
      rw [if_pos rfl, show wrap64 ((i : Int) + 1) = ((i + 1 : Nat) : Int) by rw [wrap_id (by omega) (by omega)]; omega]
      exact ih (i + 1) k (by omega) (by omega) (by rw [List.take_succ_eq_append_getElem hi, List.all_append, hall]; simp [hl])
    | false =>
      rw [if_neg (by decide)]
      unfold rjL
      rw [if_neg (by
        intro h
        have := List.all_eq_true.1 h l[i] (List.getElem_mem hi)
        rw [hl] at this; exact absurd this (by decide))]
theorem rjoin_f (l : List ByteArray) (hn : l.length ≤ 1000) (hs : ∀ x ∈ l, x.size ≤ 100) (k : Nat) (hk : 3300 ≤ k) : ddiref01_Join.f k l = some (joinL l) := by
  unfold ddiref01_Join.f joinL
  by_cases h : (l.length : Int) > 255
  · rw [if_pos h, if_neg (by intro h0; rw [h0] at h; simp at h), if_pos (by omega)]
  · have h00 := rjoin_l0 l (by omega) hs l.length 0 k (by omega) (by omega) (by simp)
    rw [if_neg h]
    refine Eq.trans h00 ?_
    unfold rjL
    by_cases h0 : l = []
    · subst h0
      rw [if_pos (by simp), if_pos rfl, if_pos (show validL (nm (List.map L [])) = true from valid_root)]; rfl
    · have hnm : nm (l.map L) = txt (l.map L) := by rw [nm, if_neg (by simpa using h0)]
      rw [if_neg h0, if_neg (show ¬ l.length > 255 by omega), hnm]
theorem join_f (l : List ByteArray) (hs : ∀ x ∈ l, x.size ≤ 100) : dname_Join.f l = some (joinL l) := by
  unfold dname_Join.f
  rw [if_pos (by rw [List.all_eq_true]; intro x hx; have := hs x hx; exact decide_eq_true (by omega))]
theorem join_labels (m : List ByteArray) (h : (joinL m).2 = 0) : labelsL (L (joinL m).1) = m.map L ∧ (joinL m).1.size ≤ 254 := by
  unfold joinL at *
  by_cases h0 : m = []
  · subst h0; rw [if_pos rfl]; exact ⟨labels_root, by decide⟩
  rw [if_neg h0] at h ⊢
  by_cases h1 : m.length > 255
  · rw [if_pos h1] at h; exact absurd h (by decide)
  rw [if_neg h1] at h ⊢
  have h2 : m.all (fun x => labL (L x)) = true := Decidable.byContradiction (fun h2 => by rw [if_neg h2] at h; exact absurd h (by decide))
  rw [if_pos h2] at h ⊢
  have h3 : validL (txt (m.map L)) = true := Decidable.byContradiction (fun h3 => by rw [if_neg h3] at h; exact absurd h (by decide))
  rw [if_pos h3, L_B]
  refine ⟨?_, by rw [B_size]; exact valid_len h3⟩
  have hno : ∀ x ∈ m.map L, ∀ c ∈ x, c ≠ 46 := by
    intro x hx
    obtain ⟨y, hy, rfl⟩ := List.mem_map.1 hx
    exact labL_no (List.all_eq_true.1 h2 y hy)
  have hne : txt (m.map L) ≠ [46] := by
    cases m with
    | nil => exact absurd rfl h0
    | cons y m =>
      have hy := labL_ne_nil (List.all_eq_true.1 h2 y (by simp))
      rw [List.map_cons, txt_cons]
      intro e
      have := congrArg List.length e
      have := List.length_pos_iff.2 hy
      simp at *; omega
  unfold labelsL
  rw [if_neg hne, if_pos h3, cuts_txt _ hno]

/-! ### the law -/
def cutH (x : ByteArray) : ByteArray := x.extract 0 (min x.size 100)
theorem joins_l0 (l : List ByteArray) (r : Bool) (k0 : Nat) (hr : ∀ k, k0 ≤ k → ddilaw01_DnameJoins.j1 k ((l.take 300).map cutH) = some r) : ∀ d i k : Nat, ∀ acc : List ByteArray, i + d = min l.length 300 → d + k0 + 1 ≤ k → acc = (l.take i).map cutH → ddilaw01_DnameJoins.l0 k l acc i = some r := by
  intro d
  induction d with
  | zero =>
    intro i k acc hd hk hacc
    obtain ⟨k, rfl⟩ : ∃ j, k = j + 1 := ⟨k - 1, by omega⟩
    have ht : l.take i = l.take 300 := by
      by_cases h : l.length ≤ 300
      · rw [List.take_of_length_le (by omega), List.take_of_length_le h]
      · rw [show i = 300 by omega]
    simp only [ddilaw01_DnameJoins.l0]
    rw [hacc, ht]
    by_cases h1 : (i : Int) < l.length
    · rw [if_pos h1, if_neg (by omega)]; exact hr k (by omega)
    · rw [if_neg h1]; exact hr k (by omega)
  | succ d ih =>
    intro i k acc hd hk hacc
    obtain ⟨k, rfl⟩ : ∃ j, k = j + 1 := ⟨k - 1, by omega⟩
    have hi : i < l.length := by omega
    have hm : mn (l[i].size : Int) 100 = ((min l[i].size 100 : Nat) : Int) := by unfold mn; omega
    have hal : acc.length < 8796093022208 := by rw [hacc, List.length_map, List.length_take]; omega
    simp only [ddilaw01_DnameJoins.l0]
    rw [if_pos (by omega), if_pos (by omega), if_pos (by omega), rd_at l i hi, hm, if_pos (by omega), if_pos (by omega), if_pos hal, Int.toNat_natCast, show wrap64 ((i : Int) + 1) = ((i + 1 : Nat) : Int) by rw [wrap_id (by omega) (by omega)]; omega]
    exact ih (i + 1) k _ (by omega) (by omega) (by rw [hacc, List.take_succ_eq_append_getElem hi, List.map_append]; rfl)
theorem DnameJoins_pure (l : List ByteArray) : ∃ k, ddilaw01_DnameJoins.f k l = some true := by
  refine ⟨5000, ?_⟩
  unfold ddilaw01_DnameJoins.f
  refine joins_l0 l true 4000 ?_ (min l.length 300) 0 5000 [] (by omega) (by omega) (by simp)
  intro k hk
  obtain ⟨k, rfl⟩ : ∃ j, k = j + 1 := ⟨k - 1, by omega⟩
  have hs : ∀ x ∈ (l.take 300).map cutH, x.size ≤ 100 := by
    intro x hx
    obtain ⟨y, hy, rfl⟩ := List.mem_map.1 hx
    unfold cutH; rw [ByteArray.size_extract]; omega
  have hn : ((l.take 300).map cutH).length ≤ 300 := by simp; omega
  generalize (l.take 300).map cutH = m at hs hn
  simp only [ddilaw01_DnameJoins.j1]
  rw [join_f m hs, Option.bind_some, rjoin_f m (by omega) hs k (by omega), Option.bind_some, if_pos rfl, if_pos rfl]
  by_cases h : (joinL m).2 = 0
  · obtain ⟨h1, h2⟩ := join_labels m h
    rw [if_pos h, labels_f _ (by omega) k (by omega), Option.bind_some, h1, map_BL, texts_f m (by omega) k (by omega), Option.bind_some, if_pos rfl, awake_f k (by omega)]
    rfl
  · rw [if_neg h, awake_f k (by omega)]
    rfl
end Go.Proofs.YtfcgconojomfpaaDoor.Pa
namespace Go.Proofs.YtfcgconojomfpaaDoor.Pure
open Go.RowKit Go.Proofs.YtfcgconojomfpaaDoor.Pa
theorem DnameJoins : ∀ (l0 : List ByteArray), l0.length * 16 ≤ 140737488351232 → (∀ y ∈ l0, y.size ≤ 140737488351232) → ∃ k, ddilaw01_DnameJoins.f k l0 = some true := fun l _ _ => DnameJoins_pure l
end Go.Proofs.YtfcgconojomfpaaDoor.Pure
