/- The plain theory of options: lists of (code, value): finding, putting, adding parts, the limits, what is decoded, what is encoded; no program in sight. -/
import Init.Data.List.Nat.TakeDrop
import Init.Data.List.Nat.Basic
namespace Go.Proofs.YtkojlapefmcjnaaDoor.OPT
set_option linter.unusedVariables false
set_option linter.unusedSimpArgs false

abbrev O := Int × List UInt8
def fnd : List O → Int → Option (List UInt8)
  | [], _ => none
  | o :: l, c => if o.1 = c then some o.2 else fnd l c
def pt : List O → Int → List UInt8 → List O
  | [], c, v => [(c, v)]
  | o :: l, c, v => if o.1 = c then (c, v) :: l else o :: pt l c v
def ad : List O → Int → List UInt8 → List O
  | [], c, p => [(c, p)]
  | o :: l, c, p => if o.1 = c then (c, o.2 ++ p) :: l else o :: ad l c p
def jn (l : List O) (c : Int) (p : List UInt8) : List O := l.map (fun o => if o.1 = c then (o.1, o.2 ++ p) else o) ++ (if c ∈ l.map (·.1) then [] else [(c, p)])
def sz : List O → Nat
  | [] => 0
  | o :: l => o.2.length + sz l
def no (l : List O) : Prop := l.length ≤ 32 ∧ sz l ≤ 4096 ∧ ∀ o ∈ l, o.2.length ≤ 1024
instance (l : List O) : Decidable (no l) := inferInstanceAs (Decidable (_ ∧ _ ∧ _))
def vld (l : List O) : Prop := no l ∧ (l.map (·.1)).Nodup ∧ ∀ o ∈ l, 1 ≤ o.1 ∧ o.1 ≤ 254
instance (l : List O) : Decidable (vld l) := inferInstanceAs (Decidable (_ ∧ _ ∧ _))
def dec (l : List O) (s : List UInt8) : List O × Int :=
  match s with
  | [] => ([], 7)
  | c :: r =>
    if c = 0 then dec l r
    else if c = 255 then (if r.all (· == 0) then (l, 0) else ([], 8))
    else match r with
      | [] => ([], 6)
      | n :: q => if q.length < n.toNat then ([], 6) else if no (ad l c.toNat (q.take n.toNat)) then dec (ad l c.toNat (q.take n.toNat)) (q.drop n.toNat) else ([], 9)
termination_by s.length
decreasing_by all_goals simp_wf; all_goals (try omega)
def encV (c : UInt8) (v : List UInt8) : List UInt8 :=
  if h : v.length ≤ 255 then c :: UInt8.ofNat v.length :: v else c :: 255 :: (v.take 255 ++ encV c (v.drop 255))
termination_by v.length
decreasing_by simp_wf; omega
def encL : List O → List UInt8
  | [] => []
  | o :: l => encV (UInt8.ofNat o.1.toNat) o.2 ++ encL l
def enc (l : List O) : List UInt8 := encL l ++ [255]

theorem dec_nil (l : List O) : dec l [] = ([], 7) := by rw [dec]
theorem dec_zero (l : List O) (r : List UInt8) : dec l (0 :: r) = dec l r := by rw [dec.eq_def]; simp
theorem dec_end (l : List O) (r : List UInt8) : dec l (255 :: r) = if r.all (· == 0) then (l, 0) else ([], 8) := by rw [dec.eq_def]; dsimp only; rw [if_neg (by decide), if_pos rfl]
theorem dec_short (l : List O) {c : UInt8} (h0 : c ≠ 0) (h1 : c ≠ 255) : dec l [c] = ([], 6) := by rw [dec.eq_def]; dsimp only; rw [if_neg h0, if_neg h1]
theorem dec_part (l : List O) {c n : UInt8} (q : List UInt8) (h0 : c ≠ 0) (h1 : c ≠ 255) :
    dec l (c :: n :: q) = if q.length < n.toNat then ([], 6) else if no (ad l c.toNat (q.take n.toNat)) then dec (ad l c.toNat (q.take n.toNat)) (q.drop n.toNat) else ([], 9) := by
  rw [dec.eq_def]; dsimp only; rw [if_neg h0, if_neg h1]

theorem sz_append (l m : List O) : sz (l ++ m) = sz l + sz m := by
  induction l with
  | nil => simp [sz]
  | cons o l ih => simp [sz, ih]; omega
theorem ad_new {l : List O} {c : Int} (p : List UInt8) (h : c ∉ l.map (·.1)) : ad l c p = l ++ [(c, p)] := by
  induction l with
  | nil => rfl
  | cons o l ih =>
    simp only [List.map_cons, List.mem_cons, not_or] at h
    rw [ad, if_neg (fun e => h.1 e.symm), ih h.2]; rfl
theorem ad_last {l : List O} {c : Int} (u p : List UInt8) (h : c ∉ l.map (·.1)) : ad (l ++ [(c, u)]) c p = l ++ [(c, u ++ p)] := by
  induction l with
  | nil => simp [ad]
  | cons o l ih =>
    simp only [List.map_cons, List.mem_cons, not_or] at h
    rw [List.cons_append, ad, if_neg (fun e => h.1 e.symm), ih h.2]; rfl
theorem ad_codes (l : List O) (c : Int) (p : List UInt8) : (ad l c p).map (·.1) = if c ∈ l.map (·.1) then l.map (·.1) else l.map (·.1) ++ [c] := by
  induction l with
  | nil => simp [ad]
  | cons o l ih =>
    rw [ad]
    by_cases h : o.1 = c
    · rw [if_pos h]; simp [h]
    · rw [if_neg h, List.map_cons, ih]
      have h' : ¬ c = o.1 := fun e => h e.symm
      by_cases h2 : c ∈ l.map (·.1)
      · rw [if_pos h2, if_pos (by simp only [List.map_cons, List.mem_cons]; exact .inr h2)]; rfl
      · rw [if_neg h2, if_neg (by simp only [List.map_cons, List.mem_cons, not_or]; exact ⟨h', h2⟩)]; rfl
theorem nodup_ad {l : List O} (c : Int) (p : List UInt8) (h : (l.map (·.1)).Nodup) : ((ad l c p).map (·.1)).Nodup := by
  rw [ad_codes]
  split
  · exact h
  · rename_i h2
    rw [List.nodup_append]
    exact ⟨h, by simp, fun a ha b hb => by rw [List.mem_singleton] at hb; subst hb; intro e; subst e; exact h2 ha⟩
theorem codes_ad {l : List O} {c : Int} (p : List UInt8) {P : Int → Prop} (h : ∀ o ∈ l, P o.1) (hc : P c) : ∀ o ∈ ad l c p, P o.1 := by
  intro o ho
  have : o.1 ∈ (ad l c p).map (·.1) := List.mem_map_of_mem ho
  rw [ad_codes] at this
  have h2 : ∀ x ∈ l.map (·.1), P x := fun x hx => by obtain ⟨y, hy, rfl⟩ := List.mem_map.1 hx; exact h y hy
  split at this
  · exact h2 _ this
  · rcases List.mem_append.1 this with h3 | h3
    · exact h2 _ h3
    · rw [List.mem_singleton.1 h3]; exact hc
theorem ad_jn {l : List O} (c : Int) (p : List UInt8) (h : (l.map (·.1)).Nodup) : ad l c p = jn l c p := by
  induction l with
  | nil => simp [ad, jn]
  | cons o l ih =>
    simp only [List.map_cons, List.nodup_cons] at h
    rw [ad]
    by_cases h1 : o.1 = c
    · rw [if_pos h1]
      subst h1
      have hm : l.map (fun x => if x.1 = o.1 then (x.1, x.2 ++ p) else x) = l := by
        rw [List.map_congr_left (g := id), List.map_id]
        intro x hx
        rw [if_neg (fun e => h.1 (by rw [← e]; exact List.mem_map_of_mem hx))]; rfl
      simp [jn, hm]
    · rw [if_neg h1, ih h.2]
      have h' : ¬ c = o.1 := fun e => h1 e.symm
      simp only [jn, List.map_cons, if_neg h1, List.cons_append, List.mem_cons, h', false_or]

theorem no_mono {l m : List O} (h : no (l ++ m)) : no l := by
  obtain ⟨h1, h2, h3⟩ := h
  rw [sz_append] at h2
  simp at h1
  exact ⟨by omega, by omega, fun o ho => h3 o (List.mem_append_left _ ho)⟩
theorem no_less {l : List O} {c : Int} {u v : List UInt8} (h : no (l ++ [(c, v)])) (hl : u.length ≤ v.length) : no (l ++ [(c, u)]) := by
  obtain ⟨h1, h2, h3⟩ := h
  rw [sz_append] at h2
  refine ⟨by simpa using h1, ?_, fun o ho => ?_⟩
  · rw [sz_append]; simp [sz] at h2 ⊢; omega
  · rcases List.mem_append.1 ho with ho | ho
    · exact h3 o (List.mem_append_left _ ho)
    · rw [List.mem_singleton.1 ho]
      have := h3 (c, v) (by simp)
      simp at this ⊢; omega

theorem byte_of {c : Int} (h1 : 1 ≤ c) (h2 : c ≤ 254) : ((UInt8.ofNat c.toNat).toNat : Int) = c ∧ UInt8.ofNat c.toNat ≠ 0 ∧ UInt8.ofNat c.toNat ≠ 255 := by
  have h3 : (UInt8.ofNat c.toNat).toNat = c.toNat := by rw [UInt8.toNat_ofNat']; omega
  refine ⟨by omega, fun e => ?_, fun e => ?_⟩
  · have := congrArg UInt8.toNat e; rw [h3] at this; simp at this; omega
  · have := congrArg UInt8.toNat e; rw [h3] at this; simp at this; omega
theorem len_byte {n : Nat} (h : n ≤ 255) : (UInt8.ofNat n).toNat = n := by rw [UInt8.toNat_ofNat']; omega

/-- a part at the end of the list, or a new one -/
theorem dec_encV_more : ∀ (n : Nat) (l : List O) (c : Int) (u v rest : List UInt8), v.length ≤ n → 1 ≤ c → c ≤ 254 → c ∉ l.map (·.1) → no (l ++ [(c, u ++ v)]) →
    dec (l ++ [(c, u)]) (encV (UInt8.ofNat c.toNat) v ++ rest) = dec (l ++ [(c, u ++ v)]) rest := by
  intro n
  induction n with
  | zero =>
    intro l c u v rest hv h1 h2 hc hn
    have : v = [] := List.length_eq_zero_iff.1 (by omega)
    subst this
    obtain ⟨b1, b2, b3⟩ := byte_of h1 h2
    rw [encV, dif_pos (by simp), List.cons_append, List.cons_append, dec_part _ _ b2 b3, b1]
    rw [if_neg (by simp [UInt8.toNat_ofNat'])]
    have hz : (UInt8.ofNat ([] : List UInt8).length).toNat = 0 := rfl
    rw [hz, List.take_zero, ad_last u [] hc, if_pos hn]; rfl
  | succ n ih =>
    intro l c u v rest hv h1 h2 hc hn
    obtain ⟨b1, b2, b3⟩ := byte_of h1 h2
    by_cases hs : v.length ≤ 255
    · rw [encV, dif_pos hs, List.cons_append, List.cons_append, dec_part _ _ b2 b3, b1, len_byte hs]
      rw [if_neg (by simp), List.take_left' rfl, List.drop_left' rfl, ad_last u v hc, if_pos hn]
    · have ht : (v.take 255).length = 255 := by rw [List.length_take]; omega
      rw [encV, dif_neg hs, List.cons_append, List.cons_append, dec_part _ _ b2 b3, b1]
      have h255 : (255 : UInt8).toNat = 255 := rfl
      rw [h255, List.append_assoc, if_neg (by rw [List.length_append, ht]; omega), List.take_left' ht, List.drop_left' ht, ad_last u _ hc]
      have hcat : (u ++ v.take 255) ++ v.drop 255 = u ++ v := by rw [List.append_assoc, List.take_append_drop]
      rw [if_pos (no_less hn (by simp; omega)), ih l c (u ++ v.take 255) (v.drop 255) rest (by rw [List.length_drop]; omega) h1 h2 hc (by rw [hcat]; exact hn), hcat]
theorem dec_encV {l : List O} {c : Int} (v rest : List UInt8) (h1 : 1 ≤ c) (h2 : c ≤ 254) (hc : c ∉ l.map (·.1)) (hn : no (l ++ [(c, v)])) :
    dec l (encV (UInt8.ofNat c.toNat) v ++ rest) = dec (l ++ [(c, v)]) rest := by
  obtain ⟨b1, b2, b3⟩ := byte_of h1 h2
  by_cases hs : v.length ≤ 255
  · rw [encV, dif_pos hs, List.cons_append, List.cons_append, dec_part _ _ b2 b3, b1, len_byte hs]
    rw [if_neg (by simp), List.take_left' rfl, List.drop_left' rfl, ad_new v hc, if_pos hn]
  · have ht : (v.take 255).length = 255 := by rw [List.length_take]; omega
    rw [encV, dif_neg hs, List.cons_append, List.cons_append, dec_part _ _ b2 b3, b1]
    have h255 : (255 : UInt8).toNat = 255 := rfl
    rw [h255, List.append_assoc, if_neg (by rw [List.length_append, ht]; omega), List.take_left' ht, List.drop_left' ht, ad_new _ hc]
    rw [if_pos (no_less hn (by simp; omega)), dec_encV_more _ l c (v.take 255) (v.drop 255) rest (Nat.le_refl _) h1 h2 hc (by rw [List.take_append_drop]; exact hn), List.take_append_drop]
theorem dec_encL : ∀ (l m : List O), vld (m ++ l) → dec m (encL l ++ [255]) = (m ++ l, 0)
  | [], m, h => by rw [encL, List.nil_append, dec_end]; simp
  | o :: l, m, h => by
    have h0 := h
    obtain ⟨hn, hd, hr⟩ := h
    have ho := hr o (by simp)
    have hsplit : m ++ o :: l = (m ++ [o]) ++ l := by simp
    have hc : o.1 ∉ m.map (·.1) := by
      rw [List.map_append, List.map_cons, List.nodup_append] at hd
      intro hm
      exact hd.2.2 o.1 hm o.1 (by simp) rfl
    rw [encL, List.append_assoc, dec_encV o.2 _ ho.1 ho.2 hc (by rw [hsplit] at hn; exact no_mono hn)]
    rw [dec_encL l (m ++ [o]) (by rw [← hsplit]; exact h0), hsplit]
theorem dec_enc {l : List O} (h : vld l) : dec [] (enc l) = (l, 0) := dec_encL l [] h

theorem ad_range {l : List O} {c : UInt8} (p : List UInt8) (h : ∀ o ∈ l, 1 ≤ o.1 ∧ o.1 ≤ 254) (h0 : c ≠ 0) (h1 : c ≠ 255) : ∀ o ∈ ad l c.toNat p, 1 ≤ o.1 ∧ o.1 ≤ 254 := by
  refine codes_ad (P := fun x => 1 ≤ x ∧ x ≤ 254) p h ?_
  have h2 := c.toNat_lt
  have h3 : c.toNat ≠ 0 := fun e => h0 (UInt8.toNat_inj.1 e)
  have h4 : c.toNat ≠ 255 := fun e => h1 (UInt8.toNat_inj.1 e)
  omega
theorem vld_ad {l : List O} {c : UInt8} (p : List UInt8) (h : (l.map (·.1)).Nodup ∧ ∀ o ∈ l, 1 ≤ o.1 ∧ o.1 ≤ 254) (h0 : c ≠ 0) (h1 : c ≠ 255) : vld (ad l c.toNat p) ↔ no (ad l c.toNat p) :=
  ⟨fun h => h.1, fun hn => ⟨hn, nodup_ad _ _ h.1, ad_range p h.2 h0 h1⟩⟩

/-- What is decoded is valid; the other answers are empty and of four kinds; and without its end it is none. -/
theorem dec_all : ∀ (n : Nat) (s : List UInt8) (l : List O), s.length ≤ n → vld l →
    ((dec l s).2 = 0 ∧ vld (dec l s).1 ∧ ∃ p z, s = p ++ 255 :: z ∧ z.all (· == 0) = true ∧ dec l p = ([], 7)) ∨ ((dec l s).1 = [] ∧ ((dec l s).2 = 6 ∨ (dec l s).2 = 7 ∨ (dec l s).2 = 8 ∨ (dec l s).2 = 9)) := by
  intro n
  induction n with
  | zero =>
    intro s l hs _
    have : s = [] := List.length_eq_zero_iff.1 (by omega)
    subst this; rw [dec_nil]; right; simp
  | succ n ih =>
    intro s l hs hv
    match s with
    | [] => rw [dec_nil]; right; simp
    | c :: r =>
      by_cases h0 : c = 0
      · subst h0
        rw [dec_zero]
        rcases ih r l (by simp at hs; omega) hv with ⟨a, b, p, z, e, hz, hp⟩ | h
        · exact .inl ⟨a, b, 0 :: p, z, by rw [e]; rfl, hz, by rw [dec_zero, hp]⟩
        · exact .inr h
      by_cases h1 : c = 255
      · subst h1
        rw [dec_end]
        by_cases hz : r.all (· == 0) = true
        · rw [if_pos hz]; exact .inl ⟨rfl, hv, [], r, rfl, hz, dec_nil l⟩
        · rw [if_neg hz]; right; simp
      match r with
      | [] => rw [dec_short l h0 h1]; right; simp
      | k :: q =>
        rw [dec_part l q h0 h1]
        by_cases hq : q.length < k.toNat
        · rw [if_pos hq]; right; simp
        rw [if_neg hq]
        by_cases hn : no (ad l c.toNat (q.take k.toNat))
        · rw [if_pos hn]
          have hv2 := (vld_ad (q.take k.toNat) hv.2 h0 h1).2 hn
          rcases ih (q.drop k.toNat) _ (by simp at hs ⊢; omega) hv2 with ⟨a, b, p, z, e, hz, hp⟩ | h
          · refine .inl ⟨a, b, c :: k :: (q.take k.toNat ++ p), z, ?_, hz, ?_⟩
            · rw [List.cons_append, List.cons_append, List.append_assoc, ← e, List.take_append_drop]
            · have ht : (q.take k.toNat).length = k.toNat := by rw [List.length_take]; omega
              rw [dec_part l _ h0 h1, if_neg (by rw [List.length_append, ht]; omega), List.take_left' ht, List.drop_left' ht, if_pos hn, hp]
          · exact .inr h
        · rw [if_neg hn]; right; simp

theorem fnd_pt_same (l : List O) (c : Int) (v : List UInt8) : fnd (pt l c v) c = some v := by
  induction l with
  | nil => simp [pt, fnd]
  | cons o l ih => rw [pt]; by_cases h : o.1 = c <;> simp [h, fnd, ih]
theorem fnd_pt_other (l : List O) (c d : Int) (v : List UInt8) (hd : d ≠ c) : fnd (pt l c v) d = fnd l d := by
  induction l with
  | nil => simp [pt, fnd, Ne.symm hd]
  | cons o l ih =>
    rw [pt]; by_cases h : o.1 = c
    · rw [if_pos h, fnd, fnd, if_neg (by simpa using Ne.symm hd), if_neg (by rw [h]; exact Ne.symm hd)]
    · rw [if_neg h, fnd, fnd, ih]
theorem pt_length (l : List O) (c : Int) (v : List UInt8) : (pt l c v).length = if (fnd l c).isSome then l.length else l.length + 1 := by
  induction l with
  | nil => simp [pt, fnd]
  | cons o l ih =>
    rw [pt, fnd]; by_cases h : o.1 = c
    · simp [h]
    · rw [if_neg h, if_neg h, List.length_cons, ih, List.length_cons]; split <;> omega
theorem enc_length_le : ∀ (n : Nat) (c : UInt8) (v : List UInt8), v.length ≤ n → (encV c v).length ≤ 3 * v.length + 2
  | 0, c, v, h => by rw [encV, dif_pos (by omega)]; simp; omega
  | n + 1, c, v, h => by
    rw [encV]
    by_cases h2 : v.length ≤ 255
    · rw [dif_pos h2]; simp; omega
    · rw [dif_neg h2]
      have h3 := enc_length_le n c (v.drop 255) (by rw [List.length_drop]; omega)
      simp at h3 ⊢; omega
end Go.Proofs.YtkojlapefmcjnaaDoor.OPT
