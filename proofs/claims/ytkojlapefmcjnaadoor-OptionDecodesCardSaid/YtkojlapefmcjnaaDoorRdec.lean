/- The reference's end, joined and Decode: over the plain theory of options. -/
import Derived.Test.YtkojlapefmcjnaaDoorRef
import Derived.Test.YtkojlapefmcjnaaDoorPax18
import Derived.Test.YtkojlapefmcjnaaDoorPax19
import Derived.Test.YtkojlapefmcjnaaDoorPax20
namespace Go.Proofs.YtkojlapefmcjnaaDoor.OPT
open Go Go.RowKit Go.Proofs.YtkojlapefmcjnaaDoorW.PrintWords Go.Proofs.YtkojlapefmcjnaaDoor.DN Go.Proofs.YtkojlapefmcjnaaDoor.Pa
set_option linter.unusedVariables false
set_option linter.unusedSimpArgs false

theorem end_l (s : ByteArray) (hs : s.size ≤ 140737488351232) : ∀ (n k i : Nat), s.size - i ≤ n → n < k → i ≤ s.size → ddiref35_end.l0 k s (i : Int) = some (if ((L s).drop i).all (· == 0) then 0 else 8) := by
  intro n
  induction n with
  | zero =>
    intro k i hn hk hi
    obtain ⟨k, rfl⟩ : ∃ q, k = q + 1 := ⟨k - 1, by omega⟩
    rw [ddiref35_end.l0, if_neg (by omega), List.drop_eq_nil_of_le (by rw [L_len]; omega)]; rfl
  | succ n ih =>
    intro k i hn hk hi
    obtain ⟨k, rfl⟩ : ∃ q, k = q + 1 := ⟨k - 1, by omega⟩
    by_cases hlt : i < s.size
    · have hL : i < (L s).length := by rw [L_len]; exact hlt
      rw [ddiref35_end.l0, if_pos (by omega), if_pos (by omega), bt_L s i hL, drop_at hL, List.all_cons]
      by_cases h : (L s)[i] = 0
      · rw [if_pos (by rw [h]; rfl), wsucc (by omega), ih k (i + 1) (by omega) (by omega) (by omega), h]; simp
      · rw [if_neg (fun e => h (UInt8.toNat_inj.1 (by simpa using e))), show ((L s)[i] == 0) = false from beq_eq_false_iff_ne.mpr h, Bool.false_and, if_neg (by decide)]
    · rw [ddiref35_end.l0, if_neg (by omega), List.drop_eq_nil_of_le (by rw [L_len]; omega)]; rfl
theorem end_f (s : ByteArray) (hs : s.size ≤ 140737488351232) (k : Nat) (hk : s.size < k) : ddiref35_end.f k s = some (if (L s).all (· == 0) then 0 else 8) := by
  have := end_l s hs s.size k 0 (by omega) hk (by omega)
  simpa [ddiref35_end.f] using this

def mapS (l : List S34) (c : Int) (p : ByteArray) : List S34 := l.map fun x => if x.f0 = c then (⟨x.f0, x.f1 ++ p⟩ : S34) else x
def jnS (l : List S34) (c : Int) (p : ByteArray) : List S34 := mapS l c p ++ (if idxS l c 0 < 0 then [⟨c, p⟩] else [])
theorem ab_mapS (l : List S34) (c : Int) (p : ByteArray) : ab (mapS l c p) = (ab l).map (fun o => if o.1 = c then (o.1, o.2 ++ L p) else o) := by
  induction l with
  | nil => rfl
  | cons x l ih =>
    have h1 : mapS (x :: l) c p = (if x.f0 = c then (⟨x.f0, x.f1 ++ p⟩ : S34) else x) :: mapS l c p := rfl
    rw [h1, ab_cons, ab_cons, List.map_cons, ih]
    by_cases h : x.f0 = c
    · rw [if_pos h, if_pos (show (o1 x).1 = c from h)]; simp only [o1, L_append]
    · rw [if_neg h, if_neg (show ¬ (o1 x).1 = c from h)]
theorem ab_jnS (l : List S34) (c : Int) (p : ByteArray) : ab (jnS l c p) = jn (ab l) c (L p) := by
  unfold jnS jn
  rw [ab_append]
  congr 1
  · exact ab_mapS l c p
  · have hm : c ∈ (ab l).map (·.1) ↔ ∃ y ∈ l, y.f0 = c := by simp [ab, o1]
    rcases idx_cases l c 0 with ⟨h1, h2⟩ | ⟨a, x, b, h1, h2, h3, h4⟩
    · rw [h2, if_pos (by decide), if_neg (by rw [hm]; rintro ⟨y, hy, e⟩; exact h1 y hy e)]; rfl
    · rw [h4, if_neg (by omega), if_pos (by rw [hm]; exact ⟨x, by rw [h1]; simp, h2⟩)]; rfl
theorem mapS_length (l : List S34) (c : Int) (p : ByteArray) : (mapS l c p).length = l.length := by simp [mapS]
theorem joined_l (l : List S34) (c : Int) (p : ByteArray) (hl : l.length ≤ 5864062014800) (hz : ∀ x ∈ l, x.f1.size ≤ 140737488351232) (hp : p.size ≤ 140737488351232) : ∀ (n k i : Nat), l.length - i ≤ n → n + l.length + 1 < k → i ≤ l.length →
    ddiref35_joined.l0 k l c p (mapS (l.take i) c p) (i : Int) = some (jnS l c p) := by
  intro n
  have hend : ∀ k, l.length < k → ((ddiref35_index.f k l c).bind fun t221 => (if t221 < 0 then (if (mapS l c p).length < 5864062014805 then (some ((mapS l c p) ++ [(⟨c, p⟩ : S34)])) else (none)) else (some (mapS l c p)))) = some (jnS l c p) := by
    intro k hk
    rw [index_f l c (by omega) k hk, Option.bind_some]
    unfold jnS
    by_cases h : idxS l c 0 < 0
    · rw [if_pos h, if_pos h, if_pos (by rw [mapS_length]; omega)]
    · rw [if_neg h, if_neg h, List.append_nil]
  induction n with
  | zero =>
    intro k i hn hk hi
    obtain ⟨k, rfl⟩ : ∃ q, k = q + 1 := ⟨k - 1, by omega⟩
    obtain rfl : i = l.length := by omega
    rw [ddiref35_joined.l0, if_neg (by omega), List.take_length]
    exact hend k (by omega)
  | succ n ih =>
    intro k i hn hk hi
    obtain ⟨k, rfl⟩ : ∃ q, k = q + 1 := ⟨k - 1, by omega⟩
    by_cases hlt : i < l.length
    · have h2 := ih k (i + 1) (by omega) (by omega) (by omega)
      have ht : mapS (l.take (i + 1)) c p = mapS (l.take i) c p ++ [if l[i].f0 = c then (⟨l[i].f0, l[i].f1 ++ p⟩ : S34) else l[i]] := by
        unfold mapS; rw [List.take_succ_eq_append_getElem hlt, List.map_append]; rfl
      rw [ht] at h2
      rw [ddiref35_joined.l0, if_pos (by omega), if_pos (by omega), rd_at hlt, wsucc (by omega)]
      have hlm : (mapS (l.take i) c p).length < 5864062014805 := by rw [mapS_length, List.length_take]; omega
      by_cases h : l[i].f0 = c
      · rw [if_pos h] at h2
        rw [if_pos h, if_pos (by have := hz _ (List.getElem_mem hlt); omega), if_pos hlm]; exact h2
      · rw [if_neg h] at h2
        rw [if_neg h, if_pos hlm]; exact h2
    · obtain rfl : i = l.length := by omega
      rw [ddiref35_joined.l0, if_neg (by omega), List.take_length]
      exact hend k (by omega)
theorem joined_f (l : List S34) (c : Int) (p : ByteArray) (hl : l.length ≤ 5864062014800) (hz : ∀ x ∈ l, x.f1.size ≤ 140737488351232) (hp : p.size ≤ 140737488351232) (k : Nat) (hk : 2 * l.length + 1 < k) : ddiref35_joined.f k l c p = some (jnS l c p) := by
  have := joined_l l c p hl hz hp l.length k 0 (by omega) (by omega) (by omega)
  simpa [ddiref35_joined.f, mapS] using this
theorem jn_sizes {l : List S34} (c : Int) (p : ByteArray) (hp : p.size ≤ 255) (h : ∀ x ∈ l, x.f1.size ≤ 1024) : ∀ x ∈ jnS l c p, x.f1.size ≤ 2000 := by
  intro x hx
  unfold jnS mapS at hx
  rcases List.mem_append.1 hx with hx | hx
  · obtain ⟨y, hy, rfl⟩ := List.mem_map.1 hx
    have := h y hy
    split
    · show (y.f1 ++ p).size ≤ 2000
      rw [ByteArray.size_append]; omega
    · omega
  · split at hx
    · rw [List.mem_singleton] at hx; subst hx; exact (by omega : p.size ≤ 2000)
    · cases hx
theorem rdec_j (s : ByteArray) (hs : s.size ≤ 140737488351232) (l : List S34) (i k : Nat) (hk : 200 < k) (hv : vld (ab l)) (h2 : i + 1 < s.size) (c d : UInt8) (hc : (L s)[i]? = some c) (hd : (L s)[i + 1]? = some d) (h0 : c ≠ 0) (h1 : c ≠ 255)
    (ih : ∀ l, vld (ab l) → i + 2 + d.toNat ≤ s.size → ddiref35_Decode.l0 k s l ((i + 2 + d.toNat : Nat) : Int) = some (un (dec (ab l) ((L s).drop (i + 2 + d.toNat))).1, (dec (ab l) ((L s).drop (i + 2 + d.toNat))).2)) :
    ddiref35_Decode.j1 (k + 1) s l (i : Int) (decide (s.size < i + 2 + d.toNat)) = some (un (dec (ab l) (c :: d :: (L s).drop (i + 2))).1, (dec (ab l) (c :: d :: (L s).drop (i + 2))).2) := by
  have hdlt := d.toNat_lt
  have hL : i < (L s).length := by rw [L_len]; omega
  have hL2 : i + 1 < (L s).length := by rw [L_len]; omega
  have hci : (L s)[i] = c := by rw [List.getElem?_eq_getElem hL] at hc; exact Option.some.inj hc
  have hdi : (L s)[i + 1] = d := by rw [List.getElem?_eq_getElem hL2] at hd; exact Option.some.inj hd
  have hql : ((L s).drop (i + 2)).length = s.size - (i + 2) := by rw [List.length_drop, L_len]
  rw [ddiref35_Decode.j1, dec_part _ _ h0 h1]
  by_cases h3 : s.size < i + 2 + d.toNat
  · rw [if_pos (decide_eq_true h3), if_pos (by omega)]; rfl
  · rw [decide_eq_false h3, if_neg (by decide), if_neg (show ¬ ((L s).drop (i + 2)).length < d.toNat by omega), wsucc (by omega), if_pos (by omega), if_pos (by omega), if_pos (by omega), if_pos (by omega), bt_L s i hL, bt_L s (i + 1) hL2, hci, hdi, wbyte, wbyte,
      show wrap64 ((i : Int) + 2) = ((i + 2 : Nat) : Int) from w2 (b := 2) (by omega), w2 (by omega), if_pos (by omega), if_pos (by omega), if_pos (by omega), Int.toNat_natCast, Int.toNat_natCast]
    have hsz := no_sizes hv.1
    have hpz : (s.extract (i + 2) (i + 2 + d.toNat)).size = d.toNat := by rw [ByteArray.size_extract]; omega
    have hpe : L (s.extract (i + 2) (i + 2 + d.toNat)) = ((L s).drop (i + 2)).take d.toNat := by rw [L_extract]; congr 1; omega
    rw [joined_f l _ _ (by omega) (fun x hx => by have := hsz.2 x hx; omega) (by omega) k (by omega), Option.bind_some]
    have haz := jn_sizes (c.toNat : Int) (s.extract (i + 2) (i + 2 + d.toNat)) (by omega) hsz.2
    have hja : ab (jnS l (c.toNat : Int) (s.extract (i + 2) (i + 2 + d.toNat))) = ad (ab l) (c.toNat : Int) (((L s).drop (i + 2)).take d.toNat) := by rw [ab_jnS, hpe, ad_jn _ _ hv.2.1]
    rw [rvalid_f _ (fun x hx => by have := haz x hx; omega) k (by omega), Option.bind_some, hja]
    have hva := vld_ad (((L s).drop (i + 2)).take d.toNat) hv.2 h0 h1
    by_cases h4 : no (ad (ab l) (c.toNat : Int) (((L s).drop (i + 2)).take d.toNat))
    · rw [decide_eq_true (hva.2 h4), if_pos rfl, if_pos h4, ih _ (by rw [hja]; exact hva.2 h4) (by omega), hja, List.drop_drop]
    · rw [decide_eq_false (fun h => h4 (hva.1 h)), if_neg (by decide), if_neg h4]; rfl
theorem rdec_l (s : ByteArray) (hs : s.size ≤ 140737488351232) : ∀ (n k i : Nat) (l : List S34), s.size - i ≤ n → 2 * n + s.size + 300 < k → i ≤ s.size → vld (ab l) →
    ddiref35_Decode.l0 k s l (i : Int) = some (un (dec (ab l) ((L s).drop i)).1, (dec (ab l) ((L s).drop i)).2) := by
  intro n
  induction n using Nat.strongRecOn with
  | ind n ih =>
    intro k i l hn hk hi hv
    obtain ⟨k, rfl⟩ : ∃ q, k = q + 1 := ⟨k - 1, by omega⟩
    by_cases hlt : i < s.size
    · have hL : i < (L s).length := by rw [L_len]; exact hlt
      rw [ddiref35_Decode.l0, if_pos (by omega), if_pos (by omega), bt_L s i hL, drop_at hL]
      obtain ⟨c, hc⟩ : ∃ c, c = (L s)[i] := ⟨_, rfl⟩
      rw [← hc, wsucc (by omega)]
      by_cases h0 : c = 0
      · subst h0
        rw [if_pos (show ((UInt8.toNat 0 : Nat) : Int) = 0 from rfl), dec_zero]
        exact ih (n - 1) (by omega) k (i + 1) l (by omega) (by omega) (by omega) hv
      have h0n : ¬ ((c.toNat : Nat) : Int) = 0 := fun e => h0 (UInt8.toNat_inj.1 (by simpa using e))
      rw [if_neg h0n]
      by_cases h1 : c = 255
      · subst h1
        have he : L (s.extract (i + 1) s.size) = (L s).drop (i + 1) := by rw [L_extract, List.take_of_length_le (by rw [List.length_drop, L_len]; omega)]
        rw [if_pos (show ((UInt8.toNat 255 : Nat) : Int) = 255 from rfl), if_pos (by omega), if_pos (by omega), dec_end, Int.toNat_natCast, end_f _ (by rw [ByteArray.size_extract]; omega) k (by rw [ByteArray.size_extract]; omega), Option.bind_some, he]
        by_cases hz : ((L s).drop (i + 1)).all (· == 0) = true
        · rw [if_pos hz, if_pos hz, if_pos rfl, un_ab]
        · rw [if_neg hz, if_neg hz, if_neg (by decide)]; rfl
      have h1n : ¬ ((c.toNat : Nat) : Int) = 255 := fun e => h1 (UInt8.toNat_inj.1 (by have : c.toNat = 255 := by omega
                                                                                       rw [this]; rfl))
      rw [if_neg h1n]
      by_cases h2 : i + 1 < s.size
      · have hL2 : i + 1 < (L s).length := by rw [L_len]; exact h2
        rw [if_neg (by omega), if_pos (by omega), if_pos (by omega), bt_L s (i + 1) hL2, drop_at hL2]
        obtain ⟨d, hd⟩ : ∃ d, d = (L s)[i + 1] := ⟨_, rfl⟩
        have hdlt := d.toNat_lt
        rw [← hd, wbyte, show wrap64 ((i : Int) + 2) = ((i + 2 : Nat) : Int) from w2 (b := 2) (by omega), w2 (by omega)]
        obtain ⟨k, rfl⟩ : ∃ q, k = q + 1 := ⟨k - 1, by omega⟩
        have := rdec_j s hs l i k (by omega) hv h2 c d (by rw [List.getElem?_eq_getElem hL, hc]) (by rw [List.getElem?_eq_getElem hL2, hd]) h0 h1 (fun l hv hle => ih (n - 2 - d.toNat) (by omega) k (i + 2 + d.toNat) l (by omega) (by omega) hle hv)
        rw [show decide (((i + 2 + d.toNat : Nat) : Int) > (s.size : Int)) = decide (s.size < i + 2 + d.toNat) from by rw [decide_eq_decide]; omega]
        exact this
      · obtain ⟨k, rfl⟩ : ∃ q, k = q + 1 := ⟨k - 1, by omega⟩
        rw [if_pos (by omega), List.drop_eq_nil_of_le (by rw [L_len]; omega), dec_short _ h0 h1, ddiref35_Decode.j1, if_pos rfl]; rfl
    · obtain rfl : i = s.size := by omega
      rw [ddiref35_Decode.l0, if_neg (by omega), List.drop_eq_nil_of_le (by rw [L_len]; omega), dec_nil]; rfl
theorem rdec_f (s : ByteArray) (hs : s.size ≤ 140737488351232) (k : Nat) (hk : 3 * s.size + 300 < k) : ddiref35_Decode.f k s = some (un (dec [] (L s)).1, (dec [] (L s)).2) := by
  have := rdec_l s hs s.size k 0 [] (by omega) (by omega) (by omega) vld_nil
  simpa [ddiref35_Decode.f, ab_nil] using this
end Go.Proofs.YtkojlapefmcjnaaDoor.OPT
