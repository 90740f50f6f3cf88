/- Parts of the proof of this claim's statement (joined by a program of this session): Base, Join. -/
import Derived.Test.YtlabnocmmeciaaaGreatDoorq3
import Derived.Test.YtlabnocmmeciaaaGreatDoorq1
import Derived.Test.YtlabnocmmeciaaaGreatDoorq6
import Derived.Shelf.Strings.Builder1
set_option linter.unusedVariables false
set_option linter.unusedSimpArgs false
set_option maxRecDepth 100000
set_option maxHeartbeats 8000000
namespace Go.Proofs.YtlabnocmmeciaaaGreatDoor.Pa
open RowKit YtlabnocmmeciaaaGreatDoorW.PrintWords YtlabnocmmeciaaaGreatDoorW.PrintLast DN
def lowI (b : Int) : Bool := (decide (97 ≤ b) && decide (b ≤ 122)) || (decide (48 ≤ b) && decide (b ≤ 57)) || decide (b = 45) || decide (b = 95)
theorem lowI_isLow (c : UInt8) : lowI (c.toNat : Int) = isLow c := by
  have e1 : ∀ x y : UInt8, decide (x ≤ y) = decide ((x.toNat : Int) ≤ y.toNat) := fun x y => by simp [UInt8.le_iff_toNat_le]
  have e2 : ∀ x y : UInt8, (x == y) = decide ((x.toNat : Int) = y.toNat) := fun x y => by
    rw [Bool.eq_iff_iff, beq_iff_eq, decide_eq_true_iff, ← UInt8.toNat_inj]; omega
  unfold lowI isLow
  rw [e1, e1, e1, e1, e2, e2]
  rfl
theorem low_ifs {α : Type} (b : Int) (y z : α) : (if b < 97 then (if b < 48 then (if b = 45 then y else (if b = 95 then y else z)) else (if b > 57 then (if b = 45 then y else (if b = 95 then y else z)) else y)) else (if b > 122 then (if b < 48 then (if b = 45 then y else (if b = 95 then y else z)) else (if b > 57 then (if b = 45 then y else (if b = 95 then y else z)) else y)) else y)) = if lowI b = true then y else z := by
  unfold lowI
  repeat' split
  all_goals first | rfl | (simp_all; done) | (simp_all; omega)
theorem ord_l0 (s : ByteArray) (hs : s.size ≤ 140737488351232) : ∀ d i k : Nat, i + d = s.size → d < k → dname_ordinary.l0 k s s.size i = some (((L s).drop i).all isLow) := by
  intro d
  induction d with
  | zero =>
    intro i k hd hk
    obtain ⟨k, rfl⟩ : ∃ m, k = m + 1 := ⟨k - 1, by omega⟩
    simp only [dname_ordinary.l0]
    rw [if_neg (by omega), List.drop_of_length_le (by rw [L_len]; omega)]
    rfl
  | succ d ih =>
    intro i k hd hk
    obtain ⟨k, rfl⟩ : ∃ m, k = m + 1 := ⟨k - 1, by omega⟩
    have hi : i < (L s).length := by rw [L_len]; omega
    have hw : wrap64 ((i : Int) + 1) = ((i + 1 : Nat) : Int) := by rw [wrap_id (by omega) (by omega)]; omega
    simp only [dname_ordinary.l0]
    rw [if_pos (by omega), if_pos (by omega), if_pos (by omega), low_ifs, bt_L s i hi, lowI_isLow, hw, ih (i + 1) k (by omega) (by omega), List.drop_eq_getElem_cons hi, List.all_cons]
    cases isLow (L s)[i] <;> simp
theorem ord_f (s : ByteArray) (hs : s.size ≤ 140737488351232) (k : Nat) (hk : s.size + 3 ≤ k) : dname_ordinary.f k s = some (ordL (L s)) := by
  obtain ⟨k, rfl⟩ : ∃ m, k = m + 1 := ⟨k - 1, by omega⟩
  unfold dname_ordinary.f
  rw [toList_L]
  by_cases h0 : L s = []
  · rw [if_pos h0]; simp [dname_ordinary.j0, ordL, h0]
  · rw [if_neg h0]
    have hl := L_len s
    simp only [dname_ordinary.j0]
    by_cases h1 : (s.size : Int) > 63
    · simp only [h1, decide_true, if_true]
      have : ¬ (L s).length ≤ 63 := by omega
      simp only [ordL, this, decide_false, Bool.and_false, Bool.false_and]
    · have h := ord_l0 s hs s.size 0 k (by omega) (by omega)
      have : (L s).length ≤ 63 := by omega
      simp only [h1, decide_false, Bool.false_eq_true, if_false]
      rw [show (0 : Int) = ((0 : Nat) : Int) from rfl, h]
      cases hL : L s with
      | nil => exact absurd hL h0
      | cons c r => rw [hL] at this; simp only [ordL, List.isEmpty_cons, Bool.not_false, Bool.true_and, this, decide_true, List.drop_zero]
theorem hasSuffix_eq (s p : ByteArray) (hs : s.size ≤ 9223372036854775807) (hp : p.size ≤ 9223372036854775807) : strings_HasSuffix.f s p = some ((L p).isSuffixOf (L s)) := by
  unfold strings_HasSuffix.f stringslite_HasSuffix.f
  have e := Lib.hasSuffix_of_drop (L s) (L p)
  unfold Lib.hasSuffix at e
  rw [← e]
  have h1 := L_len s; have h2 := L_len p
  by_cases h : (s.size : Int) ≥ p.size
  · have hw : wrap64 ((s.size : Int) - p.size) = ((s.size - p.size : Nat) : Int) := by rw [wrap_id (by omega) (by omega)]; omega
    have hle : (L p).length ≤ (L s).length := by omega
    rw [if_pos h, hw, if_pos (by omega), if_pos (by omega)]
    simp only [Option.bind_some, toList_L, L_extract, Int.toNat_natCast, hle, decide_true, Bool.true_and]
    rw [List.take_of_length_le (by simp [h1]), h1, h2]
  · have hle : ¬ (L p).length ≤ (L s).length := by omega
    rw [if_neg h]
    simp only [hle, decide_false, Bool.false_and, Option.bind_some]
theorem suffix_dot (l : List UInt8) : List.isSuffixOf [46] l = (l.getLast? == some 46) := by
  rw [Bool.eq_iff_iff, List.isSuffixOf_iff_suffix, beq_iff_eq]
  constructor
  · rintro ⟨t, rfl⟩; simp
  · intro h
    obtain ⟨t, rfl⟩ := List.getLast?_eq_some_iff.1 h
    exact ⟨t, rfl⟩
theorem index_cons_eq (r : List UInt8) : Lib.index (46 :: r) [46] = 0 := by rw [Lib.index]; simp [List.isPrefixOf]
theorem index_cons_ne (c : UInt8) (r : List UInt8) (h : c ≠ 46) : Lib.index (c :: r) [46] = if Lib.index r [46] == -1 then -1 else Lib.index r [46] + 1 := by
  have hp : ([46] : List UInt8).isPrefixOf (c :: r) = false := by simp [List.isPrefixOf, Ne.symm h]
  rw [Lib.index, hp]; simp
theorem pieces_cuts : ∀ l : List UInt8, Lib.splitK [46] 0 (Lib.count l [46]) l = cuts (l ++ [46])
  | [] => by rw [Lib.count_miss (by simp [Lib.index])]; rfl
  | c :: r => by
    have ih := pieces_cuts r
    by_cases h : c = 46
    · subst h
      rw [Lib.count_cons_eq, Nat.add_comm, Lib.splitK, index_cons_eq, if_neg (by decide)]
      simp only [List.cons_append, cuts, if_true, ← ih]
      simp
    · rw [Lib.count_cons_ne c 46 r h]
      have hi := index_cons_ne c r h
      rw [List.cons_append, cuts, if_neg h, ← ih]
      by_cases hm : Lib.index r [46] = -1
      · rw [Lib.count_miss hm]; rfl
      · have hge := Lib.index_ge r [46]
        obtain ⟨i, hj⟩ : ∃ i : Nat, Lib.index r [46] = i := ⟨(Lib.index r [46]).toNat, by omega⟩
        have hb : (Lib.index r [46] == -1) = false := by simpa using hm
        rw [hb] at hi
        obtain ⟨k, hk⟩ : ∃ k, Lib.count r [46] = k + 1 := by
          have := Lib.count_hit (s := r) (sub := [46]) (by simp) hj
          exact ⟨_, by rw [this, Nat.add_comm]⟩
        rw [hk, Lib.splitK, Lib.splitK, hi, hj]
        have e1 : ((((i : Int) + 1 : Int)) == -1) = false := by simp; omega
        have e2 : (((i : Int)) == -1) = false := by simp
        have e3 : ((i : Int) + 1).toNat = i + 1 := by omega
        simp only [Bool.false_eq_true, if_false, e1, e2, e3, Int.toNat_natCast, Nat.add_zero, List.length_singleton, List.take_succ_cons]
        rw [show i + 1 + 1 = (i + 1) + 1 from rfl, List.drop_succ_cons]
theorem split_cuts (s : ByteArray) (hs : s.size < 4294967281) : ∃ xs : List ByteArray, strings_Split.f s ⟨#[46]⟩ = some xs ∧ xs.map L = cuts (L s ++ [46]) := by
  refine ⟨_, by unfold strings_Split.f; rw [if_pos ⟨rfl, hs⟩], ?_⟩
  rw [show (List.map L (Lib.splitB ⟨#[46]⟩ 0 (Lib.countB s ⟨#[46]⟩) s)) = List.map (fun b : ByteArray => b.data.toList) _ from rfl, Lib.splitB_data]
  exact pieces_cuts (L s)
theorem val_l0 (k0 : Nat) (xs : List ByteArray) (hx : ∀ x ∈ xs, x.size ≤ 140737488351232) (hn : xs.length ≤ 140737488351232)
    (hk0 : ∀ x ∈ xs, ∀ k, k0 ≤ k → dname_ordinary.f k x = some (ordL (L x))) :
    ∀ d i k : Nat, i + d = xs.length → d + k0 < k → dname_Valid.l0 k xs xs.length i = some (if i = 0 then labs (xs.map L) else ((xs.map L).drop i).all ordL) := by
  intro d
  induction d with
  | zero =>
    intro i k hd hk
    obtain ⟨k, rfl⟩ : ∃ m, k = m + 1 := ⟨k - 1, by omega⟩
    simp only [dname_Valid.l0]
    rw [if_neg (by omega)]
    split
    · have : xs = [] := List.length_eq_zero_iff.1 (by omega)
      subst this; rfl
    · rw [List.drop_of_length_le (by simp; omega)]; rfl
  | succ d ih =>
    intro i k hd hk
    obtain ⟨k, rfl⟩ : ∃ m, k = m + 1 := ⟨k - 1, by omega⟩
    have hi : i < xs.length := by omega
    have hw : wrap64 ((i : Int) + 1) = ((i + 1 : Nat) : Int) := by rw [wrap_id (by omega) (by omega)]; omega
    have hr : rdOf ByteArray.empty xs (i : Int) = xs[i] := by simp [rdOf, hi]
    have hih := ih (i + 1) k (by omega) (by omega)
    rw [if_neg (by omega)] at hih
    simp only [dname_Valid.l0]
    rw [if_pos (by omega), if_pos (by omega), if_pos (by omega), hr, hk0 _ (List.getElem_mem hi) k (by omega), hw, hih]
    simp only [Option.bind_some]
    have hdrop : (xs.map L).drop i = L xs[i] :: (xs.map L).drop (i + 1) := by
      rw [List.drop_eq_getElem_cons (by simpa using hi)]; simp
    rw [toList_L]
    cases ho : ordL (L xs[i]) with
    | true =>
      rw [if_pos rfl]
      split
      · rename_i h0; subst h0
        have e : xs.map L = L xs[0] :: (xs.map L).drop 1 := by simpa using hdrop
        rw [e, labs, labL, ho]; simp
      · rw [hdrop, List.all_cons, ho]; simp
    | false =>
      rw [if_neg (by simp)]
      by_cases h0 : i = 0
      · subst h0
        have e : xs.map L = L xs[0] :: (xs.map L).drop 1 := by simpa using hdrop
        rw [if_neg (by omega), if_pos rfl, e, labs, labL, ho]
        by_cases hs : L xs[0] = [42]
        · rw [if_pos hs]; simp [hs]
        · rw [if_neg hs]; simp [hs]
      · rw [if_pos (by omega), if_neg h0, hdrop, List.all_cons, ho]; simp
theorem cuts_len : ∀ (s : List UInt8), (cuts s).length ≤ s.length ∧ ∀ x ∈ cuts s, x.length ≤ s.length
  | [] => by simp [cuts]
  | c :: r => by
    obtain ⟨h1, h2⟩ := cuts_len r
    unfold cuts
    split
    · refine ⟨by simp; omega, fun x hx => ?_⟩
      rcases List.mem_cons.1 hx with rfl | hx
      · simp
      · have := h2 x hx; simp; omega
    · split
      · simp
      · rename_i x xs e
        rw [e] at h1 h2
        refine ⟨by simpa using Nat.le_succ_of_le h1, fun y hy => ?_⟩
        rcases List.mem_cons.1 hy with rfl | hy
        · have := h2 x (by simp); simp; omega
        · have := h2 y (by simp [hy]); simp; omega
theorem split_init (a : ByteArray) (h0 : 1 ≤ a.size) (h1 : a.size ≤ 254) (hl : (L a).getLast? = some 46) :
    wrap64 ((a.size : Int) - 1) = ((a.size - 1 : Nat) : Int) ∧ ∃ xs : List ByteArray, strings_Split.f (a.extract 0 (wrap64 ((a.size : Int) - 1)).toNat) ⟨#[46]⟩ = some xs ∧ xs.map L = cuts (L a) := by
  have hw : wrap64 ((a.size : Int) - 1) = ((a.size - 1 : Nat) : Int) := by rw [wrap_id (by omega) (by omega)]; omega
  refine ⟨hw, ?_⟩
  obtain ⟨m, hm⟩ := List.getLast?_eq_some_iff.1 hl
  have hlen := L_len a
  have he : L (a.extract 0 (wrap64 ((a.size : Int) - 1)).toNat) = m := by
    have : m.length = a.size - 1 := by rw [← hlen, hm]; simp
    rw [hw, L_extract, hm]; simp [← this]
  obtain ⟨xs, h2, h3⟩ := split_cuts (a.extract 0 (wrap64 ((a.size : Int) - 1)).toNat) (by rw [← L_len, he]; have := hm ▸ hlen; simp at this; omega)
  exact ⟨xs, h2, by rw [h3, he, hm]⟩
theorem valid_f (a : ByteArray) (ha : a.size ≤ 140737488351232) (k : Nat) (hk : 1000 ≤ k) : dname_Valid.f k a = some (validL (L a)) := by
  have hlen := L_len a
  obtain ⟨k, rfl⟩ : ∃ m, k = m + 1 := ⟨k - 1, by omega⟩
  unfold dname_Valid.f
  rw [toList_L]
  by_cases h0 : L a = [46]
  · rw [if_pos h0]; simp [validL, h0]
  rw [if_neg h0]
  have hb0 : (L a == [46]) = false := by simpa using h0
  by_cases h1 : (a.size : Int) ≥ 255
  · rw [if_pos h1]
    have : ¬ (L a).length ≤ 254 := by omega
    simp only [dname_Valid.j0, if_true, validL, hb0, this, decide_false, Bool.false_and, Bool.false_or]
  rw [if_neg h1, hasSuffix_eq _ _ (by omega) (by decide), show L (⟨#[46]⟩ : ByteArray) = [46] from rfl, suffix_dot]
  have h2 : (L a).length ≤ 254 := by omega
  simp only [Option.bind_some, dname_Valid.j0]
  cases h3 : ((L a).getLast? == some 46) with
  | false => simp only [Bool.not_false, if_true, validL, hb0, h2, h3, decide_true, Bool.true_and, Bool.false_and, Bool.false_or]
  | true =>
    have hl : (L a).getLast? = some 46 := beq_iff_eq.1 h3
    have hne : 1 ≤ a.size := by
      cases hL : L a with
      | nil => rw [hL] at hl; cases hl
      | cons c r => rw [hL] at hlen; simp at hlen; omega
    obtain ⟨hw, xs, hx, hxs⟩ := split_init a hne (by omega) hl
    have hc := cuts_len (L a)
    rw [← hxs] at hc
    have hxl : xs.length ≤ 254 := by have := hc.1; simp at this; omega
    have hxe : ∀ x ∈ xs, x.size ≤ 254 := fun x hx => by have := hc.2 (L x) (List.mem_map_of_mem hx); rw [L_len] at this; omega
    have := val_l0 300 xs (fun x hx => by have := hxe x hx; omega) (by omega) (fun x hx k hk => ord_f x (by have := hxe x hx; omega) k (by have := hxe x hx; omega)) xs.length 0 k (by omega) (by omega)
    simp only [Bool.not_true, Bool.false_eq_true, if_false]
    rw [hx, hw, if_pos (by omega), if_pos (by omega)]
    simp only [Option.bind_some]
    rw [show (0 : Int) = ((0 : Nat) : Int) from rfl, this, if_pos rfl, hxs]
    simp only [validL, hb0, h2, h3, decide_true, Bool.true_and, Bool.false_or]
open Shelf
def joinL (l : List ByteArray) : ByteArray × Int :=
  if l = [] then (⟨#[46]⟩, 0) else if l.length > 255 then (⟨#[]⟩, 2)
  else if l.all (fun x => labL (L x)) then (if validL (txt (l.map L)) then (B (txt (l.map L)), 0) else (⟨#[]⟩, 2)) else (⟨#[]⟩, 2)
def dname_Join.f (l0 : List ByteArray) : Option (ByteArray × Int) := if l0.all (fun x => decide (x.size ≤ 140737488351232)) then some (joinL l0) else none
theorem heap_drewN' (w : World) (n : Nat) : (w.drewN n).heap = w.heap := by simp
theorem builder_drewN {T e : TypeId} {B b : Nat} {bs : List Value} {w : World} (h : Lib.IsBuilder T e B b bs w) (n : Nat) : Lib.IsBuilder T e B b bs (w.drewN n) := by
  have hp : ∀ p, Lib.BuilderAt T e B b p bs w → Lib.BuilderAt T e B b p bs (w.drewN n) := by
    rintro p ⟨hB, v, h1, ⟨h2, h3⟩, h4⟩
    refine ⟨hB, v, by rw [heap_drewN']; exact h1, ⟨h2, ?_⟩, h4⟩
    rcases h3 with h3 | ⟨g, cap, cur, rfl, hg, hh, r⟩
    · exact .inl h3
    · exact .inr ⟨g, cap, cur, rfl, hg, by rw [heap_drewN']; exact hh, r⟩
  exact h.imp (hp _) (hp _)
theorem lab_len {s : List UInt8} (h : labL s = true) : s.length ≤ 63 := by
  simp only [labL, ordL, Bool.or_eq_true, Bool.and_eq_true, decide_eq_true_iff, beq_iff_eq] at h
  rcases h with h | rfl
  · exact h.1.2
  · simp
theorem txt_len_le : ∀ {l : List (List UInt8)}, (∀ x ∈ l, labL x = true) → (txt l).length ≤ 64 * l.length
  | [], _ => by simp [txt]
  | x :: l, h => by
    have h1 := lab_len (h x (by simp))
    have h2 := txt_len_le (l := l) (fun y hy => h y (by simp [hy]))
    rw [txt_cons]; simp; omega
theorem Builder_WriteByte (B b : Nat) (bs : List Value) (c : Int) (w : World) (h : Lib.IsBuilder 80 5 B b bs w) (hlen : bs.length + 1 ≤ 140737488355328) (hBw : B ≤ w.heap.size) :
    Calls Tryz.prog 49 #[.pointer (some ⟨b, 0, none⟩), .int .u8 c] w fun e w' => e = .returned .nilIface ∧ Lib.IsBuilder 80 5 B b (bs ++ [.int .u8 c]) w' ∧ Below B w w' :=
  (Any.Builder_WriteByte Tryz.lay167 Tryz.bx B b bs c w h hlen hBw).mono fun e w' ⟨he, hb, hB⟩ => ⟨he, Or.inr hb, hB⟩
theorem Builder_WriteString (B b : Nat) (bs : List Value) (s : ByteArray) (w : World) (h : Lib.IsBuilder 80 5 B b bs w) (hlen : bs.length + s.size ≤ 140737488355328) (hBw : B ≤ w.heap.size) :
    Calls Tryz.prog 48 #[.pointer (some ⟨b, 0, none⟩), .string s] w fun e w' => e = .returned (.tuple #[.int .i64 s.size, .nilIface]) ∧ Lib.IsBuilder 80 5 B b (bs ++ Lib.strCells s) w' ∧ Below B w w' :=
  (Any.Builder_WriteString Tryz.lay166 Tryz.bx B b bs s w h hlen hBw).mono fun e w' ⟨he, hb, hB⟩ => ⟨he, Or.inr hb, hB⟩
theorem Builder_String_any (B b : Nat) (l : List UInt8) (w : World) (h : Lib.IsBuilder 80 5 B b (Lib.byteCells l) w) (hBw : B ≤ w.heap.size) :
    Calls Tryz.prog 50 #[.pointer (some ⟨b, 0, none⟩)] w fun e w' => e = .returned (.string ⟨l.toArray⟩) ∧ Below B w w' :=
  Any.Builder_String_any Tryz.lay169 Tryz.bx B b l w h hBw
theorem dname_Join.calls (A0 : Option Addr) (c0 : Nat) (l0 : List ByteArray) (r1 : ByteArray) (r2 : Int) (w : World) (hr0 : Kd.C Kd.string w A0 l0.length l0) (hc0 : l0.length ≤ c0) (h : dname_Join.f l0 = some (r1, r2)) :
    Calls Tryz.prog 21 #[.slice A0 l0.length c0] w fun e w' => e = .returned (.tuple #[.string r1, .int .i64 r2]) ∧ Below w.heap.size w w' := by
  unfold dname_Join.f at h
  split at h
  · rename_i hsz0
    have hsz : ∀ x ∈ l0, x.size ≤ 140737488351232 := by simpa using hsz0
    clear hsz0
    have h := Option.some.inj h
    unfold joinL at h
    by_cases c1 : l0 = []
    · rw [if_pos c1] at h
      obtain ⟨rfl, rfl⟩ := Prod.mk.inj h
      subst c1
      clear hsz h hr0
      go_enter Tryz.func21, Tryz.ntmps21
      go_wp2
      go_ret2
      exact ⟨rfl, Below.refl _ _⟩
    rw [if_neg c1] at h
    have hpos : 0 < l0.length := List.length_pos_iff.2 c1
    have c1b : ((l0.length : Int) == 0) = false := beq_eq_false_iff_ne.mpr (by omega)
    by_cases c2 : l0.length > 255
    · rw [if_pos c2] at h
      obtain ⟨rfl, rfl⟩ := Prod.mk.inj h
      have c2b : decide (255 < (l0.length : Int)) = true := decide_eq_true (by omega)
      have c2n : decide (255 < l0.length) = true := decide_eq_true (by omega)
      clear hsz h hr0
      go_enter Tryz.func21, Tryz.ntmps21
      go_wp2
      go_ret2
      exact ⟨rfl, Below.refl _ _⟩
    rw [if_neg c2] at h
    have c2b : decide (255 < (l0.length : Int)) = false := decide_eq_false (by omega)
    have c2n : decide (255 < l0.length) = false := decide_eq_false (by omega)
    have HH := Aside0.mk h
    have HSZ := Aside0.mk hsz
    have HR := Aside0.mk hr0
    have HC1 := Aside0.mk c1
    have HC2 := Aside0.mk c2
    have HC0 := Aside0.mk hc0
    have HP := Aside0.mk hpos
    have hl : l0.length ≤ 9223372036854775807 := by omega
    have h0 : Lib.IsBuilder 80 5 w.heap.size w.heap.size (Lib.byteCells []) (w.alloc (.cells #[.pointer none, .slice none 0 0] 80)) := Lib.fresh_isBuilder 80 5 w
    have H0 := Aside0.mk h0
    have b0 : Below w.heap.size w (w.alloc (.cells #[.pointer none, .slice none 0 0] 80)) := (Below.refl _ w).alloc (Nat.le_refl _) _
    have HB0 := Aside0.mk b0
    clear h hsz hr0 c1 c2 h0 b0 hc0 hpos
    go_enter Tryz.func21, Tryz.ntmps21
    go_wp2
    go_loopw [16] (fun v wr => ∃ i : Nat, v = .int .i64 i ∧ i ≤ l0.length ∧ Aside0 (∀ x ∈ l0.take i, labL (L x) = true) ∧ Aside0 (Lib.IsBuilder 80 5 w.heap.size w.heap.size (Lib.byteCells (txt ((l0.take i).map L))) wr) ∧ Aside0 (Below w.heap.size w wr)) (fun v _ => l0.length - (intOf v).toNat)
    case atStart => exact ⟨0, rfl, Nat.zero_le _, ⟨by simp⟩, by simpa [txt] using H0, HB0⟩
    case round =>
      obtain ⟨i, rfl, hin, HL, HI, HB⟩ := hrel
      clear H0 HB0
      by_cases hlt : i < l0.length
      · have hltb : decide ((i : Int) < (l0.length : Int)) = true := decide_eq_true (by omega)
        have hltn : decide (i < l0.length) = true := decide_eq_true hlt
        have p1 : 0 ≤ (i : Int) := by omega
        have q1 : (i : Int) < (l0.length : Int) := by omega
        obtain ⟨ad1, e1, hx1⟩ := Kd.at_string (Kd.C_below HR.out HB.out) (i : Int) p1 q1
        cases e1
        have hxi : rdOf ByteArray.empty l0 (i : Int) = l0[i] := by simp [rdOf, hlt]
        have hmem : l0[i] ∈ l0 := List.getElem_mem hlt
        have hsx := HSZ.out _ hmem
        obtain ⟨x, hx⟩ : ∃ x, x = l0[i] := ⟨_, rfl⟩
        rw [hxi, ← hx, Int.toNat_natCast] at hx1
        rw [← hx] at hmem hsx
        have HX := Aside0.mk hx
        clear hx hxi
        have ho := ord_f x hsx (x.size + 3) (Nat.le_refl _)
        have htk : l0.take (i + 1) = l0.take i ++ [x] := by rw [List.take_succ_eq_append_getElem hlt, ← HX.out]
        have HTK := Aside0.mk htk
        have HSX := Aside0.mk hsx
        have HM := Aside0.mk hmem
        clear htk hsx hmem
        have hcl : Aside0 ((Lib.byteCells (txt ((l0.take i).map L))).length ≤ 64 * 255) := ⟨by
          rw [Lib.byteCells_length]
          have := txt_len_le (l := (l0.take i).map L) (fun y hy => by obtain ⟨z, hz, rfl⟩ := List.mem_map.1 hy; exact HL.out z hz)
          have h2 := HC2.out
          rw [List.length_map, List.length_take] at this; omega⟩
        have HCL := hcl
        clear hcl
        have HEQ : Aside0 (Lib.byteCells (txt ((l0.take (i + 1)).map L)) = Lib.byteCells (txt ((l0.take i).map L)) ++ Lib.strCells x ++ [.int .u8 46]) := ⟨by
          rw [HTK.out, List.map_append, txt_append]; simp [txt, Lib.byteCells, Lib.strCells]⟩
        cases hox : ordL (L x) with
        | true =>
          rw [hox] at ho
          have HO := Aside0.mk ho
          have HLX : Aside0 (labL (L x) = true) := ⟨by simp [labL, hox]⟩
          clear ho hox
          have HXL : Aside0 (x.size ≤ 63) := ⟨by have := lab_len HLX.out; rw [L_len] at this; exact this⟩
          go_wp2_with (first
              | (go_at_call 47; (with_reducible refine (dname_ordinary.calls (x.size + 3) x true _ HO.out).mono ?_); rintro e w' ⟨rfl, ⟨nd, rfl⟩⟩)
              | (go_at_call 48; (with_reducible refine (Builder_WriteString w.heap.size w.heap.size _ x _ (builder_drewN HI.out nd) (by have := HCL.out; have := HXL.out; omega) (by have := HB.out.size; simpa using this)).mono ?_); rintro e w1 ⟨rfl, h1, b1⟩; have H1 := Aside0.mk h1; have B1 := Aside0.mk b1; clear h1 b1)
              | (go_at_call 49; (with_reducible refine (Builder_WriteByte w.heap.size w.heap.size _ 46 _ H1.out (by have := HCL.out; have := HXL.out; simp only [List.length_append, Lib.strCells_length]; omega) (by have h1 := HB.out.size; have h2 := B1.out.size; simp at h2; omega)).mono ?_); rintro e w2 ⟨rfl, h2, b2⟩; have H2 := Aside0.mk h2; have B2 := Aside0.mk b2; clear h2 b2))
          go_roundw
          case measure => simp [intOf]; omega
          case rel => exact ⟨i + 1, by go_num, by omega, ⟨fun y hy => by rw [HTK.out] at hy; rcases List.mem_append.1 hy with hy | hy; exact HL.out y hy; rw [List.mem_singleton.1 hy]; exact HLX.out⟩, ⟨by rw [HEQ.out]; exact H2.out⟩, ⟨((pw_below_drewN HB.out nd).trans B1.out).trans B2.out⟩⟩
        | false =>
          rw [hox] at ho
          have HO := Aside0.mk ho
          have HOX := Aside0.mk hox
          clear ho hox
          by_cases hst : x.toList = [42]
          · have hst1 : (x.toList == ([42] : List UInt8)) = true := beq_iff_eq.mpr hst
            have hst2 : (x.toList != ([42] : List UInt8)) = false := bne_eq_false_iff_eq.mpr hst
            have HLX : Aside0 (labL (L x) = true) := ⟨by rw [toList_L] at hst; simp [labL, hst]⟩
            have HXL : Aside0 (x.size ≤ 63) := ⟨by have := lab_len HLX.out; rw [L_len] at this; exact this⟩
            clear hst
            go_wp2_with (first
              | (go_at_call 47; (with_reducible refine (dname_ordinary.calls (x.size + 3) x false _ HO.out).mono ?_); rintro e w' ⟨rfl, ⟨nd, rfl⟩⟩)
              | (go_at_call 48; (with_reducible refine (Builder_WriteString w.heap.size w.heap.size _ x _ (builder_drewN HI.out nd) (by have := HCL.out; have := HXL.out; omega) (by have := HB.out.size; simpa using this)).mono ?_); rintro e w1 ⟨rfl, h1, b1⟩; have H1 := Aside0.mk h1; have B1 := Aside0.mk b1; clear h1 b1)
              | (go_at_call 49; (with_reducible refine (Builder_WriteByte w.heap.size w.heap.size _ 46 _ H1.out (by have := HCL.out; have := HXL.out; simp only [List.length_append, Lib.strCells_length]; omega) (by have h1 := HB.out.size; have h2 := B1.out.size; simp at h2; omega)).mono ?_); rintro e w2 ⟨rfl, h2, b2⟩; have H2 := Aside0.mk h2; have B2 := Aside0.mk b2; clear h2 b2))
            go_roundw
            case measure => simp [intOf]; omega
            case rel => exact ⟨i + 1, by go_num, by omega, ⟨fun y hy => by rw [HTK.out] at hy; rcases List.mem_append.1 hy with hy | hy; exact HL.out y hy; rw [List.mem_singleton.1 hy]; exact HLX.out⟩, ⟨by rw [HEQ.out]; exact H2.out⟩, ⟨((pw_below_drewN HB.out nd).trans B1.out).trans B2.out⟩⟩
          · have hst1 : (x.toList == ([42] : List UInt8)) = false := beq_eq_false_iff_ne.mpr hst
            have hst2 : (x.toList != ([42] : List UInt8)) = true := bne_iff_ne.mpr hst
            have HNL : Aside0 (labL (L x) = false) := ⟨by have h1 := HOX.out; rw [toList_L] at hst; simp [labL, h1, hst]⟩
            clear hst
            have HR12 : Aside0 (r1 = ⟨#[]⟩ ∧ r2 = 2) := ⟨by
              have h := HH.out
              rw [if_neg (by rw [List.all_eq_true]; intro hall; have := hall x HM.out; rw [HNL.out] at this; cases this)] at h
              exact ⟨(Prod.mk.inj h).1.symm, (Prod.mk.inj h).2.symm⟩⟩
            go_wp2_with (first
              | (go_at_call 47; (with_reducible refine (dname_ordinary.calls (x.size + 3) x false _ HO.out).mono ?_); rintro e w' ⟨rfl, ⟨nd, rfl⟩⟩))
            go_ret2
            obtain ⟨e1, e2⟩ := HR12.out
            subst e1; subst e2
            exact ⟨rfl, pw_below_drewN HB.out nd⟩
      · have hi : i = l0.length := by omega
        subst hi
        have hltb : decide ((l0.length : Int) < (l0.length : Int)) = false := decide_eq_false (by omega)
        have htk : l0.take l0.length = l0 := List.take_length
        have HI2 : Aside0 (Lib.IsBuilder 80 5 w.heap.size w.heap.size (Lib.byteCells (txt (l0.map L))) wr) := ⟨by have := HI.out; rw [htk] at this; exact this⟩
        have HL2 : Aside0 (∀ x ∈ l0, labL (L x) = true) := ⟨by have := HL.out; rw [htk] at this; exact this⟩
        clear HI HL htk
        have hres := HH.out
        rw [if_pos (by rw [List.all_eq_true]; exact HL2.out)] at hres
        have hsz : (B (txt (l0.map L))).size ≤ 140737488351232 := by
          rw [B_size]
          have := txt_len_le (l := l0.map L) (fun y hy => by obtain ⟨z, hz, rfl⟩ := List.mem_map.1 hy; exact HL2.out z hz)
          have h2 := HC2.out
          rw [List.length_map] at this; omega
        have hv := valid_f (B (txt (l0.map L))) hsz 1000 (Nat.le_refl _)
        rw [L_B] at hv
        obtain ⟨s, hs⟩ : ∃ s, s = B (txt (l0.map L)) := ⟨_, rfl⟩
        rw [← hs] at hv
        have hs2 : (⟨(txt (l0.map L)).toArray⟩ : ByteArray) = s := hs.symm
        have HS2 := Aside0.mk hs2
        have HV := Aside0.mk hv
        have HRES := Aside0.mk hres
        have HSS := Aside0.mk hs
        clear hsz hv hs hs2 hres
        cases hvl : validL (txt (l0.map L)) with
        | true =>
          have HV1 : Aside0 (dname_Valid.f 1000 s = some true) := ⟨by rw [HV.out, hvl]⟩
          have HR12 : Aside0 (r1 = s ∧ r2 = 0) := ⟨by have h := HRES.out; rw [if_pos hvl] at h; rw [HSS.out]; exact ⟨(Prod.mk.inj h).1.symm, (Prod.mk.inj h).2.symm⟩⟩
          clear hvl
          go_wp2_with (first
            | (go_at_call 50; (with_reducible refine (Builder_String_any w.heap.size w.heap.size _ _ HI2.out (by have := HB.out.size; exact this)).mono ?_); rintro e w1 ⟨rfl, b1⟩; have B1 := Aside0.mk b1; clear b1; rw [HS2.out])
            | (go_at_call 51; (with_reducible refine (dname_Valid.calls 1000 s true _ HV1.out).mono ?_); rintro e w2 ⟨rfl, b2⟩; have B2 := Aside0.mk b2; clear b2))
          go_ret2
          obtain ⟨e1, e2⟩ := HR12.out
          subst e1; subst e2
          have hb := HB.out.trans B1.out
          exact ⟨rfl, below_then hb hb.size B2.out⟩
        | false =>
          have HV1 : Aside0 (dname_Valid.f 1000 s = some false) := ⟨by rw [HV.out, hvl]⟩
          have HR12 : Aside0 (r1 = ⟨#[]⟩ ∧ r2 = 2) := ⟨by have h := HRES.out; rw [if_neg (by rw [hvl]; decide)] at h; exact ⟨(Prod.mk.inj h).1.symm, (Prod.mk.inj h).2.symm⟩⟩
          clear hvl
          go_wp2_with (first
            | (go_at_call 50; (with_reducible refine (Builder_String_any w.heap.size w.heap.size _ _ HI2.out (by have := HB.out.size; exact this)).mono ?_); rintro e w1 ⟨rfl, b1⟩; have B1 := Aside0.mk b1; clear b1; rw [HS2.out])
            | (go_at_call 51; (with_reducible refine (dname_Valid.calls 1000 s false _ HV1.out).mono ?_); rintro e w2 ⟨rfl, b2⟩; have B2 := Aside0.mk b2; clear b2))
          go_ret2
          obtain ⟨e1, e2⟩ := HR12.out
          subst e1; subst e2
          have hb := HB.out.trans B1.out
          exact ⟨rfl, below_then hb hb.size B2.out⟩
  · cases h
end Go.Proofs.YtlabnocmmeciaaaGreatDoor.Pa
