/- The contract of dname.lower, in the form of the printed functions: the string's bytes in a new row, each turned in its place. -/
import Derived.Test.YtfcgconojomfpaaDoorPax0
import Derived.Test.YtfcgconojomfpaaDoorThy
namespace Go.Proofs.YtfcgconojomfpaaDoor.Pa
open Go.RowKit Go.Proofs.YtfcgconojomfpaaDoorW.PrintWords Go.Proofs.YtfcgconojomfpaaDoorW.PrintLast Go.Proofs.YtfcgconojomfpaaDoor.DN
set_option linter.unusedVariables false
set_option linter.unusedSimpArgs false

/-- A to Z turned to a to z -/
def lowC (c : UInt8) : UInt8 := if 65 ≤ c ∧ c ≤ 90 then c + 32 else c
def lowS (s : ByteArray) : ByteArray := B ((L s).map lowC)
def dname_lower.f (a0 : ByteArray) : Option ByteArray := if a0.size ≤ 140737488351232 then some (lowS a0) else none

/-- the row while the loop runs: the first i bytes are turned -/
def LowAt (b : Nat) (s : ByteArray) (i : Nat) (w : World) : Prop :=
  ∃ cur : Array Value, s.size ≤ cur.size ∧ w.heap[b]? = some (.cells cur 5 (cur.size, cur.size + 1)) ∧ ∀ j (h : j < (L s).length), cur[j]? = some (.int .u8 ((if j < i then lowC (L s)[j] else (L s)[j]).toNat : Int))

theorem LowAt.cell {b : Nat} {s : ByteArray} {i : Nat} {w : World} (h : LowAt b s i w) (j : Nat) (hj : j < (L s).length) : w.cell? ⟨b, j, none⟩ = some (.int .u8 ((if j < i then lowC (L s)[j] else (L s)[j]).toNat : Int)) := by
  obtain ⟨cur, h1, h2, h3⟩ := h
  simp [World.cell?, h2, h3 j hj]
theorem LowAt.free {b : Nat} {s : ByteArray} {i : Nat} {w : World} (h : LowAt b s i w) (j : Nat) (hj : j < (L s).length) : w.frozen? ⟨b, j, none⟩ = false := by
  obtain ⟨cur, h1, h2, h3⟩ := h
  rw [L_len] at hj
  simp [World.frozen?, h2]
  omega
theorem LowAt.set {b : Nat} {s : ByteArray} {i : Nat} {w : World} (h : LowAt b s i w) (hi : i < (L s).length) : LowAt b s (i + 1) (w.setCell ⟨b, i, none⟩ (.int .u8 ((lowC (L s)[i]).toNat : Int))) := by
  obtain ⟨cur, h1, h2, h3⟩ := h
  refine ⟨cur.setIfInBounds i (.int .u8 ((lowC (L s)[i]).toNat : Int)), by simpa using h1, ?_, fun j hj => ?_⟩
  · rw [setCell_eq_setRow w b i cur _ _ _ h2, setRow_heap w b cur _ _ _ h2]; simp
  · have hsz := L_len s
    rw [Array.getElem?_setIfInBounds]
    by_cases e : i = j
    · subst e; rw [if_pos rfl, if_pos (by omega), if_pos (by omega)]
    · rw [if_neg e, h3 j hj]
      congr 4
      by_cases hj2 : j < i
      · rw [if_pos hj2, if_pos (by omega)]
      · rw [if_neg hj2, if_neg (by omega)]
theorem LowAt.skip {b : Nat} {s : ByteArray} {i : Nat} {w : World} (h : LowAt b s i w) (hi : i < (L s).length) (hc : lowC (L s)[i] = (L s)[i]) : LowAt b s (i + 1) w := by
  obtain ⟨cur, h1, h2, h3⟩ := h
  refine ⟨cur, h1, h2, fun j hj => ?_⟩
  rw [h3 j hj]
  congr 4
  by_cases hj2 : j < i
  · rw [if_pos hj2, if_pos (by omega)]
  · rw [if_neg hj2]
    by_cases e : j = i
    · subst e; rw [if_pos (by omega), hc]
    · rw [if_neg (by omega)]
theorem LowAt.reads {b : Nat} {s : ByteArray} {w : World} (h : LowAt b s s.size w) (hs : s.size ≤ 140737488351232) : (Kd.int .u8).C w (some ⟨b, 0, none⟩) s.size (((L s).map lowC).map fun c => (c.toNat : Int)) := by
  have hl := L_len s
  refine ⟨by simp [hl], by omega, fun _ => ⟨_, rfl, fun j p hp => ?_⟩⟩
  have hj : j < (L s).length := by have := (List.getElem?_eq_some_iff.1 hp).1; simpa using this
  have hpe : p = ((lowC (L s)[j]).toNat : Int) := by
    rw [List.getElem?_map, List.getElem?_map, List.getElem?_eq_getElem hj] at hp; simpa using hp.symm
  refine ⟨[.int .u8 p], rfl, rfl, fun i u hu => ?_⟩
  have hi : i = 0 := by
    cases i with
    | zero => rfl
    | succ i => simp at hu
  subst hi
  obtain rfl : Value.int .u8 p = u := by simpa using hu
  have hc := h.cell j hj
  rw [if_pos (by omega)] at hc
  rw [hpe]
  show w.cell? ((⟨b, 0, none⟩ : Addr).add (j * 1 + 0)) = _
  have ha : (⟨b, 0, none⟩ : Addr).add (j * 1 + 0) = ⟨b, j, none⟩ := by
    unfold Addr.add; by_cases hz : j = 0 <;> simp [hz]
  rw [ha]; exact hc

set_option maxHeartbeats 8000000 in
set_option maxRecDepth 100000 in
theorem dname_lower.calls (a0 : ByteArray) (r : ByteArray) (w : World) (h : dname_lower.f a0 = some r) :
    Calls Tryd.prog 37 #[.string a0] w fun e w' => e = .returned (.string r) ∧ Below w.heap.size w w' := by
  unfold dname_lower.f at h
  split at h
  · rename_i hs
    obtain rfl := Option.some.inj h
    clear h
    have hcv := Lib.run_convert_string_bytes (P := Tryd.prog) w 9 50 5 a0 (u := .string) Tryd.underlying9 Tryd.underlying50 Tryd.underlying5
    have h0 : LowAt w.heap.size a0 0 (Lib.bytesWorld w 5 a0) := by
      refine ⟨Lib.bytesCells w 5 a0, by simp [Lib.bytesCells], Lib.bytesWorld_at_new w _ a0, fun j hj => ?_⟩
      have hj' : j < a0.size := by rw [L_len] at hj; exact hj
      have hj2 : j < a0.data.size := hj'
      rw [if_neg (by omega)]
      simp [Lib.bytesCells, Array.getElem?_append, hj', Array.getElem?_eq_getElem hj2]
    have HB0 : Aside0 (Below w.heap.size w (Lib.bytesWorld w 5 a0)) := ⟨⟨rfl, rfl, rfl, by rw [Lib.bytesWorld_size]; omega, fun i hi => Lib.bytesWorld_at_old w _ a0 i hi⟩⟩
    have H0 := Aside0.mk h0
    clear h0
    go_enter Tryd.func37, Tryd.ntmps37
    go_wp2
    go_loopw [10] (fun v wr => ∃ i : Nat, v = .int .i64 i ∧ i ≤ a0.size ∧ Aside0 (LowAt w.heap.size a0 i wr) ∧ Aside0 (Below w.heap.size w wr)) (fun v _ => a0.size - (intOf v).toNat)
    case atStart => exact ⟨0, rfl, Nat.zero_le _, H0, HB0⟩
    case round =>
      obtain ⟨i, rfl, hin, HL, HB⟩ := hrel
      clear H0 HB0 hcv
      by_cases hlt : i < a0.size
      · have hi : i < (L a0).length := by rw [L_len]; exact hlt
        have hlb : decide ((i : Int) < (a0.size : Int)) = true := decide_eq_true (by omega)
        have hln : decide (i < a0.size) = true := decide_eq_true hlt
        have hcell := HL.out.cell i hi
        rw [if_neg (by omega)] at hcell
        have hfree := HL.out.free i hi
        obtain ⟨c, hc⟩ : ∃ c, c = (L a0)[i] := ⟨_, rfl⟩
        rw [← hc] at hcell
        have hset := HL.out.set hi
        have hskip := HL.out.skip hi
        rw [← hc] at hset hskip
        have hlo : decide ((65 : Int) ≤ (c.toNat : Int)) = decide (65 ≤ c) := by simp [UInt8.le_iff_toNat_le]; omega
        have hhi : decide ((c.toNat : Int) ≤ (90 : Int)) = decide (c ≤ 90) := by simp [UInt8.le_iff_toNat_le]; omega
        have hlt256 := c.toNat_lt
        clear hc
        by_cases h1 : 65 ≤ c ∧ c ≤ 90
        · have hlo' : decide ((65 : Int) ≤ (c.toNat : Int)) = true := by rw [hlo]; simp [h1.1]
          have hhi' : decide ((c.toNat : Int) ≤ (90 : Int)) = true := by rw [hhi]; simp [h1.2]
          have hlow : lowC c = c + 32 := by simp [lowC, h1]
          have hsum : ((c + 32).toNat : Int) = (c.toNat : Int) + 32 := by
            have : c.toNat ≤ 90 := by have := h1.2; rw [UInt8.le_iff_toNat_le] at this; exact this
            rw [UInt8.toNat_add]; simp; omega
          rw [hlow, hsum] at hset
          have hle90 : (c.toNat : Int) ≤ 90 := of_decide_eq_true hhi'
          have HS := Aside0.mk hset
          have HF := Aside0.mk hfree
          clear hset hskip hlo hhi hlow hsum h1
          go_wp2
          go_roundw
          case measure => simp [intOf]; omega
          case rel => exact ⟨i + 1, by go_num, by omega, HS, ⟨HB.out.setCell (Nat.le_refl _) _⟩⟩
        · have hlow : lowC c = c := by unfold lowC; rw [if_neg h1]
          have HK := Aside0.mk (hskip hlow)
          clear hset hskip hlow
          by_cases h2 : 65 ≤ c
          · have hlo' : decide ((65 : Int) ≤ (c.toNat : Int)) = true := by rw [hlo]; simp [h2]
            have hhi' : decide ((c.toNat : Int) ≤ (90 : Int)) = false := by rw [hhi]; simpa using fun h => h1 ⟨h2, h⟩
            clear hlo hhi h1 h2
            go_wp2
            go_roundw
            case measure => simp [intOf]; omega
            case rel => exact ⟨i + 1, by go_num, by omega, HK, HB⟩
          · have hlo' : decide ((65 : Int) ≤ (c.toNat : Int)) = false := by rw [hlo]; simpa using h2
            clear hlo hhi h1 h2
            go_wp2
            go_roundw
            case measure => simp [intOf]; omega
            case rel => exact ⟨i + 1, by go_num, by omega, HK, HB⟩
      · have hi : i = a0.size := by omega
        subst hi
        have hlb : decide ((a0.size : Int) < (a0.size : Int)) = false := decide_eq_false (by omega)
        have hst := Kd.C_string (w := wr) (src := 50) (dst := 9) (e := 5) (c := grownCap w a0.size 0 5) Tryd.underlying50 Tryd.underlying5 Tryd.underlying9 (HL.out.reads hs)
        have hres : strOfNums (((L a0).map lowC).map fun c => (c.toNat : Int)) = lowS a0 := by
          unfold strOfNums lowS B
          congr 1
          simp
        rw [hres] at hst
        go_wp2
        go_ret
        exact ⟨rfl, HB.out⟩
  · cases h
end Go.Proofs.YtfcgconojomfpaaDoor.Pa
