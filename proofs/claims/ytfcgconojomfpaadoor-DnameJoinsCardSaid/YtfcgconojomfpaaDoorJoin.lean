/- The contract of dname.Join, in the form of the printed functions: its Builder by the shelf's contracts, the labels and the name by what dname_ordinary and dname_Valid answer. -/
import Derived.Test.YtfcgconojomfpaaDoorBase
import Derived.Shelf.Strings.Builder1
namespace Go.Proofs.YtfcgconojomfpaaDoor.Pa
open Go.RowKit Go.Shelf Go.Proofs.YtfcgconojomfpaaDoorW.PrintWords Go.Proofs.YtfcgconojomfpaaDoorW.PrintLast Go.Proofs.YtfcgconojomfpaaDoor.DN
set_option linter.unusedVariables false
set_option linter.unusedSimpArgs false

def joinL (l : List ByteArray) : ByteArray × Int :=
  if l = [] then (⟨#[46]⟩, 0) else if l.length > 255 then (⟨#[]⟩, 2)
  else if l.all (fun x => labL (L x)) then (if validL (txt (l.map L)) then (B (txt (l.map L)), 0) else (⟨#[]⟩, 2)) else (⟨#[]⟩, 2)
def dname_Join.f (l0 : List ByteArray) : Option (ByteArray × Int) := if l0.all (fun x => decide (x.size ≤ 140737488351232)) then some (joinL l0) else none

theorem heap_drewN' (w : World) (n : Nat) : (w.drewN n).heap = w.heap := by simp
theorem builder_drewN {T e : TypeId} {B b : Nat} {bs : List Value} {w : World} (h : Lib.IsBuilder T e B b bs w) (n : Nat) : Lib.IsBuilder T e B b bs (w.drewN n) := by
  have hp : ∀ p, Lib.BuilderAt T e B b p bs w → Lib.BuilderAt T e B b p bs (w.drewN n) := by
    rintro p ⟨hB, v, h1, ⟨h2, h3⟩, h4⟩
    refine ⟨hB, v, by rw [heap_drewN']; exact h1, ⟨h2, ?_⟩, h4⟩
    rcases h3 with h3 | ⟨g, cap, cur, rfl, hg, hh, r⟩
    · exact .inl h3
    · exact .inr ⟨g, cap, cur, rfl, hg, by rw [heap_drewN']; exact hh, r⟩
  exact h.imp (hp _) (hp _)

theorem lab_len {s : List UInt8} (h : labL s = true) : s.length ≤ 63 := by
  simp only [labL, ordL, Bool.or_eq_true, Bool.and_eq_true, decide_eq_true_iff, beq_iff_eq] at h
  rcases h with h | rfl
  · exact h.1.2
  · simp
theorem txt_len_le : ∀ {l : List (List UInt8)}, (∀ x ∈ l, labL x = true) → (txt l).length ≤ 64 * l.length
  | [], _ => by simp [txt]
  | x :: l, h => by
    have h1 := lab_len (h x (by simp))
    have h2 := txt_len_le (l := l) (fun y hy => h y (by simp [hy]))
    rw [txt_cons]; simp; omega

theorem Builder_WriteByte (B b : Nat) (bs : List Value) (c : Int) (w : World) (h : Lib.IsBuilder 52 5 B b bs w) (hlen : bs.length + 1 ≤ 140737488355328) (hBw : B ≤ w.heap.size) :
    Calls Tryd.prog 51 #[.pointer (some ⟨b, 0, none⟩), .int .u8 c] w fun e w' => e = .returned .nilIface ∧ Lib.IsBuilder 52 5 B b (bs ++ [.int .u8 c]) w' ∧ Below B w w' :=
  (Any.Builder_WriteByte Tryd.lay167 Tryd.bx B b bs c w h hlen hBw).mono fun e w' ⟨he, hb, hB⟩ => ⟨he, Or.inr hb, hB⟩
theorem Builder_WriteString (B b : Nat) (bs : List Value) (s : ByteArray) (w : World) (h : Lib.IsBuilder 52 5 B b bs w) (hlen : bs.length + s.size ≤ 140737488355328) (hBw : B ≤ w.heap.size) :
    Calls Tryd.prog 50 #[.pointer (some ⟨b, 0, none⟩), .string s] w fun e w' => e = .returned (.tuple #[.int .i64 s.size, .nilIface]) ∧ Lib.IsBuilder 52 5 B b (bs ++ Lib.strCells s) w' ∧ Below B w w' :=
  (Any.Builder_WriteString Tryd.lay166 Tryd.bx B b bs s w h hlen hBw).mono fun e w' ⟨he, hb, hB⟩ => ⟨he, Or.inr hb, hB⟩
theorem Builder_String_any (B b : Nat) (l : List UInt8) (w : World) (h : Lib.IsBuilder 52 5 B b (Lib.byteCells l) w) (hBw : B ≤ w.heap.size) :
    Calls Tryd.prog 52 #[.pointer (some ⟨b, 0, none⟩)] w fun e w' => e = .returned (.string ⟨l.toArray⟩) ∧ Below B w w' :=
  Any.Builder_String_any Tryd.lay169 Tryd.bx B b l w h hBw

set_option maxHeartbeats 8000000 in
set_option maxRecDepth 100000 in
theorem dname_Join.calls (A0 : Option Addr) (c0 : Nat) (l0 : List ByteArray) (r1 : ByteArray) (r2 : Int) (w : World) (hr0 : Kd.C Kd.string w A0 l0.length l0) (hc0 : l0.length ≤ c0) (h : dname_Join.f l0 = some (r1, r2)) :
    Calls Tryd.prog 35 #[.slice A0 l0.length c0] w fun e w' => e = .returned (.tuple #[.string r1, .int .i64 r2]) ∧ Below w.heap.size w w' := by
  unfold dname_Join.f at h
  split at h
  · rename_i hsz0
    have hsz : ∀ x ∈ l0, x.size ≤ 140737488351232 := by simpa using hsz0
    clear hsz0
    have h := Option.some.inj h
    unfold joinL at h
    by_cases c1 : l0 = []
    · rw [if_pos c1] at h
      obtain ⟨rfl, rfl⟩ := Prod.mk.inj h
      subst c1
      clear hsz h hr0
      go_enter Tryd.func35, Tryd.ntmps35
      go_wp2
      go_ret2
      exact ⟨rfl, Below.refl _ _⟩
    rw [if_neg c1] at h
    have hpos : 0 < l0.length := List.length_pos_iff.2 c1
    have c1b : ((l0.length : Int) == 0) = false := beq_eq_false_iff_ne.mpr (by omega)
    by_cases c2 : l0.length > 255
    · rw [if_pos c2] at h
      obtain ⟨rfl, rfl⟩ := Prod.mk.inj h
      have c2b : decide (255 < (l0.length : Int)) = true := decide_eq_true (by omega)
      have c2n : decide (255 < l0.length) = true := decide_eq_true (by omega)
      clear hsz h hr0
      go_enter Tryd.func35, Tryd.ntmps35
      go_wp2
      go_ret2
      exact ⟨rfl, Below.refl _ _⟩
    rw [if_neg c2] at h
    have c2b : decide (255 < (l0.length : Int)) = false := decide_eq_false (by omega)
    have c2n : decide (255 < l0.length) = false := decide_eq_false (by omega)
    have HH := Aside0.mk h
    have HSZ := Aside0.mk hsz
    have HR := Aside0.mk hr0
    have HC1 := Aside0.mk c1
    have HC2 := Aside0.mk c2
    have HC0 := Aside0.mk hc0
    have HP := Aside0.mk hpos
    have hl : l0.length ≤ 9223372036854775807 := by omega
    have h0 : Lib.IsBuilder 52 5 w.heap.size w.heap.size (Lib.byteCells []) (w.alloc (.cells #[.pointer none, .slice none 0 0] 52)) := Lib.fresh_isBuilder 52 5 w
    have H0 := Aside0.mk h0
    have b0 : Below w.heap.size w (w.alloc (.cells #[.pointer none, .slice none 0 0] 52)) := (Below.refl _ w).alloc (Nat.le_refl _) _
    have HB0 := Aside0.mk b0
    clear h hsz hr0 c1 c2 h0 b0 hc0 hpos
    go_enter Tryd.func35, Tryd.ntmps35
    go_wp2
    go_loopw [16] (fun v wr => ∃ i : Nat, v = .int .i64 i ∧ i ≤ l0.length ∧ Aside0 (∀ x ∈ l0.take i, labL (L x) = true) ∧ Aside0 (Lib.IsBuilder 52 5 w.heap.size w.heap.size (Lib.byteCells (txt ((l0.take i).map L))) wr) ∧ Aside0 (Below w.heap.size w wr)) (fun v _ => l0.length - (intOf v).toNat)
    case atStart => exact ⟨0, rfl, Nat.zero_le _, ⟨by simp⟩, by simpa [txt] using H0, HB0⟩
    case round =>
      obtain ⟨i, rfl, hin, HL, HI, HB⟩ := hrel
      clear H0 HB0
      by_cases hlt : i < l0.length
      · have hltb : decide ((i : Int) < (l0.length : Int)) = true := decide_eq_true (by omega)
        have hltn : decide (i < l0.length) = true := decide_eq_true hlt
        have p1 : 0 ≤ (i : Int) := by omega
        have q1 : (i : Int) < (l0.length : Int) := by omega
        obtain ⟨ad1, e1, hx1⟩ := Kd.at_string (Kd.C_below HR.out HB.out) (i : Int) p1 q1
        cases e1
        have hxi : rdOf ByteArray.empty l0 (i : Int) = l0[i] := by simp [rdOf, hlt]
        have hmem : l0[i] ∈ l0 := List.getElem_mem hlt
        have hsx := HSZ.out _ hmem
        obtain ⟨x, hx⟩ : ∃ x, x = l0[i] := ⟨_, rfl⟩
        rw [hxi, ← hx, Int.toNat_natCast] at hx1
        rw [← hx] at hmem hsx
        have HX := Aside0.mk hx
        clear hx hxi
        have ho := ord_f x hsx (x.size + 3) (Nat.le_refl _)
        have htk : l0.take (i + 1) = l0.take i ++ [x] := by rw [List.take_succ_eq_append_getElem hlt, ← HX.out]
        have HTK := Aside0.mk htk
        have HSX := Aside0.mk hsx
        have HM := Aside0.mk hmem
        clear htk hsx hmem
        have hcl : Aside0 ((Lib.byteCells (txt ((l0.take i).map L))).length ≤ 64 * 255) := ⟨by
          rw [Lib.byteCells_length]
          have := txt_len_le (l := (l0.take i).map L) (fun y hy => by obtain ⟨z, hz, rfl⟩ := List.mem_map.1 hy; exact HL.out z hz)
          have h2 := HC2.out
          rw [List.length_map, List.length_take] at this; omega⟩
        have HCL := hcl
        clear hcl
        have HEQ : Aside0 (Lib.byteCells (txt ((l0.take (i + 1)).map L)) = Lib.byteCells (txt ((l0.take i).map L)) ++ Lib.strCells x ++ [.int .u8 46]) := ⟨by
          rw [HTK.out, List.map_append, txt_append]; simp [txt, Lib.byteCells, Lib.strCells]⟩
        cases hox : ordL (L x) with
        | true =>
          rw [hox] at ho
          have HO := Aside0.mk ho
          have HLX : Aside0 (labL (L x) = true) := ⟨by simp [labL, hox]⟩
          clear ho hox
          have HXL : Aside0 (x.size ≤ 63) := ⟨by have := lab_len HLX.out; rw [L_len] at this; exact this⟩
          go_wp2_with (first
              | (go_at_call 41; (with_reducible refine (dname_ordinary.calls (x.size + 3) x true _ HO.out).mono ?_); rintro e w' ⟨rfl, ⟨nd, rfl⟩⟩)
              | (go_at_call 50; (with_reducible refine (Builder_WriteString w.heap.size w.heap.size _ x _ (builder_drewN HI.out nd) (by have := HCL.out; have := HXL.out; omega) (by have := HB.out.size; simpa using this)).mono ?_); rintro e w1 ⟨rfl, h1, b1⟩; have H1 := Aside0.mk h1; have B1 := Aside0.mk b1; clear h1 b1)
              | (go_at_call 51; (with_reducible refine (Builder_WriteByte w.heap.size w.heap.size _ 46 _ H1.out (by have := HCL.out; have := HXL.out; simp only [List.length_append, Lib.strCells_length]; omega) (by have h1 := HB.out.size; have h2 := B1.out.size; simp at h2; omega)).mono ?_); rintro e w2 ⟨rfl, h2, b2⟩; have H2 := Aside0.mk h2; have B2 := Aside0.mk b2; clear h2 b2))
          go_roundw
          case measure => simp [intOf]; omega
          case rel => exact ⟨i + 1, by go_num, by omega, ⟨fun y hy => by rw [HTK.out] at hy; rcases List.mem_append.1 hy with hy | hy; exact HL.out y hy; rw [List.mem_singleton.1 hy]; exact HLX.out⟩, ⟨by rw [HEQ.out]; exact H2.out⟩, ⟨((pw_below_drewN HB.out nd).trans B1.out).trans B2.out⟩⟩
        | false =>
          rw [hox] at ho
          have HO := Aside0.mk ho
          have HOX := Aside0.mk hox
          clear ho hox
          by_cases hst : x.toList = [42]
          · have hst1 : (x.toList == ([42] : List UInt8)) = true := beq_iff_eq.mpr hst
            have hst2 : (x.toList != ([42] : List UInt8)) = false := bne_eq_false_iff_eq.mpr hst
            have HLX : Aside0 (labL (L x) = true) := ⟨by rw [toList_L] at hst; simp [labL, hst]⟩
            have HXL : Aside0 (x.size ≤ 63) := ⟨by have := lab_len HLX.out; rw [L_len] at this; exact this⟩
            clear hst
            go_wp2_with (first
              | (go_at_call 41; (with_reducible refine (dname_ordinary.calls (x.size + 3) x false _ HO.out).mono ?_); rintro e w' ⟨rfl, ⟨nd, rfl⟩⟩)
              | (go_at_call 50; (with_reducible refine (Builder_WriteString w.heap.size w.heap.size _ x _ (builder_drewN HI.out nd) (by have := HCL.out; have := HXL.out; omega) (by have := HB.out.size; simpa using this)).mono ?_); rintro e w1 ⟨rfl, h1, b1⟩; have H1 := Aside0.mk h1; have B1 := Aside0.mk b1; clear h1 b1)
              | (go_at_call 51; (with_reducible refine (Builder_WriteByte w.heap.size w.heap.size _ 46 _ H1.out (by have := HCL.out; have := HXL.out; simp only [List.length_append, Lib.strCells_length]; omega) (by have h1 := HB.out.size; have h2 := B1.out.size; simp at h2; omega)).mono ?_); rintro e w2 ⟨rfl, h2, b2⟩; have H2 := Aside0.mk h2; have B2 := Aside0.mk b2; clear h2 b2))
            go_roundw
            case measure => simp [intOf]; omega
            case rel => exact ⟨i + 1, by go_num, by omega, ⟨fun y hy => by rw [HTK.out] at hy; rcases List.mem_append.1 hy with hy | hy; exact HL.out y hy; rw [List.mem_singleton.1 hy]; exact HLX.out⟩, ⟨by rw [HEQ.out]; exact H2.out⟩, ⟨((pw_below_drewN HB.out nd).trans B1.out).trans B2.out⟩⟩
          · have hst1 : (x.toList == ([42] : List UInt8)) = false := beq_eq_false_iff_ne.mpr hst
            have hst2 : (x.toList != ([42] : List UInt8)) = true := bne_iff_ne.mpr hst
            have HNL : Aside0 (labL (L x) = false) := ⟨by have h1 := HOX.out; rw [toList_L] at hst; simp [labL, h1, hst]⟩
            clear hst
            have HR12 : Aside0 (r1 = ⟨#[]⟩ ∧ r2 = 2) := ⟨by
              have h := HH.out
              rw [if_neg (by rw [List.all_eq_true]; intro hall; have := hall x HM.out; rw [HNL.out] at this; cases this)] at h
              exact ⟨(Prod.mk.inj h).1.symm, (Prod.mk.inj h).2.symm⟩⟩
            go_wp2_with (first
              | (go_at_call 41; (with_reducible refine (dname_ordinary.calls (x.size + 3) x false _ HO.out).mono ?_); rintro e w' ⟨rfl, ⟨nd, rfl⟩⟩))
            go_ret2
            obtain ⟨e1, e2⟩ := HR12.out
            subst e1; subst e2
            exact ⟨rfl, pw_below_drewN HB.out nd⟩
      · have hi : i = l0.length := by omega
        subst hi
        have hltb : decide ((l0.length : Int) < (l0.length : Int)) = false := decide_eq_false (by omega)
        have htk : l0.take l0.length = l0 := List.take_length
        have HI2 : Aside0 (Lib.IsBuilder 52 5 w.heap.size w.heap.size (Lib.byteCells (txt (l0.map L))) wr) := ⟨by have := HI.out; rw [htk] at this; exact this⟩
        have HL2 : Aside0 (∀ x ∈ l0, labL (L x) = true) := ⟨by have := HL.out; rw [htk] at this; exact this⟩
        clear HI HL htk
        have hres := HH.out
        rw [if_pos (by rw [List.all_eq_true]; exact HL2.out)] at hres
        have hsz : (B (txt (l0.map L))).size ≤ 140737488351232 := by
          rw [B_size]
          have := txt_len_le (l := l0.map L) (fun y hy => by obtain ⟨z, hz, rfl⟩ := List.mem_map.1 hy; exact HL2.out z hz)
          have h2 := HC2.out
          rw [List.length_map] at this; omega
        have hv := valid_f (B (txt (l0.map L))) hsz 1000 (Nat.le_refl _)
        rw [L_B] at hv
        obtain ⟨s, hs⟩ : ∃ s, s = B (txt (l0.map L)) := ⟨_, rfl⟩
        rw [← hs] at hv
        have hs2 : (⟨(txt (l0.map L)).toArray⟩ : ByteArray) = s := hs.symm
        have HS2 := Aside0.mk hs2
        have HV := Aside0.mk hv
        have HRES := Aside0.mk hres
        have HSS := Aside0.mk hs
        clear hsz hv hs hs2 hres
        cases hvl : validL (txt (l0.map L)) with
        | true =>
          have HV1 : Aside0 (dname_Valid.f 1000 s = some true) := ⟨by rw [HV.out, hvl]⟩
          have HR12 : Aside0 (r1 = s ∧ r2 = 0) := ⟨by have h := HRES.out; rw [if_pos hvl] at h; rw [HSS.out]; exact ⟨(Prod.mk.inj h).1.symm, (Prod.mk.inj h).2.symm⟩⟩
          clear hvl
          go_wp2_with (first
            | (go_at_call 52; (with_reducible refine (Builder_String_any w.heap.size w.heap.size _ _ HI2.out (by have := HB.out.size; exact this)).mono ?_); rintro e w1 ⟨rfl, b1⟩; have B1 := Aside0.mk b1; clear b1; rw [HS2.out])
            | (go_at_call 15; (with_reducible refine (dname_Valid.calls 1000 s true _ HV1.out).mono ?_); rintro e w2 ⟨rfl, b2⟩; have B2 := Aside0.mk b2; clear b2))
          go_ret2
          obtain ⟨e1, e2⟩ := HR12.out
          subst e1; subst e2
          have hb := HB.out.trans B1.out
          exact ⟨rfl, below_then hb hb.size B2.out⟩
        | false =>
          have HV1 : Aside0 (dname_Valid.f 1000 s = some false) := ⟨by rw [HV.out, hvl]⟩
          have HR12 : Aside0 (r1 = ⟨#[]⟩ ∧ r2 = 2) := ⟨by have h := HRES.out; rw [if_neg (by rw [hvl]; decide)] at h; exact ⟨(Prod.mk.inj h).1.symm, (Prod.mk.inj h).2.symm⟩⟩
          clear hvl
          go_wp2_with (first
            | (go_at_call 52; (with_reducible refine (Builder_String_any w.heap.size w.heap.size _ _ HI2.out (by have := HB.out.size; exact this)).mono ?_); rintro e w1 ⟨rfl, b1⟩; have B1 := Aside0.mk b1; clear b1; rw [HS2.out])
            | (go_at_call 15; (with_reducible refine (dname_Valid.calls 1000 s false _ HV1.out).mono ?_); rintro e w2 ⟨rfl, b2⟩; have B2 := Aside0.mk b2; clear b2))
          go_ret2
          obtain ⟨e1, e2⟩ := HR12.out
          subst e1; subst e2
          have hb := HB.out.trans B1.out
          exact ⟨rfl, below_then hb hb.size B2.out⟩
  · cases h
end Go.Proofs.YtfcgconojomfpaaDoor.Pa
