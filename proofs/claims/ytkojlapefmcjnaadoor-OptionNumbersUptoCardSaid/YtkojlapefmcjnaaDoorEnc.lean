/- The contract of option.Encode, in the form of the printed functions: the options are valid, or refused; its Builder by the contracts with the wider frame. -/
import Derived.Test.YtkojlapefmcjnaaDoorBld
import Derived.Test.YtkojlapefmcjnaaDoorVal
namespace Go.Proofs.YtkojlapefmcjnaaDoor.Pa
open Go Go.RowKit Go.Shelf Go.Proofs.YtkojlapefmcjnaaDoorW.PrintWords Go.Proofs.YtkojlapefmcjnaaDoorW.PrintLast Go.Proofs.YtkojlapefmcjnaaDoorW.PrintMore Go.Proofs.YtkojlapefmcjnaaDoor.DN Go.Proofs.YtkojlapefmcjnaaDoor.OPT
attribute [local go_sem] max2_int min2_int max_two min_two
set_option linter.unusedVariables false
set_option linter.unusedSimpArgs false

def encA (l : List O) : ByteArray × Int := if vld l then (B (enc l), 0) else (⟨#[]⟩, 1)
def option_Encode.f (l0 : List S34) : Option (ByteArray × Int) := if l0.all (fun x => decide (x.f1.size ≤ 140737488351232)) then some (encA (ab l0)) else none

def encW (first : Bool) (c : UInt8) (v : List UInt8) : List UInt8 := if first = false ∧ v = [] then [] else encV c v
theorem encW_step (first : Bool) (c : UInt8) (v : List UInt8) (h : ¬ (first = false ∧ v = [])) :
    encW first c v = c :: UInt8.ofNat (min v.length 255) :: (v.take (min v.length 255) ++ encW false c (v.drop (min v.length 255))) := by
  unfold encW
  rw [if_neg h, encV]
  by_cases h2 : v.length ≤ 255
  · rw [dif_pos h2, Nat.min_eq_left h2, List.take_length, List.drop_length, if_pos ⟨rfl, rfl⟩, List.append_nil]
  · rw [dif_neg h2, Nat.min_eq_right (by omega), if_neg (by intro h3; have := congrArg List.length h3.2; rw [List.length_drop] at this; simp at this; omega)]; rfl
theorem encL_append (l m : List O) : encL (l ++ m) = encL l ++ encL m := by
  induction l with
  | nil => rfl
  | cons o l ih => rw [List.cons_append, encL, encL, ih, List.append_assoc]
theorem encL_length : ∀ (l : List O), (encL l).length ≤ 3 * sz l + 2 * l.length
  | [] => by simp [encL]
  | o :: l => by
    have h1 := enc_length_le _ (UInt8.ofNat o.1.toNat) o.2 (Nat.le_refl _)
    have h2 := encL_length l
    rw [encL, List.length_append, sz, List.length_cons]; omega

def szOf : Value → Nat | .string s => s.size | _ => 0
def bOf : Value → Nat | .bool true => 1 | _ => 0
theorem below_lt {B b : Nat} {w w1 w2 : World} (h : Below b w w1) (hB : b ≤ B) (k : Below B w1 w2) : Below b w w2 :=
  h.trans ⟨k.os, k.tape, k.output, k.size, fun i hi => k.block i (Nat.lt_of_lt_of_le hi hB)⟩
theorem bld_kept {T e : TypeId} {B b : Nat} {bs : List Value} {w w1 : World} {row : Option Nat} (h : Lib.IsBuilder T e B b bs w) (hg : w.grownBy w1 row) (hb : some b ≠ row) (hr : ∀ k v n, row = some k → w.ownsRow B e 1 v n bs → v.ownBlock ≠ some k) : Lib.IsBuilder T e B b bs w1 := by
  have hp : ∀ p, Lib.BuilderAt T e B b p bs w → Lib.BuilderAt T e B b p bs w1 := by
    intro p hw
    have hlt := hw.lt
    obtain ⟨hB, v, h1, h2, h4⟩ := hw
    refine ⟨hB, v, (hg.block b hlt hb).trans h1, h2.kept hg ?_, h4⟩
    cases row with
    | none => cases hv : v.ownBlock <;> simp
    | some k => exact .inr (hr k v _ rfl h2)
  exact h.imp (hp _) (hp _)
theorem bld_below {T e : TypeId} {B b : Nat} {bs : List Value} {w w1 : World} (h : Lib.IsBuilder T e B b bs w) (hg : Below w.heap.size w w1) : Lib.IsBuilder T e B b bs w1 :=
  bld_kept h (grown_of_below hg none) (by simp) (fun k v n hk => by cases hk)
theorem bld_set {T e t : TypeId} {B b g j : Nat} {bs : List Value} {w : World} {cs : Array Value} {u : Value} (h : Lib.IsBuilder T e B b bs w) (hg : w.heap[g]? = some (.cells cs t (0, 0))) (hne : b ≠ g) (ht : t ≠ e) : Lib.IsBuilder T e B b bs (w.setCell ⟨g, j, none⟩ u) :=
  bld_kept (row := some g) h ⟨rfl, rfl, rfl, by simp [World.setCell], fun k _ hk => Below.heap_setCell _ _ _ _ (fun e => hk (by simp [e]))⟩ (fun q => hne (Option.some.inj q)) (fun k v n hk ho => by obtain rfl := Option.some.inj hk; exact Lib.ownBlock_ne ho hg ht)
theorem bld_lt {T e : TypeId} {B b : Nat} {bs : List Value} {w : World} (h : Lib.IsBuilder T e B b bs w) : b < w.heap.size := by
  rcases h with h | h <;> exact h.lt
theorem bld_drewN {T e : TypeId} {B b : Nat} {bs : List Value} {w : World} (h : Lib.IsBuilder T e B b bs w) (n : Nat) : Lib.IsBuilder T e B b bs (w.drewN n) :=
  bld_below h (pw_below_drewN (Below.refl _ _) n)

theorem rel_eq (first : Bool) (c : UInt8) (done : List UInt8) (rest : ByteArray) (m : Nat) (hm : min (L rest).length 255 = m) (h : first = true ∨ L rest ≠ []) :
    (done ++ (c :: UInt8.ofNat m :: (L rest).take m)) ++ encW false c (L (rest.extract m rest.size)) = done ++ encW first c (L rest) := by
  rw [encW_step first c (L rest) (by rintro ⟨h1, h2⟩; rcases h with h | h; · rw [h1] at h; cases h
                                     · exact h h2), hm, L_extract]
  have : ((L rest).drop m).take (rest.size - m) = (L rest).drop m := List.take_of_length_le (by rw [List.length_drop, L_len]; omega)
  rw [this, List.append_assoc]; rfl
theorem cells_eq (done : List UInt8) (c : Int) (m : Nat) (rest p : ByteArray) (hc : 1 ≤ c ∧ c ≤ 254) (hp : p = rest.extract 0 m) (hm : m ≤ 255) {n : Int} (hn : (m : Int) % 256 = n) :
    Lib.byteCells (done ++ (UInt8.ofNat c.toNat :: UInt8.ofNat m :: (L rest).take m)) = Lib.byteCells done ++ [.int .u8 (c % 256)] ++ [.int .u8 n] ++ Lib.strCells p := by
  have h1 := (byte_of hc.1 hc.2).1
  have h2 := len_byte hm
  have h3 : Lib.strCells p = Lib.byteCells ((L rest).take m) := by
    subst hp
    have := L_extract rest 0 m
    simp only [List.drop_zero, Nat.sub_zero] at this
    rw [← this]; rfl
  rw [h3]
  have e1 : c % 256 = ((UInt8.ofNat c.toNat).toNat : Int) := by rw [h1]; omega
  have e2 : n = ((UInt8.ofNat m).toNat : Int) := by rw [h2, ← hn]; omega
  rw [e1, e2]
  simp [Lib.byteCells]

set_option maxHeartbeats 8000000 in
set_option maxRecDepth 100000 in
theorem option_Encode.calls (A0 : Option Addr) (c0 : Nat) (l0 : List S34) (r1 : ByteArray) (r2 : Int) (w : World) (hr0 : Kd.C k34 w A0 l0.length l0) (hc0 : l0.length ≤ c0) (h : option_Encode.f l0 = some (r1, r2)) :
    Calls Tryd.prog 12 #[.slice A0 l0.length c0] w fun e w' => e = .returned (.tuple #[.string r1, .int .i64 r2]) ∧ Below w.heap.size w w' := by
  unfold option_Encode.f at h
  split at h
  · rename_i hsz0
    have hsz : ∀ x ∈ l0, x.f1.size ≤ 140737488351232 := by simpa using hsz0
    clear hsz0
    have h := Option.some.inj h
    unfold encA at h
    have hv := valid_f l0 hsz 1000 (by decide)
    have hu34 := Tryd.underlying34
    have HR := Aside0.mk hr0
    have HC0 := Aside0.mk hc0
    clear hr0 hc0
    by_cases c1 : vld (ab l0)
    · rw [if_pos c1] at h
      obtain ⟨rfl, rfl⟩ := Prod.mk.inj h
      rw [decide_eq_true c1] at hv
      have HV := Aside0.mk hv
      have HC1 := Aside0.mk c1
      clear hv hsz h c1
      go_enter Tryd.func12, Tryd.ntmps12
      go_wp2_with (go_at_call 14; (with_reducible refine (option_Valid.calls 1000 _ _ l0 true _ HR.out HC0.out HV.out).mono ?_); rintro e w1 ⟨rfl, b1⟩; have B1 := Aside0.mk b1; clear b1)
      go_loopw [15] (fun v wr => ∃ i : Nat, v = .int .i64 i ∧ i ≤ l0.length ∧ Aside0 (Lib.IsBuilder 57 5 w1.heap.size w1.heap.size (Lib.byteCells (encL ((ab l0).take i))) wr) ∧ Aside0 (Below w.heap.size w wr)) (fun v _ => l0.length - (intOf v).toNat)
      case atStart => exact ⟨0, rfl, Nat.zero_le _, ⟨by simpa [encL, Lib.byteCells] using Lib.fresh_isBuilder 57 5 w1⟩, ⟨below_alloc B1.out _⟩⟩
      case round =>
        obtain ⟨i, rfl, hin, HI, HB⟩ := hrel
        by_cases hlt : i < l0.length
        · have hltb : decide ((i : Int) < (l0.length : Int)) = true := decide_eq_true (by omega)
          have hltn : decide (i < l0.length) = true := decide_eq_true hlt
          have p1 : 0 ≤ (i : Int) := by omega
          have q1 : (i : Int) < (l0.length : Int) := by omega
          obtain ⟨ad1, e1, hx0, hx1⟩ := at_T34 HR.out (i : Int) p1 q1
          cases e1
          replace hx0 := (HB.out.cell (World.block_lt_of_cell? w _ hx0)).trans hx0
          replace hx1 := (HB.out.cell (World.block_lt_of_cell? w _ hx1)).trans hx1
          obtain ⟨x, hx⟩ : ∃ x, x = rd_T34 l0 (i : Int) := ⟨_, rfl⟩
          rw [← hx, Int.toNat_natCast] at hx0 hx1
          have HX : Aside0 (x = l0[i]) := ⟨by rw [hx, rd_at hlt]⟩
          clear hx
          go_wp2_with (first | ((with_reducible refine gate_dst (N := 6) rfl ?_); refine box_event ?hg (N := 6) ?hd (cs := #[.int .i64 0, .string (⟨#[]⟩ : ByteArray)]) (t := 34) ?hr ?_; (case hd => rfl); (case hg => rfl); (case hr => first | (go_simp; done) | (go_simp; rfl)); intro gb hg w2 hbox hb; have BK := Aside0.mk hbox; have HG := Aside0.mk hg; have BB := Aside0.mk hb; clear hb hbox hg; have hcz0 : w2.cell? ⟨gb, 0, none⟩ = some (.int .i64 0) := (blk_cell BK.out 0).trans rfl; have hcz1 : w2.cell? ⟨gb, 1, none⟩ = some (.string (⟨#[]⟩ : ByteArray)) := (blk_cell BK.out 1).trans rfl; have hfz0 := blk_frozen BK.out 0; have hfz1 := blk_frozen BK.out 1))
          have hok := HC1.out.2.2 (o1 x) (by rw [HX.out]; exact List.mem_map_of_mem (List.getElem_mem hlt))
          have HCR : Aside0 (1 ≤ x.f0 ∧ x.f0 ≤ 254) := ⟨hok⟩
          clear hok
          have HTK : Aside0 (encL ((ab l0).take i) ++ encV (UInt8.ofNat x.f0.toNat) (L x.f1) = encL ((ab l0).take (i + 1))) := ⟨by
            rw [List.take_succ_eq_append_getElem (by rw [ab_length]; exact hlt), encL_append]
            have : (ab l0)[i]'(by rw [ab_length]; exact hlt) = o1 x := by rw [HX.out]; simp [ab]
            rw [this]; simp [encL, o1]⟩
          have HT : Aside0 ((encL ((ab l0).take i) ++ encV (UInt8.ofNat x.f0.toNat) (L x.f1)).length ≤ 20000) := ⟨by
            rw [HTK.out]
            have h1 := encL_length ((ab l0).take (i + 1))
            have h2 := sz_append ((ab l0).take (i + 1)) ((ab l0).drop (i + 1))
            rw [List.take_append_drop] at h2
            have h3 := HC1.out.1.2.1
            have h4 := HC1.out.1.1
            rw [List.length_take] at h1; omega⟩
          have hgb : w1.heap.size < gb := by rw [HG.out]; exact bld_lt HI.out
          have hle : w.heap.size ≤ gb := by rw [HG.out]; exact HB.out.size
          have HGB := Aside0.mk hgb
          have HLE := Aside0.mk hle
          have HK2 := Aside0.mk (blk_put (blk_put BK.out 0 (.int .i64 x.f0) rfl) 1 (.string x.f1) rfl)
          have HI2 := Aside0.mk (bld_set (j := 1) (u := .string x.f1) (bld_set (j := 0) (u := .int .i64 x.f0) (bld_below HI.out BB.out) BK.out (by omega) (by decide)) (blk_set BK.out 0 (.int .i64 x.f0)) (by omega) (by decide))
          have HB2 := Aside0.mk (below_set (j := 1) (v := .string x.f1) (below_set (j := 0) (v := .int .i64 x.f0) (below_step HB.out BB.out) hle) hle)
          clear hcz0 hcz1 hfz0 hfz1 hle hgb
          go_loopw [7, 8] (fun v7 v8 wi => ∃ (rest : ByteArray) (first : Bool) (done : List UInt8), v7 = .string rest ∧ v8 = .bool first ∧ Aside0 (done ++ encW first (UInt8.ofNat x.f0.toNat) (L rest) = encL ((ab l0).take i) ++ encV (UInt8.ofNat x.f0.toNat) (L x.f1)) ∧ Aside0 (Lib.IsBuilder 57 5 w1.heap.size w1.heap.size (Lib.byteCells done) wi) ∧ Aside0 (wi.heap[gb]? = some (.cells #[.int .i64 x.f0, .string x.f1] 34 (0, 0))) ∧ Aside0 (Below w.heap.size w wi)) (fun v7 v8 _ => szOf v7 + bOf v8)
          case atStart => exact ⟨x.f1, true, encL ((ab l0).take i), rfl, rfl, ⟨by simp [encW]⟩, HI2, HK2, HB2⟩
          case round =>
            obtain ⟨rest, first, done, rfl, rfl, HD, HJ, HK, HBI⟩ := hrel
            clear HI2 HK2 HB2 HI HB BK BB
            have hcz0 : wr.cell? ⟨gb, 0, none⟩ = some (.int .i64 x.f0) := (blk_cell HK.out 0).trans rfl
            have HNE : Aside0 (gb ≠ w1.heap.size) := ⟨by have := HGB.out; omega⟩
            have HWL : Aside0 (w.heap.size ≤ w1.heap.size) := ⟨B1.out.size⟩
            have HDL : Aside0 (done.length ≤ 20000) := ⟨by have := HT.out; rw [← HD.out, List.length_append] at this; omega⟩
            cases first with
            | true =>
              skip
              have HPS : Aside0 (0 < rest.size + 1) := ⟨by omega⟩
              by_cases hb : rest.size ≤ 255
              · have q1 : (255 < (rest.size : Int)) = False := eq_false (by omega)
                have q2 : decide (255 < (rest.size : Int)) = false := decide_eq_false (by omega)
                have HMN : Aside0 (min (L rest).length 255 = rest.size) := ⟨by rw [L_len]; omega⟩
                have HCELL : Aside0 (Lib.byteCells (done ++ (UInt8.ofNat x.f0.toNat :: UInt8.ofNat rest.size :: (L rest).take rest.size)) = Lib.byteCells done ++ [.int .u8 (x.f0 % 256)] ++ [.int .u8 (rest.size : Int)] ++ Lib.strCells rest) := ⟨cells_eq done x.f0 rest.size rest _ HCR.out (by apply L_inj; rw [L_extract, List.drop_zero, List.take_of_length_le (by rw [L_len]; omega)]) (by omega) (by omega)⟩
                go_wp2_with (first
                  | (go_at_call 34; (with_reducible refine (option_WriteByte w1.heap.size w1.heap.size _ _ _ HJ.out (by have := HDL.out; rw [Lib.byteCells_length]; omega) (Nat.le_of_lt (bld_lt HJ.out))).mono ?_); rintro e wa ⟨rfl, ha, ba, ka⟩; have HA := Aside0.mk ha; have BA := Aside0.mk ba; have KA := Aside0.mk (ka gb _ _ _ HNE.out (by decide) HK.out); clear ha ba ka)
                  | (go_at_call 34; (with_reducible refine (option_WriteByte w1.heap.size w1.heap.size _ _ _ HA.out (by have := HDL.out; rw [List.length_append, Lib.byteCells_length]; simp only [List.length_cons, List.length_nil]; omega) (Nat.le_of_lt (bld_lt HA.out))).mono ?_); rintro e wb ⟨rfl, ha, ba, ka⟩; have HA2 := Aside0.mk ha; have BA2 := Aside0.mk ba; have KA2 := Aside0.mk (ka gb _ _ _ HNE.out (by decide) KA.out); clear ha ba ka)
                  | (go_at_call 35; (with_reducible refine (option_WriteString w1.heap.size w1.heap.size _ _ _ HA2.out (by have := HDL.out; rw [List.length_append, List.length_append, Lib.byteCells_length]; simp only [List.length_cons, List.length_nil, ByteArray.size_extract]; omega) (Nat.le_of_lt (bld_lt HA2.out))).mono ?_); rintro e wd ⟨rfl, ha, ba, ka⟩; have HA3 := Aside0.mk ha; have BA3 := Aside0.mk ba; have KA3 := Aside0.mk (ka gb _ _ _ HNE.out (by decide) KA2.out); clear ha ba ka))
                go_roundw
                case measure => (have hps := HPS.out; simp [szOf, bOf] <;> omega)
                case rel => exact ⟨rest.extract rest.size rest.size, false, done ++ (UInt8.ofNat x.f0.toNat :: UInt8.ofNat rest.size :: (L rest).take rest.size), (by first | rfl | simp), rfl, ⟨(rel_eq true _ done rest _ HMN.out (.inl rfl)).trans HD.out⟩, ⟨by rw [show Lib.byteCells (done ++ (UInt8.ofNat x.f0.toNat :: UInt8.ofNat rest.size :: (L rest).take rest.size)) = _ from HCELL.out]; exact HA3.out⟩, KA3, ⟨below_lt (below_lt (below_lt HBI.out HWL.out BA.out) HWL.out BA2.out) HWL.out BA3.out⟩⟩
              · have q1 : (255 < (rest.size : Int)) = True := eq_true (by omega)
                have q2 : decide (255 < (rest.size : Int)) = true := decide_eq_true (by omega)
                have q3 : decide ((255 : Int) ≤ (rest.size : Int)) = true := decide_eq_true (by omega)
                have q4 : decide (255 ≤ rest.size) = true := decide_eq_true (by omega)
                have HMN : Aside0 (min (L rest).length 255 = 255) := ⟨by rw [L_len]; omega⟩
                have HCELL : Aside0 (Lib.byteCells (done ++ (UInt8.ofNat x.f0.toNat :: UInt8.ofNat 255 :: (L rest).take 255)) = Lib.byteCells done ++ [.int .u8 (x.f0 % 256)] ++ [.int .u8 255] ++ Lib.strCells (rest.extract 0 255)) := ⟨cells_eq done x.f0 255 rest _ HCR.out rfl (by omega) rfl⟩
                go_wp2_with (first
                  | (go_at_call 34; (with_reducible refine (option_WriteByte w1.heap.size w1.heap.size _ _ _ HJ.out (by have := HDL.out; rw [Lib.byteCells_length]; omega) (Nat.le_of_lt (bld_lt HJ.out))).mono ?_); rintro e wa ⟨rfl, ha, ba, ka⟩; have HA := Aside0.mk ha; have BA := Aside0.mk ba; have KA := Aside0.mk (ka gb _ _ _ HNE.out (by decide) HK.out); clear ha ba ka)
                  | (go_at_call 34; (with_reducible refine (option_WriteByte w1.heap.size w1.heap.size _ _ _ HA.out (by have := HDL.out; rw [List.length_append, Lib.byteCells_length]; simp only [List.length_cons, List.length_nil]; omega) (Nat.le_of_lt (bld_lt HA.out))).mono ?_); rintro e wb ⟨rfl, ha, ba, ka⟩; have HA2 := Aside0.mk ha; have BA2 := Aside0.mk ba; have KA2 := Aside0.mk (ka gb _ _ _ HNE.out (by decide) KA.out); clear ha ba ka)
                  | (go_at_call 35; (with_reducible refine (option_WriteString w1.heap.size w1.heap.size _ _ _ HA2.out (by have := HDL.out; rw [List.length_append, List.length_append, Lib.byteCells_length]; simp only [List.length_cons, List.length_nil, ByteArray.size_extract]; omega) (Nat.le_of_lt (bld_lt HA2.out))).mono ?_); rintro e wd ⟨rfl, ha, ba, ka⟩; have HA3 := Aside0.mk ha; have BA3 := Aside0.mk ba; have KA3 := Aside0.mk (ka gb _ _ _ HNE.out (by decide) KA2.out); clear ha ba ka))
                go_roundw
                case measure => (have hps := HPS.out; simp [szOf, bOf] <;> omega)
                case rel => exact ⟨rest.extract 255 rest.size, false, done ++ (UInt8.ofNat x.f0.toNat :: UInt8.ofNat 255 :: (L rest).take 255), (by first | rfl | simp), rfl, ⟨(rel_eq true _ done rest _ HMN.out (.inl rfl)).trans HD.out⟩, ⟨by rw [show Lib.byteCells (done ++ (UInt8.ofNat x.f0.toNat :: UInt8.ofNat 255 :: (L rest).take 255)) = _ from HCELL.out]; exact HA3.out⟩, KA3, ⟨below_lt (below_lt (below_lt HBI.out HWL.out BA.out) HWL.out BA2.out) HWL.out BA3.out⟩⟩
            | false =>
              by_cases hr : L rest = []
              · have hst1 : (rest.toList == ([] : List UInt8)) = true := beq_iff_eq.mpr (by rw [toList_L]; exact hr)
                have hst2 : (rest.toList != ([] : List UInt8)) = false := bne_eq_false_iff_eq.mpr (by rw [toList_L]; exact hr)
                have HR0 := Aside0.mk hr
                clear hr
                go_wp2
                have hll : l0.length ≤ 32 := by have := HC1.out.1.1; rw [ab_length] at this; exact this
                exact ⟨⟨i + 1, by rw [wsucc (by omega)], by omega, ⟨by rw [← HTK.out, ← HD.out, HR0.out, show encW false (UInt8.ofNat x.f0.toNat) [] = [] from rfl, List.append_nil]; exact HJ.out⟩, HBI⟩, by rw [wsucc (by omega)]; simp [intOf]; omega⟩
              · have hst1 : (rest.toList == ([] : List UInt8)) = false := beq_eq_false_iff_ne.mpr (by rw [toList_L]; exact hr)
                have hst2 : (rest.toList != ([] : List UInt8)) = true := bne_iff_ne.mpr (by rw [toList_L]; exact hr)
                have HNN : Aside0 (L rest ≠ []) := ⟨hr⟩
                have HPS : Aside0 (0 < rest.size) := ⟨by rw [← L_len]; exact List.length_pos_iff.2 hr⟩
                clear hr
                by_cases hb : rest.size ≤ 255
                · have q1 : (255 < (rest.size : Int)) = False := eq_false (by omega)
                  have q2 : decide (255 < (rest.size : Int)) = false := decide_eq_false (by omega)
                  have HMN : Aside0 (min (L rest).length 255 = rest.size) := ⟨by rw [L_len]; omega⟩
                  have HCELL : Aside0 (Lib.byteCells (done ++ (UInt8.ofNat x.f0.toNat :: UInt8.ofNat rest.size :: (L rest).take rest.size)) = Lib.byteCells done ++ [.int .u8 (x.f0 % 256)] ++ [.int .u8 (rest.size : Int)] ++ Lib.strCells rest) := ⟨cells_eq done x.f0 rest.size rest _ HCR.out (by apply L_inj; rw [L_extract, List.drop_zero, List.take_of_length_le (by rw [L_len]; omega)]) (by omega) (by omega)⟩
                  go_wp2_with (first
                    | (go_at_call 34; (with_reducible refine (option_WriteByte w1.heap.size w1.heap.size _ _ _ HJ.out (by have := HDL.out; rw [Lib.byteCells_length]; omega) (Nat.le_of_lt (bld_lt HJ.out))).mono ?_); rintro e wa ⟨rfl, ha, ba, ka⟩; have HA := Aside0.mk ha; have BA := Aside0.mk ba; have KA := Aside0.mk (ka gb _ _ _ HNE.out (by decide) HK.out); clear ha ba ka)
                    | (go_at_call 34; (with_reducible refine (option_WriteByte w1.heap.size w1.heap.size _ _ _ HA.out (by have := HDL.out; rw [List.length_append, Lib.byteCells_length]; simp only [List.length_cons, List.length_nil]; omega) (Nat.le_of_lt (bld_lt HA.out))).mono ?_); rintro e wb ⟨rfl, ha, ba, ka⟩; have HA2 := Aside0.mk ha; have BA2 := Aside0.mk ba; have KA2 := Aside0.mk (ka gb _ _ _ HNE.out (by decide) KA.out); clear ha ba ka)
                    | (go_at_call 35; (with_reducible refine (option_WriteString w1.heap.size w1.heap.size _ _ _ HA2.out (by have := HDL.out; rw [List.length_append, List.length_append, Lib.byteCells_length]; simp only [List.length_cons, List.length_nil, ByteArray.size_extract]; omega) (Nat.le_of_lt (bld_lt HA2.out))).mono ?_); rintro e wd ⟨rfl, ha, ba, ka⟩; have HA3 := Aside0.mk ha; have BA3 := Aside0.mk ba; have KA3 := Aside0.mk (ka gb _ _ _ HNE.out (by decide) KA2.out); clear ha ba ka))
                  go_roundw
                  case measure => (have hps := HPS.out; simp [szOf, bOf] <;> omega)
                  case rel => exact ⟨rest.extract rest.size rest.size, false, done ++ (UInt8.ofNat x.f0.toNat :: UInt8.ofNat rest.size :: (L rest).take rest.size), (by first | rfl | simp), rfl, ⟨(rel_eq false _ done rest _ HMN.out (.inr HNN.out)).trans HD.out⟩, ⟨by rw [show Lib.byteCells (done ++ (UInt8.ofNat x.f0.toNat :: UInt8.ofNat rest.size :: (L rest).take rest.size)) = _ from HCELL.out]; exact HA3.out⟩, KA3, ⟨below_lt (below_lt (below_lt HBI.out HWL.out BA.out) HWL.out BA2.out) HWL.out BA3.out⟩⟩
                · have q1 : (255 < (rest.size : Int)) = True := eq_true (by omega)
                  have q2 : decide (255 < (rest.size : Int)) = true := decide_eq_true (by omega)
                  have q3 : decide ((255 : Int) ≤ (rest.size : Int)) = true := decide_eq_true (by omega)
                  have q4 : decide (255 ≤ rest.size) = true := decide_eq_true (by omega)
                  have HMN : Aside0 (min (L rest).length 255 = 255) := ⟨by rw [L_len]; omega⟩
                  have HCELL : Aside0 (Lib.byteCells (done ++ (UInt8.ofNat x.f0.toNat :: UInt8.ofNat 255 :: (L rest).take 255)) = Lib.byteCells done ++ [.int .u8 (x.f0 % 256)] ++ [.int .u8 255] ++ Lib.strCells (rest.extract 0 255)) := ⟨cells_eq done x.f0 255 rest _ HCR.out rfl (by omega) rfl⟩
                  go_wp2_with (first
                    | (go_at_call 34; (with_reducible refine (option_WriteByte w1.heap.size w1.heap.size _ _ _ HJ.out (by have := HDL.out; rw [Lib.byteCells_length]; omega) (Nat.le_of_lt (bld_lt HJ.out))).mono ?_); rintro e wa ⟨rfl, ha, ba, ka⟩; have HA := Aside0.mk ha; have BA := Aside0.mk ba; have KA := Aside0.mk (ka gb _ _ _ HNE.out (by decide) HK.out); clear ha ba ka)
                    | (go_at_call 34; (with_reducible refine (option_WriteByte w1.heap.size w1.heap.size _ _ _ HA.out (by have := HDL.out; rw [List.length_append, Lib.byteCells_length]; simp only [List.length_cons, List.length_nil]; omega) (Nat.le_of_lt (bld_lt HA.out))).mono ?_); rintro e wb ⟨rfl, ha, ba, ka⟩; have HA2 := Aside0.mk ha; have BA2 := Aside0.mk ba; have KA2 := Aside0.mk (ka gb _ _ _ HNE.out (by decide) KA.out); clear ha ba ka)
                    | (go_at_call 35; (with_reducible refine (option_WriteString w1.heap.size w1.heap.size _ _ _ HA2.out (by have := HDL.out; rw [List.length_append, List.length_append, Lib.byteCells_length]; simp only [List.length_cons, List.length_nil, ByteArray.size_extract]; omega) (Nat.le_of_lt (bld_lt HA2.out))).mono ?_); rintro e wd ⟨rfl, ha, ba, ka⟩; have HA3 := Aside0.mk ha; have BA3 := Aside0.mk ba; have KA3 := Aside0.mk (ka gb _ _ _ HNE.out (by decide) KA2.out); clear ha ba ka))
                  go_roundw
                  case measure => (have hps := HPS.out; simp [szOf, bOf] <;> omega)
                  case rel => exact ⟨rest.extract 255 rest.size, false, done ++ (UInt8.ofNat x.f0.toNat :: UInt8.ofNat 255 :: (L rest).take 255), (by first | rfl | simp), rfl, ⟨(rel_eq false _ done rest _ HMN.out (.inr HNN.out)).trans HD.out⟩, ⟨by rw [show Lib.byteCells (done ++ (UInt8.ofNat x.f0.toNat :: UInt8.ofNat 255 :: (L rest).take 255)) = _ from HCELL.out]; exact HA3.out⟩, KA3, ⟨below_lt (below_lt (below_lt HBI.out HWL.out BA.out) HWL.out BA2.out) HWL.out BA3.out⟩⟩
        · have hi : i = l0.length := by omega
          subst hi
          have hltb : decide ((l0.length : Int) < (l0.length : Int)) = false := decide_eq_false (by omega)
          have htk : (ab l0).take l0.length = ab l0 := by rw [← ab_length, List.take_length]
          have HI2 : Aside0 (Lib.IsBuilder 57 5 w1.heap.size w1.heap.size (Lib.byteCells (encL (ab l0))) wr) := ⟨by have := HI.out; rw [htk] at this; exact this⟩
          have HLL : Aside0 ((Lib.byteCells (encL (ab l0))).length ≤ 20000) := ⟨by
            rw [Lib.byteCells_length]
            have h1 := encL_length (ab l0)
            have h3 := HC1.out.1.2.1
            have h4 := HC1.out.1.1
            omega⟩
          have HEE : Aside0 (Lib.byteCells (enc (ab l0)) = Lib.byteCells (encL (ab l0)) ++ [.int .u8 255]) := ⟨by simp [enc, Lib.byteCells]⟩
          clear HI htk
          go_wp2_with (first
            | (go_at_call 34; (with_reducible refine (option_WriteByte w1.heap.size w1.heap.size _ _ _ HI2.out (by have := HLL.out; omega) (Nat.le_of_lt (bld_lt HI2.out))).mono ?_); rintro e wa ⟨rfl, ha, ba, ka⟩; have HA : Aside0 (Lib.IsBuilder 57 5 w1.heap.size w1.heap.size (Lib.byteCells (enc (ab l0))) wa) := ⟨by rw [HEE.out]; exact ha⟩; have BA := Aside0.mk ba; clear ha ba ka)
            | (go_at_call 36; (with_reducible refine (option_String w1.heap.size w1.heap.size _ _ HA.out (Nat.le_of_lt (bld_lt HA.out))).mono ?_); rintro e wb ⟨rfl, bb⟩; have BB := Aside0.mk bb; clear bb))
          go_ret2
          exact ⟨rfl, below_lt (below_lt HB.out B1.out.size BA.out) B1.out.size BB.out⟩
    · rw [if_neg c1] at h
      obtain ⟨rfl, rfl⟩ := Prod.mk.inj h
      rw [decide_eq_false c1] at hv
      have HV := Aside0.mk hv
      clear hv hsz h c1
      go_enter Tryd.func12, Tryd.ntmps12
      go_wp2_with (go_at_call 14; (with_reducible refine (option_Valid.calls 1000 _ _ l0 false _ HR.out HC0.out HV.out).mono ?_); rintro e w1 ⟨rfl, b1⟩; have B1 := Aside0.mk b1; clear b1)
      go_ret2
      exact ⟨rfl, B1.out⟩
  · cases h
end Go.Proofs.YtkojlapefmcjnaaDoor.Pa
