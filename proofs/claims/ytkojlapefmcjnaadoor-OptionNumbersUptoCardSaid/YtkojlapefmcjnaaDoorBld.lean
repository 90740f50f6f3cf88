/- (*strings.Builder).WriteByte and WriteString with a wider frame than the shelf's: besides what the shelf says of them, every row of cells of another element type than byte, but the Builder's own block, stays as it was. -/
import Derived.Test.YtkojlapefmcjnaaDoorLays
import Derived.Shelf.Strings.Builder1
namespace Go.Proofs.YtkojlapefmcjnaaDoor.Pa
open Go.RowKit Go.Shelf
set_option linter.unusedVariables false
section
variable {P : Program} {ρ : Ren}

def Keeps (e : TypeId) (b : Nat) (w w' : World) : Prop := ∀ (k : Nat) (cs : Array Value) (T : TypeId) (fr : Nat × Nat), k ≠ b → T ≠ e → w.heap[k]? = some (.cells cs T fr) → w'.heap[k]? = some (.cells cs T fr)
theorem Keeps.refl (e : TypeId) (b : Nat) (w : World) : Keeps e b w w := fun _ _ _ _ _ _ h => h
theorem Keeps.trans {e : TypeId} {b : Nat} {u v w : World} (h : Keeps e b u v) (k : Keeps e b v w) : Keeps e b u w := fun i cs T fr h1 h2 h3 => k i cs T fr h1 h2 (h i cs T fr h1 h2 h3)
theorem Keeps.alloc (e : TypeId) (b : Nat) (w : World) (o : Obj) : Keeps e b w (w.alloc o) := fun k cs T fr _ _ h => (Lib.alloc_old w o k (Array.getElem?_eq_some_iff.1 h).1).trans h
theorem Keeps.set (e : TypeId) (b j : Nat) (w : World) (v : Value) : Keeps e b w (w.setCell ⟨b, j, none⟩ v) := fun k cs T fr h1 _ h => (Below.heap_setCell w ⟨b, j, none⟩ v k h1).trans h
theorem Keeps.grown {B : Nat} {e : TypeId} {v : Value} {n : Nat} {xs : List Value} {w w' : World} (b : Nat) (hown : w.ownsRow B e 1 v n xs) (hg : w.grownBy w' v.ownBlock) : Keeps e b w w' :=
  fun k cs T fr _ h2 h => (hg.block k (Array.getElem?_eq_some_iff.1 h).1 (fun q => Lib.ownBlock_ne hown h h2 q.symm)).trans h

theorem bld_check (L : Lays.n240 P ρ) (X : Builder.X72 P ρ) (B b : Nat) (bs : List Value) (w : World) (h : Lib.IsBuilder (ρ.t 72) (ρ.t 5) B b bs w) :
    Calls P (ρ.f 240) #[.pointer (some ⟨b, 0, none⟩)] w fun e w' => e = .returned (.tuple #[]) ∧ Lib.BuilderAt (ρ.t 72) (ρ.t 5) B b (.pointer (some ⟨b, 0, none⟩)) bs w' ∧ Below B w w' ∧ Keeps (ρ.t 5) b w w' := by
  cases h with
  | inl h =>
    refine (Any.Builder_copyCheck_fresh L X b w h.cell0 h.shape h.frozen0).mono fun e w' hw => ?_
    obtain ⟨he, rfl⟩ := hw
    exact ⟨he, h.used _, (Below.refl B w).setCell (p := ⟨b, 0, none⟩) h.1 _, Keeps.set _ b 0 w _⟩
  | inr h =>
    refine (Any.Builder_copyCheck_used L X b w h.cell0).mono fun e w' hw => ?_
    obtain ⟨he, rfl⟩ := hw
    exact ⟨he, h, Below.refl B _, Keeps.refl _ _ _⟩

set_option maxHeartbeats 2000000 in
set_option maxRecDepth 100000 in
theorem bld_WriteByte (L : Lays.n167 P ρ) (X : Builder.Extra P ρ) (B b : Nat) (bs : List Value) (c : Int) (w : World) (h : Lib.IsBuilder (ρ.t 72) (ρ.t 5) B b bs w) (hlen : bs.length + 1 ≤ 140737488355328) (hBw : B ≤ w.heap.size) :
    Calls P (ρ.f 167) #[.pointer (some ⟨b, 0, none⟩), .int .u8 c] w fun e w' => e = .returned .nilIface ∧ Lib.IsBuilder (ρ.t 72) (ρ.t 5) B b (bs ++ [.int .u8 c]) w' ∧ Below B w w' ∧ Keeps (ρ.t 5) b w w' := by
  obtain ⟨i0, hi, hz0, hz1, hz2⟩ := info_parts X.infoByte
  have mixed := L.mixed
  have t72 := L.t72; have a72 := L.a72; have z72 := L.z72; have v72 := L.v72; have u72 := run_underlying L.t72
  have t70 := L.t70; have a70 := L.a70; have z70 := L.z70; have v70 := L.v70; have u70 := run_underlying L.t70
  have t5 := L.t5; have a5 := L.a5; have z5 := L.z5; have v5 := L.v5; have u5 := run_underlying L.t5
  have t37 := L.t37; have a37 := L.a37; have z37 := L.z37; have v37 := L.v37; have u37 := run_underlying L.t37
  have t9 := L.t9; have a9 := L.a9; have z9 := L.z9; have v9 := L.v9; have u9 := run_underlying L.t9
  have t4 := L.t4; have a4 := L.a4; have z4 := L.z4; have v4 := L.v4; have u4 := run_underlying L.t4
  have t164 := L.t164; have a164 := L.a164; have z164 := L.z164; have v164 := L.v164; have u164 := run_underlying L.t164
  have e240 : ∀ args w, (callFunc (ρ.f 240) args).run P w = .ok (.enter (ρ.f 240) args) w := enters_of L.f240 (by kernel_rfl) rfl
  go_enter L.f167, Body.n167_ntmps ρ
  go_wp2_with (go_at_fn (ρ.f 240); refine (bld_check { L with } X.toX72 B b bs _ h).mono ?_)
  intro e w1 hw1
  obtain ⟨rfl, ⟨hB, v, hbk, hown, hne⟩, hb1, hk1⟩ := hw1
  have c0 : w1.cell? ⟨b, 0, none⟩ = some (.pointer (some ⟨b, 0, none⟩)) := (Lib.cell_of_heap hbk 0).trans rfl
  have c1 : w1.cell? ⟨b, 1, none⟩ = some v := (Lib.cell_of_heap hbk 1).trans rfl
  have hs1 := hb1.size
  go_wp2_with (at_builtin; refine wpList_append_own _ rfl _ _ (ρ.t 37) rfl B (ρ.t 5) i0 (.int .u8 0) 1 1 L.t37 hi hz0 hz1 hz2 rfl (by decide) _ _ _ rfl (hown.alloc _) ⟨w1.heap.size, 0, none⟩ 1 1 [.int .u8 c] rfl rfl ?r1 ?r2 ?r3 ?r4 ?r5 ?_)
  case r1 =>
    intro j u hj
    match j, hj with
    | 0, hj => simp at hj; subst hj; simp [Addr.add]
  case r2 => intro u hu; simp at hu; subst hu; rfl
  case r3 => unfold maxLen; omega
  case r4 => omega
  case r5 => simp; omega
  intro v' w2 hown' hg2 _
  have hk2 : Keeps (ρ.t 5) b w1 w2 := (Keeps.alloc _ b w1 _).trans (Keeps.grown b (hown.alloc _) hg2)
  have hlt : b < w1.heap.size := (Array.getElem?_eq_some_iff.1 hbk).1
  have hb2 : w2.heap[b]? = some (.cells #[.pointer (some ⟨b, 0, none⟩), v] (ρ.t 72) (0, 0)) :=
    ((hg2.block b (by simp; omega) (fun q => hne q.symm)).trans (Lib.alloc_old w1 _ b hlt)).trans hbk
  have d0 : w2.cell? ⟨b, 0, none⟩ = some (.pointer (some ⟨b, 0, none⟩)) := (Lib.cell_of_heap hb2 0).trans rfl
  have d1 : w2.cell? ⟨b, 1, none⟩ = some v := (Lib.cell_of_heap hb2 1).trans rfl
  have f1 : w2.frozen? ⟨b, 1, none⟩ = false := Lib.frozen_of_heap hb2 1
  obtain ⟨g, cap, rfl⟩ : ∃ g cap, v' = .slice (some ⟨g, 0, none⟩) (bs.length + 1) cap := by
    rcases hown'.2 with ⟨_, h0⟩ | ⟨g, cap, cur, hv, _⟩
    · exact absurd h0 (by omega)
    · exact ⟨g, cap, hv⟩
  go_wp2
  go_ret
  have hbl : Below B w w2 := (hb1.alloc (by omega) _).grown hg2 (by simp; omega) (fun k hk => (hown.lt k hk).1)
  exact ⟨rfl, .inr (Lib.BuilderAt.put (T := ρ.t 72) (e := ρ.t 5) hB hb2 (bs' := bs ++ [.int .u8 c]) (by simpa using hown') X.neB5), hbl.setCell (p := ⟨b, 1, none⟩) hB _, (hk1.trans hk2).trans (Keeps.set _ b 1 w2 _)⟩

set_option maxHeartbeats 2000000 in
set_option maxRecDepth 100000 in
theorem bld_WriteString (L : Lays.n166 P ρ) (X : Builder.Extra P ρ) (B b : Nat) (bs : List Value) (s : ByteArray) (w : World) (h : Lib.IsBuilder (ρ.t 72) (ρ.t 5) B b bs w) (hlen : bs.length + s.size ≤ 140737488355328) (hBw : B ≤ w.heap.size) :
    Calls P (ρ.f 166) #[.pointer (some ⟨b, 0, none⟩), .string s] w fun e w' => e = .returned (.tuple #[.int .i64 s.size, .nilIface]) ∧ Lib.IsBuilder (ρ.t 72) (ρ.t 5) B b (bs ++ Lib.strCells s) w' ∧ Below B w w' ∧ Keeps (ρ.t 5) b w w' := by
  obtain ⟨i0, hi, hz0, hz1, hz2⟩ := info_parts X.infoByte
  have mixed := L.mixed
  have t72 := L.t72; have a72 := L.a72; have z72 := L.z72; have v72 := L.v72; have u72 := run_underlying L.t72
  have t70 := L.t70; have a70 := L.a70; have z70 := L.z70; have v70 := L.v70; have u70 := run_underlying L.t70
  have t37 := L.t37; have a37 := L.a37; have z37 := L.z37; have v37 := L.v37; have u37 := run_underlying L.t37
  have t3 := L.t3; have a3 := L.a3; have z3 := L.z3; have v3 := L.v3; have u3 := run_underlying L.t3
  have t9 := L.t9; have a9 := L.a9; have z9 := L.z9; have v9 := L.v9; have u9 := run_underlying L.t9
  have t4 := L.t4; have a4 := L.a4; have z4 := L.z4; have v4 := L.v4; have u4 := run_underlying L.t4
  have t164 := L.t164; have a164 := L.a164; have z164 := L.z164; have v164 := L.v164; have u164 := run_underlying L.t164
  have t5 := X.t5; have a5 := X.a5; have z5 := X.z5; have v5 := X.v5; have u5 := run_underlying X.t5
  have e240 : ∀ args w, (callFunc (ρ.f 240) args).run P w = .ok (.enter (ρ.f 240) args) w := enters_of L.f240 (by kernel_rfl) rfl
  go_enter L.f166, Body.n166_ntmps ρ
  go_wp2_with (go_at_fn (ρ.f 240); refine (bld_check { L with } X.toX72 B b bs _ h).mono ?_)
  intro e w1 hw1
  obtain ⟨rfl, ⟨hB, v, hbk, hown, hne⟩, hb1, hk1⟩ := hw1
  have c0 : w1.cell? ⟨b, 0, none⟩ = some (.pointer (some ⟨b, 0, none⟩)) := (Lib.cell_of_heap hbk 0).trans rfl
  have c1 : w1.cell? ⟨b, 1, none⟩ = some v := (Lib.cell_of_heap hbk 1).trans rfl
  have hs1 := hb1.size
  go_wp2_with (at_builtin; refine Lib.wpList_append_own_string _ rfl _ _ (ρ.t 37) (ρ.t 9) rfl B (ρ.t 5) i0 L.t37 L.t9 hi hz0 hz1 hz2 _ _ _ rfl hown s rfl ?r3 ?r4 ?r5 ?_)
  case r3 => unfold maxLen; omega
  case r4 => omega
  case r5 => omega
  intro v' w2 hown' hg2 _
  have hk2 : Keeps (ρ.t 5) b w1 w2 := Keeps.grown b hown hg2
  have hlt : b < w1.heap.size := (Array.getElem?_eq_some_iff.1 hbk).1
  have hb2 : w2.heap[b]? = some (.cells #[.pointer (some ⟨b, 0, none⟩), v] (ρ.t 72) (0, 0)) := (hg2.block b hlt (fun q => hne q.symm)).trans hbk
  have d0 : w2.cell? ⟨b, 0, none⟩ = some (.pointer (some ⟨b, 0, none⟩)) := (Lib.cell_of_heap hb2 0).trans rfl
  have d1 : w2.cell? ⟨b, 1, none⟩ = some v := (Lib.cell_of_heap hb2 1).trans rfl
  have f1 : w2.frozen? ⟨b, 1, none⟩ = false := Lib.frozen_of_heap hb2 1
  obtain ⟨ao, n', cap, rfl⟩ : ∃ ao n' cap, v' = .slice ao n' cap := by
    rcases hown'.2 with ⟨hv, _⟩ | ⟨g, cap, cur, hv, _⟩ <;> exact ⟨_, _, _, hv⟩
  go_wp2
  go_ret2
  have hbl : Below B w w2 := hb1.grown hg2 (by omega) (fun k hk => (hown.lt k hk).1)
  exact ⟨rfl, .inr (Lib.BuilderAt.put (T := ρ.t 72) (e := ρ.t 5) hB hb2 (bs' := bs ++ Lib.strCells s) (by simpa [Lib.strCells_length] using hown') X.neB5), hbl.setCell (p := ⟨b, 1, none⟩) hB _, (hk1.trans hk2).trans (Keeps.set _ b 1 w2 _)⟩
end
theorem option_WriteByte (B b : Nat) (bs : List Value) (c : Int) (w : World) (h : Lib.IsBuilder 57 5 B b bs w) (hlen : bs.length + 1 ≤ 140737488355328) (hBw : B ≤ w.heap.size) :
    Calls Tryd.prog 34 #[.pointer (some ⟨b, 0, none⟩), .int .u8 c] w fun e w' => e = .returned .nilIface ∧ Lib.IsBuilder 57 5 B b (bs ++ [.int .u8 c]) w' ∧ Below B w w' ∧ Keeps 5 b w w' :=
  bld_WriteByte Tryd.lay167 Tryd.bx B b bs c w h hlen hBw
theorem option_WriteString (B b : Nat) (bs : List Value) (s : ByteArray) (w : World) (h : Lib.IsBuilder 57 5 B b bs w) (hlen : bs.length + s.size ≤ 140737488355328) (hBw : B ≤ w.heap.size) :
    Calls Tryd.prog 35 #[.pointer (some ⟨b, 0, none⟩), .string s] w fun e w' => e = .returned (.tuple #[.int .i64 s.size, .nilIface]) ∧ Lib.IsBuilder 57 5 B b (bs ++ Lib.strCells s) w' ∧ Below B w w' ∧ Keeps 5 b w w' :=
  bld_WriteString Tryd.lay166 Tryd.bx B b bs s w h hlen hBw
theorem option_String (B b : Nat) (l : List UInt8) (w : World) (h : Lib.IsBuilder 57 5 B b (Lib.byteCells l) w) (hBw : B ≤ w.heap.size) :
    Calls Tryd.prog 36 #[.pointer (some ⟨b, 0, none⟩)] w fun e w' => e = .returned (.string ⟨l.toArray⟩) ∧ Below B w w' :=
  Any.Builder_String_any Tryd.lay169 Tryd.bx B b l w h hBw
end Go.Proofs.YtkojlapefmcjnaaDoor.Pa
