/- Parts of the proof of this claim's statement (joined by a program of this session): Lays, Trim, Bld, Bytes, Opt, Val, Enc, Pkc, Lease, Enc36, EncF, Bx, Addr, Adrs, Wire, Num. -/
import Derived.Test.YtcoekgnbncocnaaDoorProg
import Derived.Shelf.Lays
import Derived.Shelf.Strings.Builder1
import Derived.Test.YtcoekgnbncocnaaDoorDe1
import Derived.Shelf.Strings.Trim
import Derived.Laws.Cover1
import Derived.Test.YtcoekgnbncocnaaDoorDe0
import Derived.Lib.Strings
import Init.Data.List.Nat.TakeDrop
import Init.Data.List.Nat.Basic
import Derived.Deep.RegionHeld3
import Derived.Test.YtcoekgnbncocnaaDoorDe2
import Derived.Deep.MidRow
import Derived.Laws.Bits64b
import Derived.Test.YtcoekgnbncocnaaDoorDe3
namespace Go.Proofs.YtcoekgnbncocnaaDoor
open Go.Shelf
def Tryd.rn : Go.Shelf.Ren := ⟨fun | 119 => 98 | 120 => 96 | 137 => 97 | 151 => 92 | 152 => 95 | 160 => 74 | 166 => 70 | 167 => 69 | 169 => 71 | 197 => 91 | 217 => 101 | 224 => 99 | 225 => 100 | 227 => 84 | 228 => 90 | 231 => 82 | 232 => 83 | 233 => 85 | 234 => 86 | 235 => 87 | 236 => 88 | 240 => 81 | 260 => 94 | 266 => 102 | 271 => 93 | 276 => 89 | n => n, fun | 0 => 0 | 1 => 1 | 2 => 2 | 3 => 3 | 4 => 4 | 5 => 5 | 6 => 6 | 7 => 7 | 8 => 8 | 9 => 9 | 10 => 10 | 11 => 11 | 12 => 12 | 13 => 13 | 14 => 14 | 15 => 15 | 16 => 16 | 17 => 17 | 18 => 18 | 19 => 19 | 20 => 20 | 21 => 21 | 23 => 101 | 24 => 38 | 27 => 124 | 28 => 83 | 37 => 73 | 40 => 123 | 41 => 113 | 46 => 56 | 49 => 37 | 51 => 58 | 53 => 22 | 55 => 122 | 63 => 116 | 64 => 117 | 70 => 91 | 71 => 92 | 72 => 93 | 74 => 94 | 75 => 95 | 76 => 97 | 77 => 98 | 78 => 96 | 80 => 99 | 81 => 130 | 83 => 85 | 103 => 77 | 104 => 47 | 105 => 114 | 106 => 115 | 111 => 88 | 114 => 70 | 115 => 105 | 116 => 106 | 117 => 107 | 118 => 108 | 119 => 118 | 122 => 104 | 123 => 109 | 124 => 110 | 127 => 103 | 131 => 67 | 137 => 119 | 138 => 120 | 139 => 121 | 164 => 111 | 165 => 112 | 238 => 125 | 239 => 126 | 240 => 127 | 241 => 128 | 242 => 129 | 243 => 131 | 244 => 132 | 245 => 133 | 246 => 134 | 247 => 135 | 248 => 136 | 249 => 137 | n => n, fun | 1 => 2 | 3 => 0 | 4 => 1 | n => n⟩
theorem Tryd.lay160 : Go.Proofs.Lays.n160 Tryd.prog Tryd.rn := {
  mixed := by kernel_rfl
  f119 := Tryd.func98.trans (congrArg some (by kernel_rfl))
  f120 := Tryd.func96.trans (congrArg some (by kernel_rfl))
  f137 := Tryd.func97.trans (congrArg some (by kernel_rfl))
  f151 := Tryd.func92.trans (congrArg some (by kernel_rfl))
  f152 := Tryd.func95.trans (congrArg some (by kernel_rfl))
  f160 := Tryd.func74.trans (congrArg some (by kernel_rfl))
  f197 := Tryd.func91.trans (congrArg some (by kernel_rfl))
  f217 := Tryd.func101.trans (congrArg some (by kernel_rfl))
  f224 := Tryd.func99.trans (congrArg some (by kernel_rfl))
  f225 := Tryd.func100.trans (congrArg some (by kernel_rfl))
  f227 := Tryd.func84.trans (congrArg some (by kernel_rfl))
  f228 := Tryd.func90.trans (congrArg some (by kernel_rfl))
  f231 := Tryd.func82.trans (congrArg some (by kernel_rfl))
  f232 := Tryd.func83.trans (congrArg some (by kernel_rfl))
  f233 := Tryd.func85.trans (congrArg some (by kernel_rfl))
  f234 := Tryd.func86.trans (congrArg some (by kernel_rfl))
  f235 := Tryd.func87.trans (congrArg some (by kernel_rfl))
  f236 := Tryd.func88.trans (congrArg some (by kernel_rfl))
  f260 := Tryd.func94.trans (congrArg some (by kernel_rfl))
  f266 := Tryd.func102.trans (congrArg some (by kernel_rfl))
  f271 := Tryd.func93.trans (congrArg some (by kernel_rfl))
  t0 := Tryd.underlying0
  a0 := Tryd.isAgg0
  z0 := Tryd.sizeOf0
  v0 := Tryd.zeroValue0
  t3 := Tryd.underlying3
  a3 := Tryd.isAgg3
  z3 := Tryd.sizeOf3
  v3 := Tryd.zeroValue3
  t4 := Tryd.underlying4
  a4 := Tryd.isAgg4
  z4 := Tryd.sizeOf4
  v4 := Tryd.zeroValue4
  t5 := Tryd.underlying5
  a5 := Tryd.isAgg5
  z5 := Tryd.sizeOf5
  v5 := Tryd.zeroValue5
  t9 := Tryd.underlying9
  a9 := Tryd.isAgg9
  z9 := Tryd.sizeOf9
  v9 := Tryd.zeroValue9
  t21 := Tryd.underlying21
  a21 := Tryd.isAgg21
  z21 := Tryd.sizeOf21
  v21 := Tryd.zeroValue21
  t46 := Tryd.underlying56
  a46 := Tryd.isAgg56
  z46 := Tryd.sizeOf56
  v46 := Tryd.zeroValue56
  t105 := Tryd.underlying114
  a105 := Tryd.isAgg114
  z105 := Tryd.sizeOf114
  v105 := Tryd.zeroValue114
  t116 := Tryd.underlying106
  a116 := Tryd.isAgg106
  z116 := Tryd.sizeOf106
  t117 := Tryd.underlying107
  a117 := Tryd.isAgg107
  z117 := Tryd.sizeOf107
  v117 := Tryd.zeroValue107
  t119 := Tryd.underlying118
  a119 := Tryd.isAgg118
  z119 := Tryd.sizeOf118
  t124 := Tryd.underlying110
  a124 := Tryd.isAgg110
  z124 := Tryd.sizeOf110
  v124 := Tryd.zeroValue110
  t138 := Tryd.underlying120
  a138 := Tryd.isAgg120
  z138 := Tryd.sizeOf120
  v138 := Tryd.zeroValue120
  t139 := Tryd.underlying121
  a139 := Tryd.isAgg121
  z139 := Tryd.sizeOf121
  v139 := Tryd.zeroValue121
  g3 := by kernel_rfl
  g4 := by kernel_rfl }
theorem Tryd.lay166 : Go.Proofs.Lays.n166 Tryd.prog Tryd.rn := {
  mixed := by kernel_rfl
  f166 := Tryd.func70.trans (congrArg some (by kernel_rfl))
  f240 := Tryd.func81.trans (congrArg some (by kernel_rfl))
  f276 := Tryd.func89.trans (congrArg some (by kernel_rfl))
  t0 := Tryd.underlying0
  a0 := Tryd.isAgg0
  z0 := Tryd.sizeOf0
  v0 := Tryd.zeroValue0
  t3 := Tryd.underlying3
  a3 := Tryd.isAgg3
  z3 := Tryd.sizeOf3
  v3 := Tryd.zeroValue3
  t4 := Tryd.underlying4
  a4 := Tryd.isAgg4
  z4 := Tryd.sizeOf4
  v4 := Tryd.zeroValue4
  t9 := Tryd.underlying9
  a9 := Tryd.isAgg9
  z9 := Tryd.sizeOf9
  v9 := Tryd.zeroValue9
  t20 := Tryd.underlying20
  a20 := Tryd.isAgg20
  z20 := Tryd.sizeOf20
  v20 := Tryd.zeroValue20
  t37 := Tryd.underlying73
  a37 := Tryd.isAgg73
  z37 := Tryd.sizeOf73
  v37 := Tryd.zeroValue73
  t70 := Tryd.underlying91
  a70 := Tryd.isAgg91
  z70 := Tryd.sizeOf91
  v70 := Tryd.zeroValue91
  t72 := Tryd.underlying93
  a72 := Tryd.isAgg93
  z72 := Tryd.sizeOf93
  v72 := Tryd.zeroValue93
  t75 := Tryd.underlying95
  a75 := Tryd.isAgg95
  z75 := Tryd.sizeOf95
  v75 := Tryd.zeroValue95
  t164 := Tryd.underlying111
  a164 := Tryd.isAgg111
  z164 := Tryd.sizeOf111
  v164 := Tryd.zeroValue111 }
theorem Tryd.lay167 : Go.Proofs.Lays.n167 Tryd.prog Tryd.rn := {
  mixed := by kernel_rfl
  f167 := Tryd.func69.trans (congrArg some (by kernel_rfl))
  f240 := Tryd.func81.trans (congrArg some (by kernel_rfl))
  f276 := Tryd.func89.trans (congrArg some (by kernel_rfl))
  t0 := Tryd.underlying0
  a0 := Tryd.isAgg0
  z0 := Tryd.sizeOf0
  v0 := Tryd.zeroValue0
  t4 := Tryd.underlying4
  a4 := Tryd.isAgg4
  z4 := Tryd.sizeOf4
  v4 := Tryd.zeroValue4
  t5 := Tryd.underlying5
  a5 := Tryd.isAgg5
  z5 := Tryd.sizeOf5
  v5 := Tryd.zeroValue5
  t9 := Tryd.underlying9
  a9 := Tryd.isAgg9
  z9 := Tryd.sizeOf9
  v9 := Tryd.zeroValue9
  t20 := Tryd.underlying20
  a20 := Tryd.isAgg20
  z20 := Tryd.sizeOf20
  v20 := Tryd.zeroValue20
  t37 := Tryd.underlying73
  a37 := Tryd.isAgg73
  z37 := Tryd.sizeOf73
  v37 := Tryd.zeroValue73
  t70 := Tryd.underlying91
  a70 := Tryd.isAgg91
  z70 := Tryd.sizeOf91
  v70 := Tryd.zeroValue91
  t72 := Tryd.underlying93
  a72 := Tryd.isAgg93
  z72 := Tryd.sizeOf93
  v72 := Tryd.zeroValue93
  t75 := Tryd.underlying95
  a75 := Tryd.isAgg95
  z75 := Tryd.sizeOf95
  v75 := Tryd.zeroValue95
  t164 := Tryd.underlying111
  a164 := Tryd.isAgg111
  z164 := Tryd.sizeOf111
  v164 := Tryd.zeroValue111 }
theorem Tryd.lay169 : Go.Proofs.Lays.n169 Tryd.prog Tryd.rn := {
  mixed := by kernel_rfl
  f169 := Tryd.func71.trans (congrArg some (by kernel_rfl))
  t0 := Tryd.underlying0
  a0 := Tryd.isAgg0
  z0 := Tryd.sizeOf0
  v0 := Tryd.zeroValue0
  t3 := Tryd.underlying3
  a3 := Tryd.isAgg3
  z3 := Tryd.sizeOf3
  v3 := Tryd.zeroValue3
  t9 := Tryd.underlying9
  a9 := Tryd.isAgg9
  z9 := Tryd.sizeOf9
  v9 := Tryd.zeroValue9
  t37 := Tryd.underlying73
  a37 := Tryd.isAgg73
  z37 := Tryd.sizeOf73
  v37 := Tryd.zeroValue73
  t70 := Tryd.underlying91
  a70 := Tryd.isAgg91
  z70 := Tryd.sizeOf91
  v70 := Tryd.zeroValue91
  t72 := Tryd.underlying93
  a72 := Tryd.isAgg93
  z72 := Tryd.sizeOf93
  v72 := Tryd.zeroValue93
  t127 := Tryd.underlying103
  a127 := Tryd.isAgg103
  z127 := Tryd.sizeOf103
  v127 := Tryd.zeroValue103 }
theorem Tryd.bx : Builder.Extra Tryd.prog Tryd.rn := {
  sizeBuilder := by kernel_rfl
  liesBuilder := by kernel_rfl
  t5 := Tryd.underlying5
  a5 := Tryd.isAgg5
  z5 := Tryd.sizeOf5
  v5 := Tryd.zeroValue5
  infoByte := by kernel_rfl
  cellsByte := by kernel_rfl
  sizeByte := by kernel_rfl
  neB5 := by decide }
end Go.Proofs.YtcoekgnbncocnaaDoor


namespace Go.Proofs.YtcoekgnbncocnaaDoor.Pa
open Go.Shelf Go.RowKit Go.Proofs.YtcoekgnbncocnaaDoorW.PrintWords Go.Proofs.YtcoekgnbncocnaaDoorW.PrintLast

def strings_Trim.f (a0 a1 : ByteArray) : Option ByteArray := if a0.size ≤ 9223372036854775807 ∧ a1 = ⟨#[0]⟩ then some ⟨(Lib.trimB a0.data.toList 0).toArray⟩ else none
theorem strings_Trim.calls (a0 a1 : ByteArray) (r : ByteArray) (w : World) (h : strings_Trim.f a0 a1 = some r) :
    Calls Tryd.prog 74 #[.string a0, .string a1] w fun e w' => e = .returned (.string r) ∧ Drawn0 w w' := by
  unfold strings_Trim.f at h
  split at h
  · rename_i hc
    obtain rfl := Option.some.inj h
    obtain ⟨hs, rfl⟩ := hc
    exact (Any.strings_Trim_one Tryd.lay160 a0 0 (by decide) w hs).mono fun e w' ⟨he, hw⟩ => ⟨he, by
      rcases hw with rfl | rfl
      · exact Drawn0.refl _
      · exact ⟨1, rfl⟩⟩
  · cases h
end Go.Proofs.YtcoekgnbncocnaaDoor.Pa


namespace Go.Proofs.YtcoekgnbncocnaaDoor.Pa
open Go.RowKit Go.Shelf
set_option linter.unusedVariables false
section
variable {P : Program} {ρ : Ren}

def Keeps (e : TypeId) (b : Nat) (w w' : World) : Prop := ∀ (k : Nat) (cs : Array Value) (T : TypeId) (fr : Nat × Nat), k ≠ b → T ≠ e → w.heap[k]? = some (.cells cs T fr) → w'.heap[k]? = some (.cells cs T fr)
theorem Keeps.refl (e : TypeId) (b : Nat) (w : World) : Keeps e b w w := fun _ _ _ _ _ _ h => h
theorem Keeps.trans {e : TypeId} {b : Nat} {u v w : World} (h : Keeps e b u v) (k : Keeps e b v w) : Keeps e b u w := fun i cs T fr h1 h2 h3 => k i cs T fr h1 h2 (h i cs T fr h1 h2 h3)
theorem Keeps.alloc (e : TypeId) (b : Nat) (w : World) (o : Obj) : Keeps e b w (w.alloc o) := fun k cs T fr _ _ h => (Lib.alloc_old w o k (Array.getElem?_eq_some_iff.1 h).1).trans h
theorem Keeps.set (e : TypeId) (b j : Nat) (w : World) (v : Value) : Keeps e b w (w.setCell ⟨b, j, none⟩ v) := fun k cs T fr h1 _ h => (Below.heap_setCell w ⟨b, j, none⟩ v k h1).trans h
theorem Keeps.grown {B : Nat} {e : TypeId} {v : Value} {n : Nat} {xs : List Value} {w w' : World} (b : Nat) (hown : w.ownsRow B e 1 v n xs) (hg : w.grownBy w' v.ownBlock) : Keeps e b w w' :=
  fun k cs T fr _ h2 h => (hg.block k (Array.getElem?_eq_some_iff.1 h).1 (fun q => Lib.ownBlock_ne hown h h2 q.symm)).trans h

theorem bld_check (L : Lays.n240 P ρ) (X : Builder.X72 P ρ) (B b : Nat) (bs : List Value) (w : World) (h : Lib.IsBuilder (ρ.t 72) (ρ.t 5) B b bs w) :
    Calls P (ρ.f 240) #[.pointer (some ⟨b, 0, none⟩)] w fun e w' => e = .returned (.tuple #[]) ∧ Lib.BuilderAt (ρ.t 72) (ρ.t 5) B b (.pointer (some ⟨b, 0, none⟩)) bs w' ∧ Below B w w' ∧ Keeps (ρ.t 5) b w w' := by
  cases h with
  | inl h =>
    refine (Any.Builder_copyCheck_fresh L X b w h.cell0 h.shape h.frozen0).mono fun e w' hw => ?_
    obtain ⟨he, rfl⟩ := hw
    exact ⟨he, h.used _, (Below.refl B w).setCell (p := ⟨b, 0, none⟩) h.1 _, Keeps.set _ b 0 w _⟩
  | inr h =>
    refine (Any.Builder_copyCheck_used L X b w h.cell0).mono fun e w' hw => ?_
    obtain ⟨he, rfl⟩ := hw
    exact ⟨he, h, Below.refl B _, Keeps.refl _ _ _⟩

set_option maxHeartbeats 2000000 in
set_option maxRecDepth 100000 in
theorem bld_WriteByte (L : Lays.n167 P ρ) (X : Builder.Extra P ρ) (B b : Nat) (bs : List Value) (c : Int) (w : World) (h : Lib.IsBuilder (ρ.t 72) (ρ.t 5) B b bs w) (hlen : bs.length + 1 ≤ 140737488355328) (hBw : B ≤ w.heap.size) :
    Calls P (ρ.f 167) #[.pointer (some ⟨b, 0, none⟩), .int .u8 c] w fun e w' => e = .returned .nilIface ∧ Lib.IsBuilder (ρ.t 72) (ρ.t 5) B b (bs ++ [.int .u8 c]) w' ∧ Below B w w' ∧ Keeps (ρ.t 5) b w w' := by
  obtain ⟨i0, hi, hz0, hz1, hz2⟩ := info_parts X.infoByte
  have mixed := L.mixed
  have t72 := L.t72; have a72 := L.a72; have z72 := L.z72; have v72 := L.v72; have u72 := run_underlying L.t72
  have t70 := L.t70; have a70 := L.a70; have z70 := L.z70; have v70 := L.v70; have u70 := run_underlying L.t70
  have t5 := L.t5; have a5 := L.a5; have z5 := L.z5; have v5 := L.v5; have u5 := run_underlying L.t5
  have t37 := L.t37; have a37 := L.a37; have z37 := L.z37; have v37 := L.v37; have u37 := run_underlying L.t37
  have t9 := L.t9; have a9 := L.a9; have z9 := L.z9; have v9 := L.v9; have u9 := run_underlying L.t9
  have t4 := L.t4; have a4 := L.a4; have z4 := L.z4; have v4 := L.v4; have u4 := run_underlying L.t4
  have t164 := L.t164; have a164 := L.a164; have z164 := L.z164; have v164 := L.v164; have u164 := run_underlying L.t164
  have e240 : ∀ args w, (callFunc (ρ.f 240) args).run P w = .ok (.enter (ρ.f 240) args) w := enters_of L.f240 (by kernel_rfl) rfl
  go_enter L.f167, Body.n167_ntmps ρ
  go_wp2_with (go_at_fn (ρ.f 240); refine (bld_check { L with } X.toX72 B b bs _ h).mono ?_)
  intro e w1 hw1
  obtain ⟨rfl, ⟨hB, v, hbk, hown, hne⟩, hb1, hk1⟩ := hw1
  have c0 : w1.cell? ⟨b, 0, none⟩ = some (.pointer (some ⟨b, 0, none⟩)) := (Lib.cell_of_heap hbk 0).trans rfl
  have c1 : w1.cell? ⟨b, 1, none⟩ = some v := (Lib.cell_of_heap hbk 1).trans rfl
  have hs1 := hb1.size
  go_wp2_with (at_builtin; refine wpList_append_own _ rfl _ _ (ρ.t 37) rfl B (ρ.t 5) i0 (.int .u8 0) 1 1 L.t37 hi hz0 hz1 hz2 rfl (by decide) _ _ _ rfl (hown.alloc _) ⟨w1.heap.size, 0, none⟩ 1 1 [.int .u8 c] rfl rfl ?r1 ?r2 ?r3 ?r4 ?r5 ?_)
  case r1 =>
    intro j u hj
    match j, hj with
    | 0, hj => simp at hj; subst hj; simp [Addr.add]
  case r2 => intro u hu; simp at hu; subst hu; rfl
  case r3 => unfold maxLen; omega
  case r4 => omega
  case r5 => simp; omega
  intro v' w2 hown' hg2 _
  have hk2 : Keeps (ρ.t 5) b w1 w2 := (Keeps.alloc _ b w1 _).trans (Keeps.grown b (hown.alloc _) hg2)
  have hlt : b < w1.heap.size := (Array.getElem?_eq_some_iff.1 hbk).1
  have hb2 : w2.heap[b]? = some (.cells #[.pointer (some ⟨b, 0, none⟩), v] (ρ.t 72) (0, 0)) :=
    ((hg2.block b (by simp; omega) (fun q => hne q.symm)).trans (Lib.alloc_old w1 _ b hlt)).trans hbk
  have d0 : w2.cell? ⟨b, 0, none⟩ = some (.pointer (some ⟨b, 0, none⟩)) := (Lib.cell_of_heap hb2 0).trans rfl
  have d1 : w2.cell? ⟨b, 1, none⟩ = some v := (Lib.cell_of_heap hb2 1).trans rfl
  have f1 : w2.frozen? ⟨b, 1, none⟩ = false := Lib.frozen_of_heap hb2 1
  obtain ⟨g, cap, rfl⟩ : ∃ g cap, v' = .slice (some ⟨g, 0, none⟩) (bs.length + 1) cap := by
    rcases hown'.2 with ⟨_, h0⟩ | ⟨g, cap, cur, hv, _⟩
    · exact absurd h0 (by omega)
    · exact ⟨g, cap, hv⟩
  go_wp2
  go_ret
  have hbl : Below B w w2 := (hb1.alloc (by omega) _).grown hg2 (by simp; omega) (fun k hk => (hown.lt k hk).1)
  exact ⟨rfl, .inr (Lib.BuilderAt.put (T := ρ.t 72) (e := ρ.t 5) hB hb2 (bs' := bs ++ [.int .u8 c]) (by simpa using hown') X.neB5), hbl.setCell (p := ⟨b, 1, none⟩) hB _, (hk1.trans hk2).trans (Keeps.set _ b 1 w2 _)⟩

set_option maxHeartbeats 2000000 in
set_option maxRecDepth 100000 in
theorem bld_WriteString (L : Lays.n166 P ρ) (X : Builder.Extra P ρ) (B b : Nat) (bs : List Value) (s : ByteArray) (w : World) (h : Lib.IsBuilder (ρ.t 72) (ρ.t 5) B b bs w) (hlen : bs.length + s.size ≤ 140737488355328) (hBw : B ≤ w.heap.size) :
    Calls P (ρ.f 166) #[.pointer (some ⟨b, 0, none⟩), .string s] w fun e w' => e = .returned (.tuple #[.int .i64 s.size, .nilIface]) ∧ Lib.IsBuilder (ρ.t 72) (ρ.t 5) B b (bs ++ Lib.strCells s) w' ∧ Below B w w' ∧ Keeps (ρ.t 5) b w w' := by
  obtain ⟨i0, hi, hz0, hz1, hz2⟩ := info_parts X.infoByte
  have mixed := L.mixed
  have t72 := L.t72; have a72 := L.a72; have z72 := L.z72; have v72 := L.v72; have u72 := run_underlying L.t72
  have t70 := L.t70; have a70 := L.a70; have z70 := L.z70; have v70 := L.v70; have u70 := run_underlying L.t70
  have t37 := L.t37; have a37 := L.a37; have z37 := L.z37; have v37 := L.v37; have u37 := run_underlying L.t37
  have t3 := L.t3; have a3 := L.a3; have z3 := L.z3; have v3 := L.v3; have u3 := run_underlying L.t3
  have t9 := L.t9; have a9 := L.a9; have z9 := L.z9; have v9 := L.v9; have u9 := run_underlying L.t9
  have t4 := L.t4; have a4 := L.a4; have z4 := L.z4; have v4 := L.v4; have u4 := run_underlying L.t4
  have t164 := L.t164; have a164 := L.a164; have z164 := L.z164; have v164 := L.v164; have u164 := run_underlying L.t164
  have t5 := X.t5; have a5 := X.a5; have z5 := X.z5; have v5 := X.v5; have u5 := run_underlying X.t5
  have e240 : ∀ args w, (callFunc (ρ.f 240) args).run P w = .ok (.enter (ρ.f 240) args) w := enters_of L.f240 (by kernel_rfl) rfl
  go_enter L.f166, Body.n166_ntmps ρ
  go_wp2_with (go_at_fn (ρ.f 240); refine (bld_check { L with } X.toX72 B b bs _ h).mono ?_)
  intro e w1 hw1
  obtain ⟨rfl, ⟨hB, v, hbk, hown, hne⟩, hb1, hk1⟩ := hw1
  have c0 : w1.cell? ⟨b, 0, none⟩ = some (.pointer (some ⟨b, 0, none⟩)) := (Lib.cell_of_heap hbk 0).trans rfl
  have c1 : w1.cell? ⟨b, 1, none⟩ = some v := (Lib.cell_of_heap hbk 1).trans rfl
  have hs1 := hb1.size
  go_wp2_with (at_builtin; refine Lib.wpList_append_own_string _ rfl _ _ (ρ.t 37) (ρ.t 9) rfl B (ρ.t 5) i0 L.t37 L.t9 hi hz0 hz1 hz2 _ _ _ rfl hown s rfl ?r3 ?r4 ?r5 ?_)
  case r3 => unfold maxLen; omega
  case r4 => omega
  case r5 => omega
  intro v' w2 hown' hg2 _
  have hk2 : Keeps (ρ.t 5) b w1 w2 := Keeps.grown b hown hg2
  have hlt : b < w1.heap.size := (Array.getElem?_eq_some_iff.1 hbk).1
  have hb2 : w2.heap[b]? = some (.cells #[.pointer (some ⟨b, 0, none⟩), v] (ρ.t 72) (0, 0)) := (hg2.block b hlt (fun q => hne q.symm)).trans hbk
  have d0 : w2.cell? ⟨b, 0, none⟩ = some (.pointer (some ⟨b, 0, none⟩)) := (Lib.cell_of_heap hb2 0).trans rfl
  have d1 : w2.cell? ⟨b, 1, none⟩ = some v := (Lib.cell_of_heap hb2 1).trans rfl
  have f1 : w2.frozen? ⟨b, 1, none⟩ = false := Lib.frozen_of_heap hb2 1
  obtain ⟨ao, n', cap, rfl⟩ : ∃ ao n' cap, v' = .slice ao n' cap := by
    rcases hown'.2 with ⟨hv, _⟩ | ⟨g, cap, cur, hv, _⟩ <;> exact ⟨_, _, _, hv⟩
  go_wp2
  go_ret2
  have hbl : Below B w w2 := hb1.grown hg2 (by omega) (fun k hk => (hown.lt k hk).1)
  exact ⟨rfl, .inr (Lib.BuilderAt.put (T := ρ.t 72) (e := ρ.t 5) hB hb2 (bs' := bs ++ Lib.strCells s) (by simpa [Lib.strCells_length] using hown') X.neB5), hbl.setCell (p := ⟨b, 1, none⟩) hB _, (hk1.trans hk2).trans (Keeps.set _ b 1 w2 _)⟩
end
theorem option_WriteByte (B b : Nat) (bs : List Value) (c : Int) (w : World) (h : Lib.IsBuilder 93 5 B b bs w) (hlen : bs.length + 1 ≤ 140737488355328) (hBw : B ≤ w.heap.size) :
    Calls Tryd.prog 69 #[.pointer (some ⟨b, 0, none⟩), .int .u8 c] w fun e w' => e = .returned .nilIface ∧ Lib.IsBuilder 93 5 B b (bs ++ [.int .u8 c]) w' ∧ Below B w w' ∧ Keeps 5 b w w' :=
  bld_WriteByte Tryd.lay167 Tryd.bx B b bs c w h hlen hBw
theorem option_WriteString (B b : Nat) (bs : List Value) (s : ByteArray) (w : World) (h : Lib.IsBuilder 93 5 B b bs w) (hlen : bs.length + s.size ≤ 140737488355328) (hBw : B ≤ w.heap.size) :
    Calls Tryd.prog 70 #[.pointer (some ⟨b, 0, none⟩), .string s] w fun e w' => e = .returned (.tuple #[.int .i64 s.size, .nilIface]) ∧ Lib.IsBuilder 93 5 B b (bs ++ Lib.strCells s) w' ∧ Below B w w' ∧ Keeps 5 b w w' :=
  bld_WriteString Tryd.lay166 Tryd.bx B b bs s w h hlen hBw
theorem option_String (B b : Nat) (l : List UInt8) (w : World) (h : Lib.IsBuilder 93 5 B b (Lib.byteCells l) w) (hBw : B ≤ w.heap.size) :
    Calls Tryd.prog 71 #[.pointer (some ⟨b, 0, none⟩)] w fun e w' => e = .returned (.string ⟨l.toArray⟩) ∧ Below B w w' :=
  Any.Builder_String_any Tryd.lay169 Tryd.bx B b l w h hBw
end Go.Proofs.YtcoekgnbncocnaaDoor.Pa


namespace Go.Proofs.YtcoekgnbncocnaaDoor.DN
open Go Go.RowKit Go.Proofs.YtcoekgnbncocnaaDoorW.PrintWords
set_option linter.unusedVariables false
set_option linter.unusedSimpArgs false

abbrev L (b : ByteArray) : List UInt8 := b.data.toList
def B (l : List UInt8) : ByteArray := ⟨l.toArray⟩
@[simp] theorem L_B (l : List UInt8) : L (B l) = l := rfl
@[simp] theorem B_L (b : ByteArray) : B (L b) = b := by obtain ⟨⟨l⟩⟩ := b; rfl
theorem L_inj {a b : ByteArray} (h : L a = L b) : a = b := by rw [← B_L a, ← B_L b, h]
theorem L_len (a : ByteArray) : (L a).length = a.size := (Lib.size_eq a).symm
theorem toList_L (a : ByteArray) : a.toList = L a := Lib.toList_data a
theorem L_append (a b : ByteArray) : L (a ++ b) = L a ++ L b := by simp [L, ByteArray.data_append]
theorem L_extract (s : ByteArray) (a b : Nat) : L (s.extract a b) = ((L s).drop a).take (b - a) := Lib.extract_data s a b
theorem B_size (l : List UInt8) : (B l).size = l.length := by simp [B, ByteArray.size]
/-- a byte of a string, as a number -/
theorem bt_L (s : ByteArray) (i : Nat) (h : i < (L s).length) : bt s (i : Int) = (((L s)[i]).toNat : Int) := by
  have h' : i < s.size := by rw [L_len] at h; exact h
  unfold bt
  rw [dif_pos (by simpa using h')]
  rfl

theorem wrap_id {x : Int} (h0 : -9223372036854775808 ≤ x) (h1 : x ≤ 9223372036854775807) : wrap64 x = x := by unfold wrap64; omega

end Go.Proofs.YtcoekgnbncocnaaDoor.DN


namespace Go.Proofs.YtcoekgnbncocnaaDoor.OPT
set_option linter.unusedVariables false
set_option linter.unusedSimpArgs false

abbrev O := Int × List UInt8
def fnd : List O → Int → Option (List UInt8)
  | [], _ => none
  | o :: l, c => if o.1 = c then some o.2 else fnd l c
def ad : List O → Int → List UInt8 → List O
  | [], c, p => [(c, p)]
  | o :: l, c, p => if o.1 = c then (c, o.2 ++ p) :: l else o :: ad l c p
def jn (l : List O) (c : Int) (p : List UInt8) : List O := l.map (fun o => if o.1 = c then (o.1, o.2 ++ p) else o) ++ (if c ∈ l.map (·.1) then [] else [(c, p)])
def sz : List O → Nat
  | [] => 0
  | o :: l => o.2.length + sz l
def no (l : List O) : Prop := l.length ≤ 32 ∧ sz l ≤ 4096 ∧ ∀ o ∈ l, o.2.length ≤ 1024
instance (l : List O) : Decidable (no l) := inferInstanceAs (Decidable (_ ∧ _ ∧ _))
def vld (l : List O) : Prop := no l ∧ (l.map (·.1)).Nodup ∧ ∀ o ∈ l, 1 ≤ o.1 ∧ o.1 ≤ 254
instance (l : List O) : Decidable (vld l) := inferInstanceAs (Decidable (_ ∧ _ ∧ _))
def dec (l : List O) (s : List UInt8) : List O × Int :=
  match s with
  | [] => ([], 7)
  | c :: r =>
    if c = 0 then dec l r
    else if c = 255 then (if r.all (· == 0) then (l, 0) else ([], 8))
    else match r with
      | [] => ([], 6)
      | n :: q => if q.length < n.toNat then ([], 6) else if no (ad l c.toNat (q.take n.toNat)) then dec (ad l c.toNat (q.take n.toNat)) (q.drop n.toNat) else ([], 9)
termination_by s.length
decreasing_by all_goals simp_wf; all_goals (try omega)
def encV (c : UInt8) (v : List UInt8) : List UInt8 :=
  if h : v.length ≤ 255 then c :: UInt8.ofNat v.length :: v else c :: 255 :: (v.take 255 ++ encV c (v.drop 255))
termination_by v.length
decreasing_by simp_wf; omega
def encL : List O → List UInt8
  | [] => []
  | o :: l => encV (UInt8.ofNat o.1.toNat) o.2 ++ encL l
def enc (l : List O) : List UInt8 := encL l ++ [255]

theorem dec_nil (l : List O) : dec l [] = ([], 7) := by rw [dec]
theorem dec_zero (l : List O) (r : List UInt8) : dec l (0 :: r) = dec l r := by rw [dec.eq_def]; simp
theorem dec_end (l : List O) (r : List UInt8) : dec l (255 :: r) = if r.all (· == 0) then (l, 0) else ([], 8) := by rw [dec.eq_def]; dsimp only; rw [if_neg (by decide), if_pos rfl]
theorem dec_short (l : List O) {c : UInt8} (h0 : c ≠ 0) (h1 : c ≠ 255) : dec l [c] = ([], 6) := by rw [dec.eq_def]; dsimp only; rw [if_neg h0, if_neg h1]
theorem dec_part (l : List O) {c n : UInt8} (q : List UInt8) (h0 : c ≠ 0) (h1 : c ≠ 255) :
    dec l (c :: n :: q) = if q.length < n.toNat then ([], 6) else if no (ad l c.toNat (q.take n.toNat)) then dec (ad l c.toNat (q.take n.toNat)) (q.drop n.toNat) else ([], 9) := by
  rw [dec.eq_def]; dsimp only; rw [if_neg h0, if_neg h1]

theorem sz_append (l m : List O) : sz (l ++ m) = sz l + sz m := by
  induction l with
  | nil => simp [sz]
  | cons o l ih => simp [sz, ih]; omega
theorem ad_codes (l : List O) (c : Int) (p : List UInt8) : (ad l c p).map (·.1) = if c ∈ l.map (·.1) then l.map (·.1) else l.map (·.1) ++ [c] := by
  induction l with
  | nil => simp [ad]
  | cons o l ih =>
    rw [ad]
    by_cases h : o.1 = c
    · rw [if_pos h]; simp [h]
    · rw [if_neg h, List.map_cons, ih]
      have h' : ¬ c = o.1 := fun e => h e.symm
      by_cases h2 : c ∈ l.map (·.1)
      · rw [if_pos h2, if_pos (by simp only [List.map_cons, List.mem_cons]; exact .inr h2)]; rfl
      · rw [if_neg h2, if_neg (by simp only [List.map_cons, List.mem_cons, not_or]; exact ⟨h', h2⟩)]; rfl
theorem nodup_ad {l : List O} (c : Int) (p : List UInt8) (h : (l.map (·.1)).Nodup) : ((ad l c p).map (·.1)).Nodup := by
  rw [ad_codes]
  split
  · exact h
  · rename_i h2
    rw [List.nodup_append]
    exact ⟨h, by simp, fun a ha b hb => by rw [List.mem_singleton] at hb; subst hb; intro e; subst e; exact h2 ha⟩
theorem codes_ad {l : List O} {c : Int} (p : List UInt8) {P : Int → Prop} (h : ∀ o ∈ l, P o.1) (hc : P c) : ∀ o ∈ ad l c p, P o.1 := by
  intro o ho
  have : o.1 ∈ (ad l c p).map (·.1) := List.mem_map_of_mem ho
  rw [ad_codes] at this
  have h2 : ∀ x ∈ l.map (·.1), P x := fun x hx => by obtain ⟨y, hy, rfl⟩ := List.mem_map.1 hx; exact h y hy
  split at this
  · exact h2 _ this
  · rcases List.mem_append.1 this with h3 | h3
    · exact h2 _ h3
    · rw [List.mem_singleton.1 h3]; exact hc
theorem ad_jn {l : List O} (c : Int) (p : List UInt8) (h : (l.map (·.1)).Nodup) : ad l c p = jn l c p := by
  induction l with
  | nil => simp [ad, jn]
  | cons o l ih =>
    simp only [List.map_cons, List.nodup_cons] at h
    rw [ad]
    by_cases h1 : o.1 = c
    · rw [if_pos h1]
      subst h1
      have hm : l.map (fun x => if x.1 = o.1 then (x.1, x.2 ++ p) else x) = l := by
        rw [List.map_congr_left (g := id), List.map_id]
        intro x hx
        rw [if_neg (fun e => h.1 (by rw [← e]; exact List.mem_map_of_mem hx))]; rfl
      simp [jn, hm]
    · rw [if_neg h1, ih h.2]
      have h' : ¬ c = o.1 := fun e => h1 e.symm
      simp only [jn, List.map_cons, if_neg h1, List.cons_append, List.mem_cons, h', false_or]

theorem byte_of {c : Int} (h1 : 1 ≤ c) (h2 : c ≤ 254) : ((UInt8.ofNat c.toNat).toNat : Int) = c ∧ UInt8.ofNat c.toNat ≠ 0 ∧ UInt8.ofNat c.toNat ≠ 255 := by
  have h3 : (UInt8.ofNat c.toNat).toNat = c.toNat := by rw [UInt8.toNat_ofNat']; omega
  refine ⟨by omega, fun e => ?_, fun e => ?_⟩
  · have := congrArg UInt8.toNat e; rw [h3] at this; simp at this; omega
  · have := congrArg UInt8.toNat e; rw [h3] at this; simp at this; omega
theorem len_byte {n : Nat} (h : n ≤ 255) : (UInt8.ofNat n).toNat = n := by rw [UInt8.toNat_ofNat']; omega

theorem ad_range {l : List O} {c : UInt8} (p : List UInt8) (h : ∀ o ∈ l, 1 ≤ o.1 ∧ o.1 ≤ 254) (h0 : c ≠ 0) (h1 : c ≠ 255) : ∀ o ∈ ad l c.toNat p, 1 ≤ o.1 ∧ o.1 ≤ 254 := by
  refine codes_ad (P := fun x => 1 ≤ x ∧ x ≤ 254) p h ?_
  have h2 := c.toNat_lt
  have h3 : c.toNat ≠ 0 := fun e => h0 (UInt8.toNat_inj.1 e)
  have h4 : c.toNat ≠ 255 := fun e => h1 (UInt8.toNat_inj.1 e)
  omega
theorem vld_ad {l : List O} {c : UInt8} (p : List UInt8) (h : (l.map (·.1)).Nodup ∧ ∀ o ∈ l, 1 ≤ o.1 ∧ o.1 ≤ 254) (h0 : c ≠ 0) (h1 : c ≠ 255) : vld (ad l c.toNat p) ↔ no (ad l c.toNat p) :=
  ⟨fun h => h.1, fun hn => ⟨hn, nodup_ad _ _ h.1, ad_range p h.2 h0 h1⟩⟩

/-- What is decoded is valid; the other answers are empty and of four kinds; and without its end it is none. -/
theorem dec_all : ∀ (n : Nat) (s : List UInt8) (l : List O), s.length ≤ n → vld l →
    ((dec l s).2 = 0 ∧ vld (dec l s).1 ∧ ∃ p z, s = p ++ 255 :: z ∧ z.all (· == 0) = true ∧ dec l p = ([], 7)) ∨ ((dec l s).1 = [] ∧ ((dec l s).2 = 6 ∨ (dec l s).2 = 7 ∨ (dec l s).2 = 8 ∨ (dec l s).2 = 9)) := by
  intro n
  induction n with
  | zero =>
    intro s l hs _
    have : s = [] := List.length_eq_zero_iff.1 (by omega)
    subst this; rw [dec_nil]; right; simp
  | succ n ih =>
    intro s l hs hv
    match s with
    | [] => rw [dec_nil]; right; simp
    | c :: r =>
      by_cases h0 : c = 0
      · subst h0
        rw [dec_zero]
        rcases ih r l (by simp at hs; omega) hv with ⟨a, b, p, z, e, hz, hp⟩ | h
        · exact .inl ⟨a, b, 0 :: p, z, by rw [e]; rfl, hz, by rw [dec_zero, hp]⟩
        · exact .inr h
      by_cases h1 : c = 255
      · subst h1
        rw [dec_end]
        by_cases hz : r.all (· == 0) = true
        · rw [if_pos hz]; exact .inl ⟨rfl, hv, [], r, rfl, hz, dec_nil l⟩
        · rw [if_neg hz]; right; simp
      match r with
      | [] => rw [dec_short l h0 h1]; right; simp
      | k :: q =>
        rw [dec_part l q h0 h1]
        by_cases hq : q.length < k.toNat
        · rw [if_pos hq]; right; simp
        rw [if_neg hq]
        by_cases hn : no (ad l c.toNat (q.take k.toNat))
        · rw [if_pos hn]
          have hv2 := (vld_ad (q.take k.toNat) hv.2 h0 h1).2 hn
          rcases ih (q.drop k.toNat) _ (by simp at hs ⊢; omega) hv2 with ⟨a, b, p, z, e, hz, hp⟩ | h
          · refine .inl ⟨a, b, c :: k :: (q.take k.toNat ++ p), z, ?_, hz, ?_⟩
            · rw [List.cons_append, List.cons_append, List.append_assoc, ← e, List.take_append_drop]
            · have ht : (q.take k.toNat).length = k.toNat := by rw [List.length_take]; omega
              rw [dec_part l _ h0 h1, if_neg (by rw [List.length_append, ht]; omega), List.take_left' ht, List.drop_left' ht, if_pos hn, hp]
          · exact .inr h
        · rw [if_neg hn]; right; simp

theorem enc_length_le : ∀ (n : Nat) (c : UInt8) (v : List UInt8), v.length ≤ n → (encV c v).length ≤ 3 * v.length + 2
  | 0, c, v, h => by rw [encV, dif_pos (by omega)]; simp; omega
  | n + 1, c, v, h => by
    rw [encV]
    by_cases h2 : v.length ≤ 255
    · rw [dif_pos h2]; simp; omega
    · rw [dif_neg h2]
      have h3 := enc_length_le n c (v.drop 255) (by rw [List.length_drop]; omega)
      simp at h3 ⊢; omega
end Go.Proofs.YtcoekgnbncocnaaDoor.OPT


namespace Go.Proofs.YtcoekgnbncocnaaDoor.OPT
open Go Go.RowKit Go.Proofs.YtcoekgnbncocnaaDoorW.PrintWords Go.Proofs.YtcoekgnbncocnaaDoor.DN Go.Proofs.YtcoekgnbncocnaaDoor.Pa
set_option linter.unusedVariables false
set_option linter.unusedSimpArgs false

def o1 (x : S61) : O := (x.f0, L x.f1)
def ab (l : List S61) : List O := l.map o1
theorem ab_nil : ab [] = [] := rfl
theorem ab_cons (x : S61) (l : List S61) : ab (x :: l) = o1 x :: ab l := rfl
theorem ab_append (l m : List S61) : ab (l ++ m) = ab l ++ ab m := List.map_append
theorem ab_length (l : List S61) : (ab l).length = l.length := List.length_map ..
theorem o1_inj {x y : S61} (h : o1 x = o1 y) : x = y := by
  obtain ⟨a, b⟩ := x
  obtain ⟨c, d⟩ := y
  have h1 := (Prod.mk.inj h).1
  have h2 := L_inj (Prod.mk.inj h).2
  simp only at h1 h2
  rw [h1, h2]
theorem ab_inj : ∀ {l m : List S61}, ab l = ab m → l = m
  | [], [], _ => rfl
  | [], _ :: _, h => by cases h
  | _ :: _, [], h => by cases h
  | x :: l, y :: m, h => by rw [o1_inj (List.cons.inj h).1, ab_inj (List.cons.inj h).2]

theorem rd_at {l : List S61} {i : Nat} (h : i < l.length) : rd_T61 l (i : Int) = l[i] := by unfold rd_T61; simp [h]
theorem wsucc {i : Nat} (h : i < 9223372036854775806) : wrap64 ((i : Int) + 1) = ((i + 1 : Nat) : Int) := by rw [wrap_id (by omega) (by omega)]; rfl
theorem drop_at {α : Type} {l : List α} {i : Nat} (h : i < l.length) : l.drop i = l[i] :: l.drop (i + 1) := by rw [List.drop_eq_getElem_cons h]

def fndA (m : List O) (c : Int) : ByteArray × Bool := match fnd m c with
  | some v => (B v, true)
  | none => (⟨#[]⟩, false)
theorem find_l (l : List S61) (c : Int) (hl : l.length ≤ 5864062014800) : ∀ (n k i : Nat), l.length - i ≤ n → n < k → i ≤ l.length → option_Find.l0 k c l (l.length : Int) (i : Int) = some (fndA (ab (l.drop i)) c) := by
  intro n
  induction n with
  | zero =>
    intro k i hn hk hi
    obtain ⟨k, rfl⟩ : ∃ q, k = q + 1 := ⟨k - 1, by omega⟩
    obtain rfl : i = l.length := by omega
    rw [option_Find.l0, if_neg (by omega), List.drop_length]; rfl
  | succ n ih =>
    intro k i hn hk hi
    obtain ⟨k, rfl⟩ : ∃ q, k = q + 1 := ⟨k - 1, by omega⟩
    by_cases hlt : i < l.length
    · rw [option_Find.l0, if_pos (by omega), if_pos (by omega), if_pos (by omega), rd_at hlt, drop_at hlt, ab_cons]
      by_cases hc : l[i].f0 = c
      · rw [if_pos hc]; simp [fndA, fnd, o1, hc]
      · rw [if_neg hc, wsucc (by omega), ih k (i + 1) (by omega) (by omega) (by omega)]
        have : fnd (o1 l[i] :: ab (l.drop (i + 1))) c = fnd (ab (l.drop (i + 1))) c := by rw [fnd, if_neg (show ¬ (o1 l[i]).1 = c from hc)]
        unfold fndA; rw [this]
    · obtain rfl : i = l.length := by omega
      rw [option_Find.l0, if_neg (by omega), List.drop_length]; rfl
theorem find_f (l : List S61) (c : Int) (hl : l.length ≤ 5864062014800) (k : Nat) (hk : l.length < k) : option_Find.f k l c = some (fndA (ab l) c) := by
  have := find_l l c hl l.length k 0 (by omega) hk (by omega)
  simpa [option_Find.f] using this
theorem fndA_some (m : List O) (c : Int) : (fndA m c).2 = (fnd m c).isSome := by unfold fndA; cases fnd m c <;> rfl
theorem fnd_some_iff (m : List O) (c : Int) : (fnd m c).isSome = true ↔ c ∈ m.map (·.1) := by
  induction m with
  | nil => simp [fnd]
  | cons o m ih =>
    rw [fnd]
    by_cases h : o.1 = c
    · simp [h]
    · have h' : ¬ c = o.1 := fun e => h e.symm
      rw [if_neg h, ih]; simp only [List.map_cons, List.mem_cons, h', false_or]
theorem sz_le {M : Nat} : ∀ {l : List S61}, (∀ x ∈ l, x.f1.size ≤ M) → sz (ab l) ≤ l.length * M
  | [], _ => by simp [ab, sz]
  | x :: l, h => by
    have h1 := h x (by simp)
    have h2 := sz_le (l := l) (fun y hy => h y (by simp [hy]))
    rw [ab_cons, sz]
    have : (o1 x).2.length = x.f1.size := L_len _
    rw [this, List.length_cons, Nat.add_mul]; omega
theorem size_l (l : List S61) (hl : l.length ≤ 5864062014800) : ∀ (n k i a : Nat), l.length - i ≤ n → n < k → i ≤ l.length → a + sz (ab (l.drop i)) ≤ 9223372036854775807 →
    option_size.l0 k (a : Int) l (l.length : Int) (i : Int) = some ((a + sz (ab (l.drop i)) : Nat) : Int) := by
  intro n
  induction n with
  | zero =>
    intro k i a hn hk hi _
    obtain ⟨k, rfl⟩ : ∃ q, k = q + 1 := ⟨k - 1, by omega⟩
    obtain rfl : i = l.length := by omega
    rw [option_size.l0, if_neg (by omega), List.drop_length]; rfl
  | succ n ih =>
    intro k i a hn hk hi hs
    obtain ⟨k, rfl⟩ : ∃ q, k = q + 1 := ⟨k - 1, by omega⟩
    by_cases hlt : i < l.length
    · rw [drop_at hlt, ab_cons, sz] at hs
      have hz : (o1 l[i]).2.length = l[i].f1.size := L_len _
      rw [hz] at hs
      rw [option_size.l0, if_pos (by omega), if_pos (by omega), if_pos (by omega), rd_at hlt, drop_at hlt, ab_cons, sz, hz]
      rw [show wrap64 ((a : Int) + (l[i].f1.size : Int)) = ((a + l[i].f1.size : Nat) : Int) by rw [wrap_id (by omega) (by omega)]; rfl, wsucc (by omega)]
      rw [ih k (i + 1) _ (by omega) (by omega) (by omega) (by omega)]
      congr 2; omega
    · obtain rfl : i = l.length := by omega
      rw [option_size.l0, if_neg (by omega), List.drop_length]; rfl
theorem size_f (l : List S61) (hl : l.length ≤ 32) (h : ∀ x ∈ l, x.f1.size ≤ 140737488351232) (k : Nat) (hk : l.length < k) : option_size.f k l = some ((sz (ab l) : Nat) : Int) := by
  have h2 := sz_le h
  have := size_l l (by omega) l.length k 0 0 (by omega) hk (by omega) (by rw [List.drop_zero]; omega)
  rw [List.drop_zero, Nat.zero_add] at this
  exact this
theorem isCode_f (c : Int) : option_isCode.f c = some (decide (1 ≤ c ∧ c ≤ 254)) := by
  unfold option_isCode.f
  by_cases h : c ≥ 1
  · rw [if_pos h]; congr 1; simp; omega
  · rw [if_neg h]; congr 1; simp; omega

/-- what the loops of Valid look at -/
def chk : List O → List O → Bool
  | _, [] => true
  | pre, o :: r => !(decide (o.1 ∈ pre.map (·.1))) && (decide (1 ≤ o.1 ∧ o.1 ≤ 254) && (decide (o.2.length ≤ 1024) && chk (pre ++ [o]) r))
theorem chk_iff : ∀ (l pre : List O), chk pre l = true ↔ ((∀ o ∈ l, 1 ≤ o.1 ∧ o.1 ≤ 254) ∧ (∀ o ∈ l, o.2.length ≤ 1024) ∧ (l.map (·.1)).Nodup ∧ ∀ o ∈ l, o.1 ∉ pre.map (·.1))
  | [], pre => by simp [chk]
  | o :: l, pre => by
    rw [chk, Bool.and_eq_true, Bool.and_eq_true, Bool.and_eq_true, chk_iff l (pre ++ [o])]
    simp only [Bool.not_eq_true', decide_eq_false_iff_not, decide_eq_true_iff, List.mem_cons, forall_eq_or_imp, List.map_cons, List.nodup_cons, List.map_append, List.map_nil, List.mem_append, List.mem_singleton, not_or]
    constructor
    · rintro ⟨h1, h2, h3, h4, h5, h6, h7⟩
      refine ⟨⟨h2, h4⟩, ⟨h3, h5⟩, ⟨fun hm => ?_, h6⟩, h1, fun x hx => (h7 x hx).1⟩
      obtain ⟨y, hy, e⟩ := List.mem_map.1 hm
      exact (h7 y hy).2.1 (by simpa using e)
    · rintro ⟨⟨h2, h4⟩, ⟨h3, h5⟩, ⟨h8, h6⟩, h1, h7⟩
      exact ⟨h1, h2, h3, h4, h5, h6, fun x hx => ⟨h7 x hx, fun e => h8 (e ▸ List.mem_map_of_mem hx), by simp⟩⟩
theorem vld_iff (l : List O) : vld l ↔ l.length ≤ 32 ∧ sz l ≤ 4096 ∧ chk [] l = true := by
  rw [chk_iff]
  constructor
  · rintro ⟨⟨a, b, c⟩, d, e⟩; exact ⟨a, b, e, c, d, by simp⟩
  · rintro ⟨a, b, e, c, d, _⟩; exact ⟨⟨a, b, c⟩, d, e⟩
theorem valid_l (l : List S61) (hl : l.length ≤ 32) : ∀ (n k i : Nat), l.length - i ≤ n → n + 40 < k → i ≤ l.length → option_Valid.l0 k l l (l.length : Int) (i : Int) = some (chk (ab (l.take i)) (ab (l.drop i))) := by
  intro n
  induction n with
  | zero =>
    intro k i hn hk hi
    obtain ⟨k, rfl⟩ : ∃ q, k = q + 1 := ⟨k - 1, by omega⟩
    obtain rfl : i = l.length := by omega
    rw [option_Valid.l0, if_neg (by omega), List.drop_length]; rfl
  | succ n ih =>
    intro k i hn hk hi
    obtain ⟨k, rfl⟩ : ∃ q, k = q + 1 := ⟨k - 1, by omega⟩
    by_cases hlt : i < l.length
    · rw [option_Valid.l0, if_pos (by omega), if_pos (by omega), if_pos (by omega), if_pos (by omega), rd_at hlt, drop_at hlt, ab_cons, Int.toNat_natCast]
      have hlen : (l.take i).length ≤ 32 := by rw [List.length_take]; omega
      rw [find_f _ _ (by omega) k (by omega), Option.bind_some]
      have h3 : chk (ab (l.take i)) (o1 l[i] :: ab (l.drop (i + 1))) = (!(decide ((o1 l[i]).1 ∈ (ab (l.take i)).map (·.1))) && (decide (1 ≤ (o1 l[i]).1 ∧ (o1 l[i]).1 ≤ 254) && (decide ((o1 l[i]).2.length ≤ 1024) && chk (ab (l.take (i + 1))) (ab (l.drop (i + 1)))))) := by
        rw [chk, List.take_succ_eq_append_getElem hlt, ab_append]; rfl
      rw [h3]
      have hz : (o1 l[i]).2.length = l[i].f1.size := L_len _
      have hc : (o1 l[i]).1 = l[i].f0 := rfl
      rw [hz, hc]
      by_cases h1 : l[i].f0 ∈ (ab (l.take i)).map (·.1)
      · rw [if_pos (by rw [fndA_some]; exact (fnd_some_iff _ _).2 h1)]; simp [h1]
      · rw [if_neg (by rw [fndA_some]; intro h; exact h1 ((fnd_some_iff _ _).1 h)), isCode_f, Option.bind_some]
        by_cases h2 : 1 ≤ l[i].f0 ∧ l[i].f0 ≤ 254
        · rw [if_pos (decide_eq_true h2)]
          by_cases h4 : (l[i].f1.size : Int) > 1024
          · rw [if_pos h4]; simp [show ¬ l[i].f1.size ≤ 1024 by omega]
          · rw [if_neg h4, wsucc (by omega), ih k (i + 1) (by omega) (by omega) (by omega)]
            rw [decide_eq_false h1, decide_eq_true h2, decide_eq_true (show l[i].f1.size ≤ 1024 by omega)]; rfl
        · rw [if_neg (by rw [decide_eq_false h2]; decide)]; simp [h2]
    · obtain rfl : i = l.length := by omega
      rw [option_Valid.l0, if_neg (by omega), List.drop_length]; rfl
theorem valid_f (l : List S61) (h : ∀ x ∈ l, x.f1.size ≤ 140737488351232) (k : Nat) (hk : 100 < k) : option_Valid.f k l = some (decide (vld (ab l))) := by
  obtain ⟨k, rfl⟩ : ∃ q, k = q + 1 := ⟨k - 1, by omega⟩
  unfold option_Valid.f
  by_cases h1 : (l.length : Int) > 32
  · rw [if_pos h1, option_Valid.j0, if_pos rfl, decide_eq_false (by rw [vld_iff, ab_length]; omega)]
  · rw [if_neg h1, size_f l (by omega) h _ (by omega), Option.bind_some, option_Valid.j0]
    by_cases h2 : ((sz (ab l) : Nat) : Int) > 4096
    · rw [if_pos (decide_eq_true h2), decide_eq_false (by rw [vld_iff]; omega)]
    · rw [if_neg (by rw [decide_eq_false h2]; decide)]
      have := valid_l l (by omega) l.length k 0 (by omega) (by omega) (by omega)
      rw [List.take_zero, List.drop_zero] at this
      refine Eq.trans this ?_
      congr 1
      rw [Bool.eq_iff_iff, decide_eq_true_iff, vld_iff, ab_length]
      exact ⟨fun h => ⟨by omega, by omega, h⟩, fun h => h.2.2⟩
end Go.Proofs.YtcoekgnbncocnaaDoor.OPT


namespace Go.Proofs.YtcoekgnbncocnaaDoor.Pa
open Go Go.RowKit Go.Shelf Go.Proofs.YtcoekgnbncocnaaDoorW.PrintWords Go.Proofs.YtcoekgnbncocnaaDoorW.PrintLast Go.Proofs.YtcoekgnbncocnaaDoorW.PrintMore Go.Proofs.YtcoekgnbncocnaaDoor.DN Go.Proofs.YtcoekgnbncocnaaDoor.OPT
attribute [local go_sem] max2_int min2_int max_two min_two
set_option linter.unusedVariables false
set_option linter.unusedSimpArgs false

def encA (l : List O) : ByteArray × Int := if vld l then (B (enc l), 0) else (⟨#[]⟩, 1)
def option_Encode.f (l0 : List S61) : Option (ByteArray × Int) := if l0.all (fun x => decide (x.f1.size ≤ 140737488351232)) then some (encA (ab l0)) else none

def encW (first : Bool) (c : UInt8) (v : List UInt8) : List UInt8 := if first = false ∧ v = [] then [] else encV c v
theorem encW_step (first : Bool) (c : UInt8) (v : List UInt8) (h : ¬ (first = false ∧ v = [])) :
    encW first c v = c :: UInt8.ofNat (min v.length 255) :: (v.take (min v.length 255) ++ encW false c (v.drop (min v.length 255))) := by
  unfold encW
  rw [if_neg h, encV]
  by_cases h2 : v.length ≤ 255
  · rw [dif_pos h2, Nat.min_eq_left h2, List.take_length, List.drop_length, if_pos ⟨rfl, rfl⟩, List.append_nil]
  · rw [dif_neg h2, Nat.min_eq_right (by omega), if_neg (by intro h3; have := congrArg List.length h3.2; rw [List.length_drop] at this; simp at this; omega)]; rfl
theorem encL_append (l m : List O) : encL (l ++ m) = encL l ++ encL m := by
  induction l with
  | nil => rfl
  | cons o l ih => rw [List.cons_append, encL, encL, ih, List.append_assoc]
theorem encL_length : ∀ (l : List O), (encL l).length ≤ 3 * sz l + 2 * l.length
  | [] => by simp [encL]
  | o :: l => by
    have h1 := enc_length_le _ (UInt8.ofNat o.1.toNat) o.2 (Nat.le_refl _)
    have h2 := encL_length l
    rw [encL, List.length_append, sz, List.length_cons]; omega

def szOf : Value → Nat | .string s => s.size | _ => 0
def bOf : Value → Nat | .bool true => 1 | _ => 0
theorem below_lt {B b : Nat} {w w1 w2 : World} (h : Below b w w1) (hB : b ≤ B) (k : Below B w1 w2) : Below b w w2 :=
  h.trans ⟨k.os, k.tape, k.output, k.size, fun i hi => k.block i (Nat.lt_of_lt_of_le hi hB)⟩
theorem bld_kept {T e : TypeId} {B b : Nat} {bs : List Value} {w w1 : World} {row : Option Nat} (h : Lib.IsBuilder T e B b bs w) (hg : w.grownBy w1 row) (hb : some b ≠ row) (hr : ∀ k v n, row = some k → w.ownsRow B e 1 v n bs → v.ownBlock ≠ some k) : Lib.IsBuilder T e B b bs w1 := by
  have hp : ∀ p, Lib.BuilderAt T e B b p bs w → Lib.BuilderAt T e B b p bs w1 := by
    intro p hw
    have hlt := hw.lt
    obtain ⟨hB, v, h1, h2, h4⟩ := hw
    refine ⟨hB, v, (hg.block b hlt hb).trans h1, h2.kept hg ?_, h4⟩
    cases row with
    | none => cases hv : v.ownBlock <;> simp
    | some k => exact .inr (hr k v _ rfl h2)
  exact h.imp (hp _) (hp _)
theorem bld_below {T e : TypeId} {B b : Nat} {bs : List Value} {w w1 : World} (h : Lib.IsBuilder T e B b bs w) (hg : Below w.heap.size w w1) : Lib.IsBuilder T e B b bs w1 :=
  bld_kept h (grown_of_below hg none) (by simp) (fun k v n hk => by cases hk)
theorem bld_set {T e t : TypeId} {B b g j : Nat} {bs : List Value} {w : World} {cs : Array Value} {u : Value} (h : Lib.IsBuilder T e B b bs w) (hg : w.heap[g]? = some (.cells cs t (0, 0))) (hne : b ≠ g) (ht : t ≠ e) : Lib.IsBuilder T e B b bs (w.setCell ⟨g, j, none⟩ u) :=
  bld_kept (row := some g) h ⟨rfl, rfl, rfl, by simp [World.setCell], fun k _ hk => Below.heap_setCell _ _ _ _ (fun e => hk (by simp [e]))⟩ (fun q => hne (Option.some.inj q)) (fun k v n hk ho => by obtain rfl := Option.some.inj hk; exact Lib.ownBlock_ne ho hg ht)
theorem bld_lt {T e : TypeId} {B b : Nat} {bs : List Value} {w : World} (h : Lib.IsBuilder T e B b bs w) : b < w.heap.size := by
  rcases h with h | h <;> exact h.lt
theorem rel_eq (first : Bool) (c : UInt8) (done : List UInt8) (rest : ByteArray) (m : Nat) (hm : min (L rest).length 255 = m) (h : first = true ∨ L rest ≠ []) :
    (done ++ (c :: UInt8.ofNat m :: (L rest).take m)) ++ encW false c (L (rest.extract m rest.size)) = done ++ encW first c (L rest) := by
  rw [encW_step first c (L rest) (by rintro ⟨h1, h2⟩; rcases h with h | h; · rw [h1] at h; cases h
                                     · exact h h2), hm, L_extract]
  have : ((L rest).drop m).take (rest.size - m) = (L rest).drop m := List.take_of_length_le (by rw [List.length_drop, L_len]; omega)
  rw [this, List.append_assoc]; rfl
theorem cells_eq (done : List UInt8) (c : Int) (m : Nat) (rest p : ByteArray) (hc : 1 ≤ c ∧ c ≤ 254) (hp : p = rest.extract 0 m) (hm : m ≤ 255) {n : Int} (hn : (m : Int) % 256 = n) :
    Lib.byteCells (done ++ (UInt8.ofNat c.toNat :: UInt8.ofNat m :: (L rest).take m)) = Lib.byteCells done ++ [.int .u8 (c % 256)] ++ [.int .u8 n] ++ Lib.strCells p := by
  have h1 := (byte_of hc.1 hc.2).1
  have h2 := len_byte hm
  have h3 : Lib.strCells p = Lib.byteCells ((L rest).take m) := by
    subst hp
    have := L_extract rest 0 m
    simp only [List.drop_zero, Nat.sub_zero] at this
    rw [← this]; rfl
  rw [h3]
  have e1 : c % 256 = ((UInt8.ofNat c.toNat).toNat : Int) := by rw [h1]; omega
  have e2 : n = ((UInt8.ofNat m).toNat : Int) := by rw [h2, ← hn]; omega
  rw [e1, e2]
  simp [Lib.byteCells]

set_option maxHeartbeats 8000000 in
set_option maxRecDepth 100000 in
theorem option_Encode.calls (A0 : Option Addr) (c0 : Nat) (l0 : List S61) (r1 : ByteArray) (r2 : Int) (w : World) (hr0 : Kd.C k61 w A0 l0.length l0) (hc0 : l0.length ≤ c0) (h : option_Encode.f l0 = some (r1, r2)) :
    Calls Tryd.prog 42 #[.slice A0 l0.length c0] w fun e w' => e = .returned (.tuple #[.string r1, .int .i64 r2]) ∧ Below w.heap.size w w' := by
  unfold option_Encode.f at h
  split at h
  · rename_i hsz0
    have hsz : ∀ x ∈ l0, x.f1.size ≤ 140737488351232 := by simpa using hsz0
    clear hsz0
    have h := Option.some.inj h
    unfold encA at h
    have hv := valid_f l0 hsz 1000 (by decide)
    have hu34 := Tryd.underlying61
    have HR := Aside0.mk hr0
    have HC0 := Aside0.mk hc0
    clear hr0 hc0
    by_cases c1 : vld (ab l0)
    · rw [if_pos c1] at h
      obtain ⟨rfl, rfl⟩ := Prod.mk.inj h
      rw [decide_eq_true c1] at hv
      have HV := Aside0.mk hv
      have HC1 := Aside0.mk c1
      clear hv hsz h c1
      go_enter Tryd.func42, Tryd.ntmps42
      go_wp2_with (go_at_call 28; (with_reducible refine (option_Valid.calls 1000 _ _ l0 true _ HR.out HC0.out HV.out).mono ?_); rintro e w1 ⟨rfl, b1⟩; have B1 := Aside0.mk b1; clear b1)
      go_loopw [15] (fun v wr => ∃ i : Nat, v = .int .i64 i ∧ i ≤ l0.length ∧ Aside0 (Lib.IsBuilder 93 5 w1.heap.size w1.heap.size (Lib.byteCells (encL ((ab l0).take i))) wr) ∧ Aside0 (Below w.heap.size w wr)) (fun v _ => l0.length - (intOf v).toNat)
      case atStart => exact ⟨0, rfl, Nat.zero_le _, ⟨by simpa [encL, Lib.byteCells] using Lib.fresh_isBuilder 93 5 w1⟩, ⟨below_alloc B1.out _⟩⟩
      case round =>
        obtain ⟨i, rfl, hin, HI, HB⟩ := hrel
        by_cases hlt : i < l0.length
        · have hltb : decide ((i : Int) < (l0.length : Int)) = true := decide_eq_true (by omega)
          have hltn : decide (i < l0.length) = true := decide_eq_true hlt
          have p1 : 0 ≤ (i : Int) := by omega
          have q1 : (i : Int) < (l0.length : Int) := by omega
          obtain ⟨ad1, e1, hx0, hx1⟩ := at_T61 HR.out (i : Int) p1 q1
          cases e1
          replace hx0 := (HB.out.cell (World.block_lt_of_cell? w _ hx0)).trans hx0
          replace hx1 := (HB.out.cell (World.block_lt_of_cell? w _ hx1)).trans hx1
          obtain ⟨x, hx⟩ : ∃ x, x = rd_T61 l0 (i : Int) := ⟨_, rfl⟩
          rw [← hx, Int.toNat_natCast] at hx0 hx1
          have HX : Aside0 (x = l0[i]) := ⟨by rw [hx, rd_at hlt]⟩
          clear hx
          go_wp2_with (first | ((with_reducible refine gate_dst (N := 6) rfl ?_); refine box_event ?hg (N := 6) ?hd (cs := #[.int .i64 0, .string (⟨#[]⟩ : ByteArray)]) (t := 61) ?hr ?_; (case hd => rfl); (case hg => rfl); (case hr => first | (go_simp; done) | (go_simp; rfl)); intro gb hg w2 hbox hb; have BK := Aside0.mk hbox; have HG := Aside0.mk hg; have BB := Aside0.mk hb; clear hb hbox hg; have hcz0 : w2.cell? ⟨gb, 0, none⟩ = some (.int .i64 0) := (blk_cell BK.out 0).trans rfl; have hcz1 : w2.cell? ⟨gb, 1, none⟩ = some (.string (⟨#[]⟩ : ByteArray)) := (blk_cell BK.out 1).trans rfl; have hfz0 := blk_frozen BK.out 0; have hfz1 := blk_frozen BK.out 1))
          have hok := HC1.out.2.2 (o1 x) (by rw [HX.out]; exact List.mem_map_of_mem (List.getElem_mem hlt))
          have HCR : Aside0 (1 ≤ x.f0 ∧ x.f0 ≤ 254) := ⟨hok⟩
          clear hok
          have HTK : Aside0 (encL ((ab l0).take i) ++ encV (UInt8.ofNat x.f0.toNat) (L x.f1) = encL ((ab l0).take (i + 1))) := ⟨by
            rw [List.take_succ_eq_append_getElem (by rw [ab_length]; exact hlt), encL_append]
            have : (ab l0)[i]'(by rw [ab_length]; exact hlt) = o1 x := by rw [HX.out]; simp [ab]
            rw [this]; simp [encL, o1]⟩
          have HT : Aside0 ((encL ((ab l0).take i) ++ encV (UInt8.ofNat x.f0.toNat) (L x.f1)).length ≤ 20000) := ⟨by
            rw [HTK.out]
            have h1 := encL_length ((ab l0).take (i + 1))
            have h2 := sz_append ((ab l0).take (i + 1)) ((ab l0).drop (i + 1))
            rw [List.take_append_drop] at h2
            have h3 := HC1.out.1.2.1
            have h4 := HC1.out.1.1
            rw [List.length_take] at h1; omega⟩
          have hgb : w1.heap.size < gb := by rw [HG.out]; exact bld_lt HI.out
          have hle : w.heap.size ≤ gb := by rw [HG.out]; exact HB.out.size
          have HGB := Aside0.mk hgb
          have HLE := Aside0.mk hle
          have HK2 := Aside0.mk (blk_put (blk_put BK.out 0 (.int .i64 x.f0) rfl) 1 (.string x.f1) rfl)
          have HI2 := Aside0.mk (bld_set (j := 1) (u := .string x.f1) (bld_set (j := 0) (u := .int .i64 x.f0) (bld_below HI.out BB.out) BK.out (by omega) (by decide)) (blk_set BK.out 0 (.int .i64 x.f0)) (by omega) (by decide))
          have HB2 := Aside0.mk (below_set (j := 1) (v := .string x.f1) (below_set (j := 0) (v := .int .i64 x.f0) (below_step HB.out BB.out) hle) hle)
          clear hcz0 hcz1 hfz0 hfz1 hle hgb
          go_loopw [7, 8] (fun v7 v8 wi => ∃ (rest : ByteArray) (first : Bool) (done : List UInt8), v7 = .string rest ∧ v8 = .bool first ∧ Aside0 (done ++ encW first (UInt8.ofNat x.f0.toNat) (L rest) = encL ((ab l0).take i) ++ encV (UInt8.ofNat x.f0.toNat) (L x.f1)) ∧ Aside0 (Lib.IsBuilder 93 5 w1.heap.size w1.heap.size (Lib.byteCells done) wi) ∧ Aside0 (wi.heap[gb]? = some (.cells #[.int .i64 x.f0, .string x.f1] 61 (0, 0))) ∧ Aside0 (Below w.heap.size w wi)) (fun v7 v8 _ => szOf v7 + bOf v8)
          case atStart => exact ⟨x.f1, true, encL ((ab l0).take i), rfl, rfl, ⟨by simp [encW]⟩, HI2, HK2, HB2⟩
          case round =>
            obtain ⟨rest, first, done, rfl, rfl, HD, HJ, HK, HBI⟩ := hrel
            clear HI2 HK2 HB2 HI HB BK BB
            have hcz0 : wr.cell? ⟨gb, 0, none⟩ = some (.int .i64 x.f0) := (blk_cell HK.out 0).trans rfl
            have HNE : Aside0 (gb ≠ w1.heap.size) := ⟨by have := HGB.out; omega⟩
            have HWL : Aside0 (w.heap.size ≤ w1.heap.size) := ⟨B1.out.size⟩
            have HDL : Aside0 (done.length ≤ 20000) := ⟨by have := HT.out; rw [← HD.out, List.length_append] at this; omega⟩
            cases first with
            | true =>
              skip
              have HPS : Aside0 (0 < rest.size + 1) := ⟨by omega⟩
              by_cases hb : rest.size ≤ 255
              · have q1 : (255 < (rest.size : Int)) = False := eq_false (by omega)
                have q2 : decide (255 < (rest.size : Int)) = false := decide_eq_false (by omega)
                have HMN : Aside0 (min (L rest).length 255 = rest.size) := ⟨by rw [L_len]; omega⟩
                have HCELL : Aside0 (Lib.byteCells (done ++ (UInt8.ofNat x.f0.toNat :: UInt8.ofNat rest.size :: (L rest).take rest.size)) = Lib.byteCells done ++ [.int .u8 (x.f0 % 256)] ++ [.int .u8 (rest.size : Int)] ++ Lib.strCells rest) := ⟨cells_eq done x.f0 rest.size rest _ HCR.out (by apply L_inj; rw [L_extract, List.drop_zero, List.take_of_length_le (by rw [L_len]; omega)]) (by omega) (by omega)⟩
                go_wp2_with (first
                  | (go_at_call 69; (with_reducible refine (option_WriteByte w1.heap.size w1.heap.size _ _ _ HJ.out (by have := HDL.out; rw [Lib.byteCells_length]; omega) (Nat.le_of_lt (bld_lt HJ.out))).mono ?_); rintro e wa ⟨rfl, ha, ba, ka⟩; have HA := Aside0.mk ha; have BA := Aside0.mk ba; have KA := Aside0.mk (ka gb _ _ _ HNE.out (by decide) HK.out); clear ha ba ka)
                  | (go_at_call 69; (with_reducible refine (option_WriteByte w1.heap.size w1.heap.size _ _ _ HA.out (by have := HDL.out; rw [List.length_append, Lib.byteCells_length]; simp only [List.length_cons, List.length_nil]; omega) (Nat.le_of_lt (bld_lt HA.out))).mono ?_); rintro e wb ⟨rfl, ha, ba, ka⟩; have HA2 := Aside0.mk ha; have BA2 := Aside0.mk ba; have KA2 := Aside0.mk (ka gb _ _ _ HNE.out (by decide) KA.out); clear ha ba ka)
                  | (go_at_call 70; (with_reducible refine (option_WriteString w1.heap.size w1.heap.size _ _ _ HA2.out (by have := HDL.out; rw [List.length_append, List.length_append, Lib.byteCells_length]; simp only [List.length_cons, List.length_nil, ByteArray.size_extract]; omega) (Nat.le_of_lt (bld_lt HA2.out))).mono ?_); rintro e wd ⟨rfl, ha, ba, ka⟩; have HA3 := Aside0.mk ha; have BA3 := Aside0.mk ba; have KA3 := Aside0.mk (ka gb _ _ _ HNE.out (by decide) KA2.out); clear ha ba ka))
                go_roundw
                case measure => (have hps := HPS.out; simp [szOf, bOf] <;> omega)
                case rel => exact ⟨rest.extract rest.size rest.size, false, done ++ (UInt8.ofNat x.f0.toNat :: UInt8.ofNat rest.size :: (L rest).take rest.size), (by first | rfl | simp), rfl, ⟨(rel_eq true _ done rest _ HMN.out (.inl rfl)).trans HD.out⟩, ⟨by rw [show Lib.byteCells (done ++ (UInt8.ofNat x.f0.toNat :: UInt8.ofNat rest.size :: (L rest).take rest.size)) = _ from HCELL.out]; exact HA3.out⟩, KA3, ⟨below_lt (below_lt (below_lt HBI.out HWL.out BA.out) HWL.out BA2.out) HWL.out BA3.out⟩⟩
              · have q1 : (255 < (rest.size : Int)) = True := eq_true (by omega)
                have q2 : decide (255 < (rest.size : Int)) = true := decide_eq_true (by omega)
                have q3 : decide ((255 : Int) ≤ (rest.size : Int)) = true := decide_eq_true (by omega)
                have q4 : decide (255 ≤ rest.size) = true := decide_eq_true (by omega)
                have HMN : Aside0 (min (L rest).length 255 = 255) := ⟨by rw [L_len]; omega⟩
                have HCELL : Aside0 (Lib.byteCells (done ++ (UInt8.ofNat x.f0.toNat :: UInt8.ofNat 255 :: (L rest).take 255)) = Lib.byteCells done ++ [.int .u8 (x.f0 % 256)] ++ [.int .u8 255] ++ Lib.strCells (rest.extract 0 255)) := ⟨cells_eq done x.f0 255 rest _ HCR.out rfl (by omega) rfl⟩
                go_wp2_with (first
                  | (go_at_call 69; (with_reducible refine (option_WriteByte w1.heap.size w1.heap.size _ _ _ HJ.out (by have := HDL.out; rw [Lib.byteCells_length]; omega) (Nat.le_of_lt (bld_lt HJ.out))).mono ?_); rintro e wa ⟨rfl, ha, ba, ka⟩; have HA := Aside0.mk ha; have BA := Aside0.mk ba; have KA := Aside0.mk (ka gb _ _ _ HNE.out (by decide) HK.out); clear ha ba ka)
                  | (go_at_call 69; (with_reducible refine (option_WriteByte w1.heap.size w1.heap.size _ _ _ HA.out (by have := HDL.out; rw [List.length_append, Lib.byteCells_length]; simp only [List.length_cons, List.length_nil]; omega) (Nat.le_of_lt (bld_lt HA.out))).mono ?_); rintro e wb ⟨rfl, ha, ba, ka⟩; have HA2 := Aside0.mk ha; have BA2 := Aside0.mk ba; have KA2 := Aside0.mk (ka gb _ _ _ HNE.out (by decide) KA.out); clear ha ba ka)
                  | (go_at_call 70; (with_reducible refine (option_WriteString w1.heap.size w1.heap.size _ _ _ HA2.out (by have := HDL.out; rw [List.length_append, List.length_append, Lib.byteCells_length]; simp only [List.length_cons, List.length_nil, ByteArray.size_extract]; omega) (Nat.le_of_lt (bld_lt HA2.out))).mono ?_); rintro e wd ⟨rfl, ha, ba, ka⟩; have HA3 := Aside0.mk ha; have BA3 := Aside0.mk ba; have KA3 := Aside0.mk (ka gb _ _ _ HNE.out (by decide) KA2.out); clear ha ba ka))
                go_roundw
                case measure => (have hps := HPS.out; simp [szOf, bOf] <;> omega)
                case rel => exact ⟨rest.extract 255 rest.size, false, done ++ (UInt8.ofNat x.f0.toNat :: UInt8.ofNat 255 :: (L rest).take 255), (by first | rfl | simp), rfl, ⟨(rel_eq true _ done rest _ HMN.out (.inl rfl)).trans HD.out⟩, ⟨by rw [show Lib.byteCells (done ++ (UInt8.ofNat x.f0.toNat :: UInt8.ofNat 255 :: (L rest).take 255)) = _ from HCELL.out]; exact HA3.out⟩, KA3, ⟨below_lt (below_lt (below_lt HBI.out HWL.out BA.out) HWL.out BA2.out) HWL.out BA3.out⟩⟩
            | false =>
              by_cases hr : L rest = []
              · have hst1 : (rest.toList == ([] : List UInt8)) = true := beq_iff_eq.mpr (by rw [toList_L]; exact hr)
                have hst2 : (rest.toList != ([] : List UInt8)) = false := bne_eq_false_iff_eq.mpr (by rw [toList_L]; exact hr)
                have HR0 := Aside0.mk hr
                clear hr
                go_wp2
                have hll : l0.length ≤ 32 := by have := HC1.out.1.1; rw [ab_length] at this; exact this
                exact ⟨⟨i + 1, by rw [wsucc (by omega)], by omega, ⟨by rw [← HTK.out, ← HD.out, HR0.out, show encW false (UInt8.ofNat x.f0.toNat) [] = [] from rfl, List.append_nil]; exact HJ.out⟩, HBI⟩, by rw [wsucc (by omega)]; simp [intOf]; omega⟩
              · have hst1 : (rest.toList == ([] : List UInt8)) = false := beq_eq_false_iff_ne.mpr (by rw [toList_L]; exact hr)
                have hst2 : (rest.toList != ([] : List UInt8)) = true := bne_iff_ne.mpr (by rw [toList_L]; exact hr)
                have HNN : Aside0 (L rest ≠ []) := ⟨hr⟩
                have HPS : Aside0 (0 < rest.size) := ⟨by rw [← L_len]; exact List.length_pos_iff.2 hr⟩
                clear hr
                by_cases hb : rest.size ≤ 255
                · have q1 : (255 < (rest.size : Int)) = False := eq_false (by omega)
                  have q2 : decide (255 < (rest.size : Int)) = false := decide_eq_false (by omega)
                  have HMN : Aside0 (min (L rest).length 255 = rest.size) := ⟨by rw [L_len]; omega⟩
                  have HCELL : Aside0 (Lib.byteCells (done ++ (UInt8.ofNat x.f0.toNat :: UInt8.ofNat rest.size :: (L rest).take rest.size)) = Lib.byteCells done ++ [.int .u8 (x.f0 % 256)] ++ [.int .u8 (rest.size : Int)] ++ Lib.strCells rest) := ⟨cells_eq done x.f0 rest.size rest _ HCR.out (by apply L_inj; rw [L_extract, List.drop_zero, List.take_of_length_le (by rw [L_len]; omega)]) (by omega) (by omega)⟩
                  go_wp2_with (first
                    | (go_at_call 69; (with_reducible refine (option_WriteByte w1.heap.size w1.heap.size _ _ _ HJ.out (by have := HDL.out; rw [Lib.byteCells_length]; omega) (Nat.le_of_lt (bld_lt HJ.out))).mono ?_); rintro e wa ⟨rfl, ha, ba, ka⟩; have HA := Aside0.mk ha; have BA := Aside0.mk ba; have KA := Aside0.mk (ka gb _ _ _ HNE.out (by decide) HK.out); clear ha ba ka)
                    | (go_at_call 69; (with_reducible refine (option_WriteByte w1.heap.size w1.heap.size _ _ _ HA.out (by have := HDL.out; rw [List.length_append, Lib.byteCells_length]; simp only [List.length_cons, List.length_nil]; omega) (Nat.le_of_lt (bld_lt HA.out))).mono ?_); rintro e wb ⟨rfl, ha, ba, ka⟩; have HA2 := Aside0.mk ha; have BA2 := Aside0.mk ba; have KA2 := Aside0.mk (ka gb _ _ _ HNE.out (by decide) KA.out); clear ha ba ka)
                    | (go_at_call 70; (with_reducible refine (option_WriteString w1.heap.size w1.heap.size _ _ _ HA2.out (by have := HDL.out; rw [List.length_append, List.length_append, Lib.byteCells_length]; simp only [List.length_cons, List.length_nil, ByteArray.size_extract]; omega) (Nat.le_of_lt (bld_lt HA2.out))).mono ?_); rintro e wd ⟨rfl, ha, ba, ka⟩; have HA3 := Aside0.mk ha; have BA3 := Aside0.mk ba; have KA3 := Aside0.mk (ka gb _ _ _ HNE.out (by decide) KA2.out); clear ha ba ka))
                  go_roundw
                  case measure => (have hps := HPS.out; simp [szOf, bOf] <;> omega)
                  case rel => exact ⟨rest.extract rest.size rest.size, false, done ++ (UInt8.ofNat x.f0.toNat :: UInt8.ofNat rest.size :: (L rest).take rest.size), (by first | rfl | simp), rfl, ⟨(rel_eq false _ done rest _ HMN.out (.inr HNN.out)).trans HD.out⟩, ⟨by rw [show Lib.byteCells (done ++ (UInt8.ofNat x.f0.toNat :: UInt8.ofNat rest.size :: (L rest).take rest.size)) = _ from HCELL.out]; exact HA3.out⟩, KA3, ⟨below_lt (below_lt (below_lt HBI.out HWL.out BA.out) HWL.out BA2.out) HWL.out BA3.out⟩⟩
                · have q1 : (255 < (rest.size : Int)) = True := eq_true (by omega)
                  have q2 : decide (255 < (rest.size : Int)) = true := decide_eq_true (by omega)
                  have q3 : decide ((255 : Int) ≤ (rest.size : Int)) = true := decide_eq_true (by omega)
                  have q4 : decide (255 ≤ rest.size) = true := decide_eq_true (by omega)
                  have HMN : Aside0 (min (L rest).length 255 = 255) := ⟨by rw [L_len]; omega⟩
                  have HCELL : Aside0 (Lib.byteCells (done ++ (UInt8.ofNat x.f0.toNat :: UInt8.ofNat 255 :: (L rest).take 255)) = Lib.byteCells done ++ [.int .u8 (x.f0 % 256)] ++ [.int .u8 255] ++ Lib.strCells (rest.extract 0 255)) := ⟨cells_eq done x.f0 255 rest _ HCR.out rfl (by omega) rfl⟩
                  go_wp2_with (first
                    | (go_at_call 69; (with_reducible refine (option_WriteByte w1.heap.size w1.heap.size _ _ _ HJ.out (by have := HDL.out; rw [Lib.byteCells_length]; omega) (Nat.le_of_lt (bld_lt HJ.out))).mono ?_); rintro e wa ⟨rfl, ha, ba, ka⟩; have HA := Aside0.mk ha; have BA := Aside0.mk ba; have KA := Aside0.mk (ka gb _ _ _ HNE.out (by decide) HK.out); clear ha ba ka)
                    | (go_at_call 69; (with_reducible refine (option_WriteByte w1.heap.size w1.heap.size _ _ _ HA.out (by have := HDL.out; rw [List.length_append, Lib.byteCells_length]; simp only [List.length_cons, List.length_nil]; omega) (Nat.le_of_lt (bld_lt HA.out))).mono ?_); rintro e wb ⟨rfl, ha, ba, ka⟩; have HA2 := Aside0.mk ha; have BA2 := Aside0.mk ba; have KA2 := Aside0.mk (ka gb _ _ _ HNE.out (by decide) KA.out); clear ha ba ka)
                    | (go_at_call 70; (with_reducible refine (option_WriteString w1.heap.size w1.heap.size _ _ _ HA2.out (by have := HDL.out; rw [List.length_append, List.length_append, Lib.byteCells_length]; simp only [List.length_cons, List.length_nil, ByteArray.size_extract]; omega) (Nat.le_of_lt (bld_lt HA2.out))).mono ?_); rintro e wd ⟨rfl, ha, ba, ka⟩; have HA3 := Aside0.mk ha; have BA3 := Aside0.mk ba; have KA3 := Aside0.mk (ka gb _ _ _ HNE.out (by decide) KA2.out); clear ha ba ka))
                  go_roundw
                  case measure => (have hps := HPS.out; simp [szOf, bOf] <;> omega)
                  case rel => exact ⟨rest.extract 255 rest.size, false, done ++ (UInt8.ofNat x.f0.toNat :: UInt8.ofNat 255 :: (L rest).take 255), (by first | rfl | simp), rfl, ⟨(rel_eq false _ done rest _ HMN.out (.inr HNN.out)).trans HD.out⟩, ⟨by rw [show Lib.byteCells (done ++ (UInt8.ofNat x.f0.toNat :: UInt8.ofNat 255 :: (L rest).take 255)) = _ from HCELL.out]; exact HA3.out⟩, KA3, ⟨below_lt (below_lt (below_lt HBI.out HWL.out BA.out) HWL.out BA2.out) HWL.out BA3.out⟩⟩
        · have hi : i = l0.length := by omega
          subst hi
          have hltb : decide ((l0.length : Int) < (l0.length : Int)) = false := decide_eq_false (by omega)
          have htk : (ab l0).take l0.length = ab l0 := by rw [← ab_length, List.take_length]
          have HI2 : Aside0 (Lib.IsBuilder 93 5 w1.heap.size w1.heap.size (Lib.byteCells (encL (ab l0))) wr) := ⟨by have := HI.out; rw [htk] at this; exact this⟩
          have HLL : Aside0 ((Lib.byteCells (encL (ab l0))).length ≤ 20000) := ⟨by
            rw [Lib.byteCells_length]
            have h1 := encL_length (ab l0)
            have h3 := HC1.out.1.2.1
            have h4 := HC1.out.1.1
            omega⟩
          have HEE : Aside0 (Lib.byteCells (enc (ab l0)) = Lib.byteCells (encL (ab l0)) ++ [.int .u8 255]) := ⟨by simp [enc, Lib.byteCells]⟩
          clear HI htk
          go_wp2_with (first
            | (go_at_call 69; (with_reducible refine (option_WriteByte w1.heap.size w1.heap.size _ _ _ HI2.out (by have := HLL.out; omega) (Nat.le_of_lt (bld_lt HI2.out))).mono ?_); rintro e wa ⟨rfl, ha, ba, ka⟩; have HA : Aside0 (Lib.IsBuilder 93 5 w1.heap.size w1.heap.size (Lib.byteCells (enc (ab l0))) wa) := ⟨by rw [HEE.out]; exact ha⟩; have BA := Aside0.mk ba; clear ha ba ka)
            | (go_at_call 71; (with_reducible refine (option_String w1.heap.size w1.heap.size _ _ HA.out (Nat.le_of_lt (bld_lt HA.out))).mono ?_); rintro e wb ⟨rfl, bb⟩; have BB := Aside0.mk bb; clear bb))
          go_ret2
          exact ⟨rfl, below_lt (below_lt HB.out B1.out.size BA.out) B1.out.size BB.out⟩
    · rw [if_neg c1] at h
      obtain ⟨rfl, rfl⟩ := Prod.mk.inj h
      rw [decide_eq_false c1] at hv
      have HV := Aside0.mk hv
      clear hv hsz h c1
      go_enter Tryd.func42, Tryd.ntmps42
      go_wp2_with (go_at_call 28; (with_reducible refine (option_Valid.calls 1000 _ _ l0 false _ HR.out HC0.out HV.out).mono ?_); rintro e w1 ⟨rfl, b1⟩; have B1 := Aside0.mk b1; clear b1)
      go_ret2
      exact ⟨rfl, B1.out⟩
  · cases h
end Go.Proofs.YtcoekgnbncocnaaDoor.Pa


namespace Go.Proofs.YtcoekgnbncocnaaDoor.Pa
open Go Go.RowKit Go.Shelf Go.Proofs.YtcoekgnbncocnaaDoorW.PrintWords Go.Proofs.YtcoekgnbncocnaaDoorW.PrintLast Go.Proofs.YtcoekgnbncocnaaDoorW.PrintMore Go.Proofs.YtcoekgnbncocnaaDoor.DN Go.Proofs.YtcoekgnbncocnaaDoor.OPT
set_option linter.unusedVariables false
set_option linter.unusedSimpArgs false
theorem own_below {W W1 : World} {base n : Nat} {e : TypeId} {v : Value} {xs : List Value} (h : W.ownsRow base e 1 v n xs) (hb : Below W.heap.size W W1) : W1.ownsRow base e 1 v n xs :=
  h.kept (grown_of_below hb none) (by cases v.ownBlock <;> simp)
theorem nine_cells {w : World} {g t : Nat} {x0 x1 x2 x3 x4 x5 x6 x7 x8 : Value} (h : w.heap[g]? = some (.cells #[x0, x1, x2, x3, x4, x5, x6, x7, x8] t (0, 0))) : w.cell? ⟨g, 0, none⟩ = some x0 ∧ w.cell? ⟨g, 1, none⟩ = some x1 ∧ w.cell? ⟨g, 2, none⟩ = some x2 ∧ w.cell? ⟨g, 3, none⟩ = some x3 ∧ w.cell? ⟨g, 4, none⟩ = some x4 ∧ w.cell? ⟨g, 5, none⟩ = some x5 ∧ w.cell? ⟨g, 6, none⟩ = some x6 ∧ w.cell? ⟨g, 7, none⟩ = some x7 ∧ w.cell? ⟨g, 8, none⟩ = some x8 :=
  ⟨(blk_cell h 0).trans rfl, (blk_cell h 1).trans rfl, (blk_cell h 2).trans rfl, (blk_cell h 3).trans rfl, (blk_cell h 4).trans rfl, (blk_cell h 5).trans rfl, (blk_cell h 6).trans rfl, (blk_cell h 7).trans rfl, (blk_cell h 8).trans rfl⟩
theorem pk_cells {w : World} {g t : Nat} {x0 x1 x2 x3 x4 x5 x6 x7 x8 x9 x10 x11 x12 x13 x14 : Value} (h : w.heap[g]? = some (.cells #[x0, x1, x2, x3, x4, x5, x6, x7, x8, x9, x10, x11, x12, x13, x14] t (0, 0))) : w.cell? ⟨g, 0, none⟩ = some x0 ∧ w.cell? ⟨g, 1, none⟩ = some x1 ∧ w.cell? ⟨g, 2, none⟩ = some x2 ∧ w.cell? ⟨g, 3, none⟩ = some x3 ∧ w.cell? ⟨g, 4, none⟩ = some x4 ∧ w.cell? ⟨g, 5, none⟩ = some x5 ∧ w.cell? ⟨g, 6, none⟩ = some x6 ∧ w.cell? ⟨g, 7, none⟩ = some x7 ∧ w.cell? ⟨g, 8, none⟩ = some x8 ∧ w.cell? ⟨g, 9, none⟩ = some x9 ∧ w.cell? ⟨g, 10, none⟩ = some x10 ∧ w.cell? ⟨g, 11, none⟩ = some x11 ∧ w.cell? ⟨g, 12, none⟩ = some x12 ∧ w.cell? ⟨g, 13, none⟩ = some x13 ∧ w.cell? ⟨g, 14, none⟩ = some x14 :=
  ⟨(blk_cell h 0).trans rfl, (blk_cell h 1).trans rfl, (blk_cell h 2).trans rfl, (blk_cell h 3).trans rfl, (blk_cell h 4).trans rfl, (blk_cell h 5).trans rfl, (blk_cell h 6).trans rfl, (blk_cell h 7).trans rfl, (blk_cell h 8).trans rfl, (blk_cell h 9).trans rfl, (blk_cell h 10).trans rfl, (blk_cell h 11).trans rfl, (blk_cell h 12).trans rfl, (blk_cell h 13).trans rfl, (blk_cell h 14).trans rfl⟩

end Go.Proofs.YtcoekgnbncocnaaDoor.Pa


namespace Go.Proofs.YtcoekgnbncocnaaDoor.Pa
open Go Go.RowKit Go.Shelf Go.Proofs.YtcoekgnbncocnaaDoorW.PrintWords Go.Proofs.YtcoekgnbncocnaaDoorW.PrintLast Go.Proofs.YtcoekgnbncocnaaDoorW.PrintMore Go.Proofs.YtcoekgnbncocnaaDoor.DN Go.Proofs.YtcoekgnbncocnaaDoor.OPT
set_option linter.unusedVariables false
set_option linter.unusedSimpArgs false
def dhcp_Lease.f (k : Nat) (a0 a1 a2 : Int) (a3 : ByteArray) (a4 : Bool) (a5 a6 : Int) (a7 : Bool) (a8 a9 : Int) (a10 : Bool) (a11 a12 : Int) (a13 : Bool) (l : List (S61)) : Option (Int × Int × Int × Bool) :=
  (option_Find.f k l 51).bind fun p1 => if p1.2 = true then (option_Number.f k p1.1).bind fun p2 => if p2.2 = true then (dhcp_half.f p2.1).bind fun h => (dhcp_span.f k a0 a1 a2 a3 a4 a5 a6 a7 a8 a9 a10 a11 a12 a13 l 58 h).bind fun p3 => (dhcp_most.f p2.1).bind fun m => (dhcp_span.f k a0 a1 a2 a3 a4 a5 a6 a7 a8 a9 a10 a11 a12 a13 l 59 m).bind fun p4 =>
    (if p3.2 = true then (if p4.2 = true then (if p4.1 < p3.1 then some (0, 0, 0, false) else if p2.1 < p4.1 then some (0, 0, 0, false) else some (p2.1, p3.1, p4.1, true)) else some (0, 0, 0, false)) else some (0, 0, 0, false))
    else some (0, 0, 0, false) else some (0, 0, 0, false)
theorem dhcp_Lease.mono : ∀ a0 a1 a2 a3 a4 a5 a6 a7 a8 a9 a10 a11 a12 a13 a14 k, LeO (dhcp_Lease.f k a0 a1 a2 a3 a4 a5 a6 a7 a8 a9 a10 a11 a12 a13 a14) (dhcp_Lease.f (k + 1) a0 a1 a2 a3 a4 a5 a6 a7 a8 a9 a10 a11 a12 a13 a14) := by
  intro a0 a1 a2 a3 a4 a5 a6 a7 a8 a9 a10 a11 a12 a13 a14 k
  unfold dhcp_Lease.f
  repeat' first
      | (with_reducible exact dhcp_span.mono _ _ _ _ _ _ _ _ _ _ _ _ _ _ _ _ _ _)
      | (with_reducible exact option_Find.mono _ _ _)
      | (with_reducible exact option_Number.mono _ _)
      | (with_reducible exact LeO.refl _)
      | (with_reducible exact LeO.none _)
      | (with_reducible refine LeO.ite ?_ ?_)
      | (with_reducible refine LeO.bind ?_ (fun _ => ?_))
set_option maxHeartbeats 8000000 in
set_option maxRecDepth 100000 in
theorem dhcp_Lease.calls (k : Nat) (a0 a1 a2 : Int) (a3 : ByteArray) (a4 : Bool) (a5 a6 : Int) (a7 : Bool) (a8 a9 : Int) (a10 : Bool) (a11 a12 : Int) (a13 : Bool) (A : Option Addr) (c : Nat) (l : List (S61)) (r1 r2 r3 : Int) (r4 : Bool) (w : World)
    (hr : Kd.C k61 w A l.length l) (hc : l.length ≤ c) (h : dhcp_Lease.f k a0 a1 a2 a3 a4 a5 a6 a7 a8 a9 a10 a11 a12 a13 l = some (r1, r2, r3, r4)) :
    Calls Tryd.prog 13 #[.agg #[.int .i64 a0, .int .i64 a1, .int .i64 a2, .string a3, .bool a4, .int .u64 a5, .int .u64 a6, .bool a7, .int .u64 a8, .int .u64 a9, .bool a10, .int .u64 a11, .int .u64 a12, .bool a13, .slice A l.length c]] w
      fun e w' => e = .returned (.tuple #[.int .i64 r1, .int .i64 r2, .int .i64 r3, .bool r4]) ∧ Below w.heap.size w w' := by
  have hu27 := Tryd.underlying27
  have HR := Aside0.mk hr
  have HC := Aside0.mk hc
  clear hr hc
  replace h := Option.bind_eq_some_iff.mp h
  obtain ⟨⟨v1, ok1⟩, F1, h⟩ := h
  have HF1 := Aside0.mk F1
  clear F1
  dsimp only at h
  cases ok1
  · rw [if_neg (by decide)] at h
    simp only [Option.some.injEq, Prod.mk.injEq] at h
    obtain ⟨rfl, rfl, rfl, rfl⟩ := h
    go_enter Tryd.func13, Tryd.ntmps13
    go_wp2_with (first
      | ((with_reducible refine gate_dst (N := 1) rfl ?_); refine box_event ?hg (N := 1) ?hd (cs := #[.int .i64 a0, .int .i64 a1, .int .i64 a2, .string a3, .bool a4, .int .u64 a5, .int .u64 a6, .bool a7, .int .u64 a8, .int .u64 a9, .bool a10, .int .u64 a11, .int .u64 a12, .bool a13, .slice A l.length c]) (t := 27) ?hr ?_; (case hd => rfl); (case hg => rfl); (case hr => first | (go_simp; done) | (go_simp; rfl)); intro g hg w1 hbox hb; have BK := Aside0.mk hbox; have HB := Aside0.mk hb; clear hg hbox hb; have p14 := (blk_cell BK.out 14).trans rfl)
      | (go_at_call 19; (with_reducible refine (option_Find.calls k A c l 51 v1 false _ (Kd.C_below HR.out HB.out) HC.out HF1.out).mono ?_); rintro e w2 ⟨rfl, hb⟩; have HB2 := Aside0.mk (below_step HB.out hb); clear hb))
    refine bodyPost_ret (results_list (rs := [.tmp 2, .tmp 3, .tmp 4, .tmp 5]) rfl (by simp) (.tmp (.tmp (.tmp (.tmp .nil))))) rfl ?_
    exact ⟨rfl, HB2.out⟩
  rw [if_pos rfl] at h
  replace h := Option.bind_eq_some_iff.mp h
  obtain ⟨⟨n, ok2⟩, F2, h⟩ := h
  have HF2 := Aside0.mk F2
  clear F2
  dsimp only at h
  cases ok2
  · rw [if_neg (by decide)] at h
    simp only [Option.some.injEq, Prod.mk.injEq] at h
    obtain ⟨rfl, rfl, rfl, rfl⟩ := h
    go_enter Tryd.func13, Tryd.ntmps13
    go_wp2_with (first
      | ((with_reducible refine gate_dst (N := 1) rfl ?_); refine box_event ?hg (N := 1) ?hd (cs := #[.int .i64 a0, .int .i64 a1, .int .i64 a2, .string a3, .bool a4, .int .u64 a5, .int .u64 a6, .bool a7, .int .u64 a8, .int .u64 a9, .bool a10, .int .u64 a11, .int .u64 a12, .bool a13, .slice A l.length c]) (t := 27) ?hr ?_; (case hd => rfl); (case hg => rfl); (case hr => first | (go_simp; done) | (go_simp; rfl)); intro g hg w1 hbox hb; have BK := Aside0.mk hbox; have HB := Aside0.mk hb; clear hg hbox hb; have p14 := (blk_cell BK.out 14).trans rfl)
      | (go_at_call 19; (with_reducible refine (option_Find.calls k A c l 51 v1 true _ (Kd.C_below HR.out HB.out) HC.out HF1.out).mono ?_); rintro e w2 ⟨rfl, hb⟩; have HB2 := Aside0.mk (below_step HB.out hb); clear hb)
      | (go_at_call 33; (with_reducible refine (option_Number.calls k v1 n false _ HF2.out).mono ?_); rintro e w3 ⟨rfl, ⟨nd, rfl⟩⟩))
    refine bodyPost_ret (results_list (rs := [.tmp 2, .tmp 3, .tmp 4, .tmp 5]) rfl (by simp) (.tmp (.tmp (.tmp (.tmp .nil))))) rfl ?_
    exact ⟨rfl, pw_below_drewN HB2.out _⟩
  rw [if_pos rfl] at h
  replace h := Option.bind_eq_some_iff.mp h
  obtain ⟨hf, F3, h⟩ := h
  replace h := Option.bind_eq_some_iff.mp h
  obtain ⟨⟨t1, ok3⟩, F4, h⟩ := h
  replace h := Option.bind_eq_some_iff.mp h
  obtain ⟨ms, F5, h⟩ := h
  replace h := Option.bind_eq_some_iff.mp h
  obtain ⟨⟨t2, ok4⟩, F6, h⟩ := h
  have HF3 := Aside0.mk F3
  have HF4 := Aside0.mk F4
  have HF5 := Aside0.mk F5
  have HF6 := Aside0.mk F6
  clear F3 F4 F5 F6
  dsimp only at h
  have H := Aside0.mk h
  clear h
  go_enter Tryd.func13, Tryd.ntmps13
  go_wp2_with (first
    | ((with_reducible refine gate_dst (N := 1) rfl ?_); refine box_event ?hg (N := 1) ?hd (cs := #[.int .i64 a0, .int .i64 a1, .int .i64 a2, .string a3, .bool a4, .int .u64 a5, .int .u64 a6, .bool a7, .int .u64 a8, .int .u64 a9, .bool a10, .int .u64 a11, .int .u64 a12, .bool a13, .slice A l.length c]) (t := 27) ?hr ?_; (case hd => rfl); (case hg => rfl); (case hr => first | (go_simp; done) | (go_simp; rfl)); intro g hg w1 hbox hb; have BK := Aside0.mk hbox; have HB := Aside0.mk hb; clear hg hbox hb; have p14 := (blk_cell BK.out 14).trans rfl)
    | (go_at_call 19; (with_reducible refine (option_Find.calls k A c l 51 v1 true _ (Kd.C_below HR.out HB.out) HC.out HF1.out).mono ?_); rintro e w2 ⟨rfl, hb⟩; have BK2 := Aside0.mk (blk_below BK.out hb); have HB2 := Aside0.mk (below_step HB.out hb); clear hb)
    | (go_at_call 33; (with_reducible refine (option_Number.calls k v1 n true _ HF2.out).mono ?_); rintro e w3 ⟨rfl, ⟨nd, rfl⟩⟩))
  generalize hw3 : w2.drewN _ = w3
  have BK3 : Aside0 _ := ⟨(show w3.heap[g]? = some (.cells #[.int .i64 a0, .int .i64 a1, .int .i64 a2, .string a3, .bool a4, .int .u64 a5, .int .u64 a6, .bool a7, .int .u64 a8, .int .u64 a9, .bool a10, .int .u64 a11, .int .u64 a12, .bool a13, .slice A l.length c] 27 (0, 0)) by rw [← hw3]; exact blk_drewN BK2.out _)⟩
  have HB3 : Aside0 (Below w.heap.size w w3) := ⟨by rw [← hw3]; exact pw_below_drewN HB2.out _⟩
  clear hw3 p14 BK BK2 HB HB2
  go_region_held3 (fun w' => w'.heap[g]? = some (.cells #[.int .i64 a0, .int .i64 a1, .int .i64 a2, .string a3, .bool a4, .int .u64 a5, .int .u64 a6, .bool a7, .int .u64 a8, .int .u64 a9, .bool a10, .int .u64 a11, .int .u64 a12, .bool a13, .slice A l.length c] 27 (0, 0)) ∧ Below w.heap.size w w' ∧ w'.cell? ⟨g, 0, none⟩ = some (.int .i64 a0) ∧ w'.cell? ⟨g, 1, none⟩ = some (.int .i64 a1) ∧ w'.cell? ⟨g, 2, none⟩ = some (.int .i64 a2) ∧ w'.cell? ⟨g, 3, none⟩ = some (.string a3) ∧ w'.cell? ⟨g, 4, none⟩ = some (.bool a4) ∧ w'.cell? ⟨g, 5, none⟩ = some (.int .u64 a5) ∧ w'.cell? ⟨g, 6, none⟩ = some (.int .u64 a6) ∧ w'.cell? ⟨g, 7, none⟩ = some (.bool a7) ∧ w'.cell? ⟨g, 8, none⟩ = some (.int .u64 a8) ∧ w'.cell? ⟨g, 9, none⟩ = some (.int .u64 a9) ∧ w'.cell? ⟨g, 10, none⟩ = some (.bool a10) ∧ w'.cell? ⟨g, 11, none⟩ = some (.int .u64 a11) ∧ w'.cell? ⟨g, 12, none⟩ = some (.int .u64 a12) ∧ w'.cell? ⟨g, 13, none⟩ = some (.bool a13) ∧ w'.cell? ⟨g, 14, none⟩ = some (.slice A l.length c))
    (first | exact ⟨blk_drew BK3.out, below_drew1 HB3.out, pk_cells (blk_drew BK3.out)⟩ | exact ⟨blk_drewN BK3.out _, pw_below_drewN HB3.out _, pk_cells (blk_drewN BK3.out _)⟩ | exact ⟨blk_below (blk_drewN BK3.out _) hb, below_step (pw_below_drewN HB3.out _) hb, pk_cells (blk_below (blk_drewN BK3.out _) hb)⟩)
    (first
      | (go_at_call 35; refine (dhcp_half.calls n hf _ HF3.out).mono ?_; rintro e w' ⟨rfl, ⟨nd, rfl⟩⟩)
      | (go_at_call 34; refine (dhcp_span.calls k a0 a1 a2 a3 a4 a5 a6 a7 a8 a9 a10 a11 a12 a13 A c l 58 hf t1 ok3 _ (Kd.C_below HR.out (And.left (And.right (by assumption)))) HC.out HF4.out).mono ?_; rintro e w4 ⟨rfl, hb⟩))
  have BK4 := Aside0.mk (blk_below (blk_drewN BK3.out _) hb)
  have HB4 := Aside0.mk (below_step (pw_below_drewN HB3.out _) hb)
  clear hb BK3 HB3
  go_wp2
  go_region_held3 (fun w' => w'.heap[g]? = some (.cells #[.int .i64 a0, .int .i64 a1, .int .i64 a2, .string a3, .bool a4, .int .u64 a5, .int .u64 a6, .bool a7, .int .u64 a8, .int .u64 a9, .bool a10, .int .u64 a11, .int .u64 a12, .bool a13, .slice A l.length c] 27 (0, 0)) ∧ Below w.heap.size w w' ∧ w'.cell? ⟨g, 0, none⟩ = some (.int .i64 a0) ∧ w'.cell? ⟨g, 1, none⟩ = some (.int .i64 a1) ∧ w'.cell? ⟨g, 2, none⟩ = some (.int .i64 a2) ∧ w'.cell? ⟨g, 3, none⟩ = some (.string a3) ∧ w'.cell? ⟨g, 4, none⟩ = some (.bool a4) ∧ w'.cell? ⟨g, 5, none⟩ = some (.int .u64 a5) ∧ w'.cell? ⟨g, 6, none⟩ = some (.int .u64 a6) ∧ w'.cell? ⟨g, 7, none⟩ = some (.bool a7) ∧ w'.cell? ⟨g, 8, none⟩ = some (.int .u64 a8) ∧ w'.cell? ⟨g, 9, none⟩ = some (.int .u64 a9) ∧ w'.cell? ⟨g, 10, none⟩ = some (.bool a10) ∧ w'.cell? ⟨g, 11, none⟩ = some (.int .u64 a11) ∧ w'.cell? ⟨g, 12, none⟩ = some (.int .u64 a12) ∧ w'.cell? ⟨g, 13, none⟩ = some (.bool a13) ∧ w'.cell? ⟨g, 14, none⟩ = some (.slice A l.length c))
    (first | exact ⟨blk_drew BK4.out, below_drew1 HB4.out, pk_cells (blk_drew BK4.out)⟩ | exact ⟨blk_drewN BK4.out _, pw_below_drewN HB4.out _, pk_cells (blk_drewN BK4.out _)⟩ | exact ⟨blk_below (blk_drewN BK4.out _) hb, below_step (pw_below_drewN HB4.out _) hb, pk_cells (blk_below (blk_drewN BK4.out _) hb)⟩)
    (first
      | (go_at_call 36; refine (dhcp_most.calls n ms _ HF5.out).mono ?_; rintro e w' ⟨rfl, ⟨nd, rfl⟩⟩)
      | (go_at_call 34; refine (dhcp_span.calls k a0 a1 a2 a3 a4 a5 a6 a7 a8 a9 a10 a11 a12 a13 A c l 59 ms t2 ok4 _ (Kd.C_below HR.out (And.left (And.right (by assumption)))) HC.out HF6.out).mono ?_; rintro e w5 ⟨rfl, hb⟩))
  have HB5 := Aside0.mk (below_step (pw_below_drewN HB4.out _) hb)
  clear hb BK4 HB4
  have h := H.out
  clear H
  cases ok3
  · rw [if_neg (by decide)] at h
    simp only [Option.some.injEq, Prod.mk.injEq] at h
    obtain ⟨rfl, rfl, rfl, rfl⟩ := h
    go_wp2
    refine bodyPost_ret (results_list (rs := [.tmp 2, .tmp 3, .tmp 4, .tmp 5]) rfl (by simp) (.tmp (.tmp (.tmp (.tmp .nil))))) rfl ?_
    exact ⟨rfl, HB5.out⟩
  cases ok4
  · rw [if_pos rfl, if_neg (by decide)] at h
    simp only [Option.some.injEq, Prod.mk.injEq] at h
    obtain ⟨rfl, rfl, rfl, rfl⟩ := h
    go_wp2
    refine bodyPost_ret (results_list (rs := [.tmp 2, .tmp 3, .tmp 4, .tmp 5]) rfl (by simp) (.tmp (.tmp (.tmp (.tmp .nil))))) rfl ?_
    exact ⟨rfl, HB5.out⟩
  rw [if_pos rfl, if_pos rfl] at h
  by_cases c1 : t2 < t1
  · rw [if_pos c1] at h
    have c1b := decide_eq_true c1
    clear c1
    simp only [Option.some.injEq, Prod.mk.injEq] at h
    obtain ⟨rfl, rfl, rfl, rfl⟩ := h
    go_wp2
    refine bodyPost_ret (results_list (rs := [.tmp 2, .tmp 3, .tmp 4, .tmp 5]) rfl (by simp) (.tmp (.tmp (.tmp (.tmp .nil))))) rfl ?_
    exact ⟨rfl, HB5.out⟩
  rw [if_neg c1] at h
  have c1b := decide_eq_false c1
  clear c1
  by_cases c2 : n < t2
  · rw [if_pos c2] at h
    have c2b := decide_eq_true c2
    clear c2
    simp only [Option.some.injEq, Prod.mk.injEq] at h
    obtain ⟨rfl, rfl, rfl, rfl⟩ := h
    go_wp2
    refine bodyPost_ret (results_list (rs := [.tmp 2, .tmp 3, .tmp 4, .tmp 5]) rfl (by simp) (.tmp (.tmp (.tmp (.tmp .nil))))) rfl ?_
    exact ⟨rfl, HB5.out⟩
  rw [if_neg c2] at h
  have c2b := decide_eq_false c2
  clear c2
  simp only [Option.some.injEq, Prod.mk.injEq] at h
  obtain ⟨rfl, rfl, rfl, rfl⟩ := h
  go_wp2
  refine bodyPost_ret (results_list (rs := [.tmp 2, .tmp 3, .tmp 4, .tmp 5]) rfl (by simp) (.tmp (.tmp (.tmp (.tmp .nil))))) rfl ?_
  exact ⟨rfl, HB5.out⟩
end Go.Proofs.YtcoekgnbncocnaaDoor.Pa


namespace Go.Proofs.YtcoekgnbncocnaaDoor.Pa
open Go Go.RowKit Go.Shelf Go.Proofs.YtcoekgnbncocnaaDoorW.PrintWords Go.Proofs.YtcoekgnbncocnaaDoorW.PrintLast Go.Proofs.YtcoekgnbncocnaaDoorW.PrintMore Go.Proofs.YtcoekgnbncocnaaDoor.DN Go.Proofs.YtcoekgnbncocnaaDoor.OPT
set_option linter.unusedVariables false
set_option linter.unusedSimpArgs false

def hdr (op a0 a1 a2 : Int) : List Int := [op, IntKind.u8.wrap a0, IntKind.u8.wrap (a1 / 16777216), IntKind.u8.wrap (a1 / 65536), IntKind.u8.wrap (a1 / 256), IntKind.u8.wrap a1, IntKind.u8.wrap (a2 / 256), IntKind.u8.wrap a2]
def pre36 (h : List Int) (y1 y2 y3 : ByteArray) : Nat → List Int
  | 0 => h
  | 1 => h ++ bytesOf y1
  | 2 => h ++ bytesOf y1 ++ bytesOf y2
  | _ => h ++ bytesOf y1 ++ bytesOf y2 ++ bytesOf y3
set_option maxHeartbeats 8000000 in
set_option maxRecDepth 100000 in
theorem enc36 (k : Nat) (a0 a1 a2 : Int) (a3 : ByteArray) (a4 : Bool) (a5 a6 : Int) (a7 : Bool) (a8 a9 : Int) (a10 : Bool) (a11 a12 : Int) (a13 : Bool) (A : Option Addr) (c : Nat) (l : List (S61)) (op : Int) (w : World)
    (hr : Kd.C k61 w A l.length l) (hc : l.length ≤ c)
    (y1 y2 y3 o1 : ByteArray) (z1 z2 z3 : Int) (hy1 : addr_Wire.f k a4 a5 a6 = some (y1, z1)) (hy2 : addr_Wire.f k a7 a8 a9 = some (y2, z2)) (hy3 : addr_Wire.f k a10 a11 a12 = some (y3, z3)) (hs1 : y1.size ≤ 1000 ∧ y2.size ≤ 1000 ∧ y3.size ≤ 1000 ∧ a3.size ≤ 1000 ∧ o1.size ≤ 1000000) (he : option_Encode.f l = some (o1, 0))
    (hv : dhcp_Valid.f k a0 a1 a2 a3 a4 a5 a6 a7 a8 a9 a10 a11 a12 a13 l = some true) (ho : dhcp_operation.f k a0 = some op) :
    Calls Tryd.prog 21 #[.agg #[.int .i64 a0, .int .i64 a1, .int .i64 a2, .string a3, .bool a4, .int .u64 a5, .int .u64 a6, .bool a7, .int .u64 a8, .int .u64 a9, .bool a10, .int .u64 a11, .int .u64 a12, .bool a13, .slice A l.length c]] w
      fun e w' => e = .returned (.tuple #[.string (strOfNums (hdr op a0 a1 a2 ++ bytesOf y1 ++ bytesOf y2 ++ bytesOf y3 ++ [if a13 = true then 1 else 0, (a3.size : Int) % 256] ++ bytesOf a3) ++ o1), .int .i64 0]) ∧ Below w.heap.size w w' := by
  have hu27 := Tryd.underlying27
  have HR := Aside0.mk hr
  have HC := Aside0.mk hc
  have HV := Aside0.mk hv
  have HO := Aside0.mk ho
  have HY1 := Aside0.mk hy1
  have HY2 := Aside0.mk hy2
  have HY3 := Aside0.mk hy3
  have HS := Aside0.mk hs1
  have HE := Aside0.mk he
  clear hr hc hv ho hy1 hy2 hy3 hs1 he
  obtain ⟨i0, hi0⟩ := info_parts Tryd.bx.infoByte
  have HI0 := Aside0.mk hi0
  clear hi0
  go_enter Tryd.func21, Tryd.ntmps21
  go_wp2_with (first
    | ((with_reducible refine gate_dst (N := 1) rfl ?_); refine box_event ?hg (N := 1) ?hd (cs := #[.int .i64 a0, .int .i64 a1, .int .i64 a2, .string a3, .bool a4, .int .u64 a5, .int .u64 a6, .bool a7, .int .u64 a8, .int .u64 a9, .bool a10, .int .u64 a11, .int .u64 a12, .bool a13, .slice A l.length c]) (t := 27) ?hr ?_; (case hd => rfl); (case hg => rfl); (case hr => first | (go_simp; done) | (go_simp; rfl)); intro g hg w1 hbox hb; have BK := Aside0.mk hbox; have HG := Aside0.mk hg; have HB := Aside0.mk hb; clear hg hbox hb; obtain ⟨q0, q1, q2, q3, q4, q5, q6, q7, q8, q9, q10, q11, q12, q13, q14⟩ := pk_cells BK.out)
    | (go_at_call 20; (with_reducible refine (dhcp_Valid.calls k a0 a1 a2 a3 a4 a5 a6 a7 a8 a9 a10 a11 a12 a13 A c l true _ (Kd.C_below HR.out HB.out) HC.out HV.out).mono ?_); rintro e w2 ⟨rfl, hb⟩; have BK2 := Aside0.mk (blk_below BK.out hb); have HB2 := Aside0.mk (below_step HB.out hb); clear hb; obtain ⟨p0, p1, p2, p3, p4, p5, p6, p7, p8, p9, p10, p11, p12, p13, p14⟩ := pk_cells BK2.out))
  go_region_held3 (fun w' => w'.cell? ⟨g, 0, none⟩ = some (.int .i64 a0) ∧ w'.cell? ⟨g, 1, none⟩ = some (.int .i64 a1) ∧ w'.cell? ⟨g, 2, none⟩ = some (.int .i64 a2)) (first | exact ⟨p0, p1, p2⟩ | go_keep)
    (first | (go_at_call 38; refine (dhcp_operation.calls k a0 op _ HO.out).mono ?_; rintro e w' ⟨rfl, ⟨nd, rfl⟩⟩))
  generalize hw3 : ((w2.drewN _).alloc _) = w3
  have HB3 : Aside0 (Below w.heap.size w w3) := ⟨by rw [← hw3]; exact below_alloc (pw_below_drewN HB2.out _) _⟩
  have BK3 : Aside0 _ := ⟨(show w3.heap[g]? = some (.cells #[.int .i64 a0, .int .i64 a1, .int .i64 a2, .string a3, .bool a4, .int .u64 a5, .int .u64 a6, .bool a7, .int .u64 a8, .int .u64 a9, .bool a10, .int .u64 a11, .int .u64 a12, .bool a13, .slice A l.length c] 27 (0, 0)) by rw [← hw3]; exact blk_alloc (blk_drewN BK2.out _) _)⟩
  have HO3 : Aside0 (w3.ownsRow w.heap.size 5 1 (.slice (some ⟨w2.heap.size, 0, none⟩) 8 8) 8 (nums .u8 (hdr op a0 a1 a2))) := ⟨by
    refine ⟨rfl, .inr ⟨w2.heap.size, 8, (nums .u8 (hdr op a0 a1 a2)).toArray, rfl, HB2.out.size, ?_, Nat.le_refl _, by decide, rfl, rfl⟩⟩
    rw [← hw3]; exact blk_new (w2.drewN _) _⟩
  clear hw3 p0 p1 p2 p3 p4 p5 p6 p7 p8 p9 p10 p11 p12 p13 p14 q0 q1 q2 q3 q4 q5 q6 q7 q8 q9 q10 q11 q12 q13 q14 BK BK2 HB HB2
  obtain ⟨p0, p1, p2, p3, p4, p5, p6, p7, p8, p9, p10, p11, p12, p13, p14⟩ := pk_cells BK3.out
  go_wp2
  have hs0 := HS.out
  have HL : Aside0 (∀ i, (pre36 (hdr op a0 a1 a2) y1 y2 y3 i).length ≤ 5000) := ⟨fun i => by
    have e1 := bytesOf_length y1
    have e2 := bytesOf_length y2
    have e3 := bytesOf_length y3
    have e4 : (hdr op a0 a1 a2).length = 8 := rfl
    match i with
    | 0 => simp only [pre36]; omega
    | 1 => simp only [pre36, List.length_append]; omega
    | 2 => simp only [pre36, List.length_append]; omega
    | i + 3 => simp only [pre36, List.length_append]; omega⟩
  clear hs0
  go_loopw [4, 52] (fun v4 v52 wr => ∃ i : Nat, v52 = .int .i64 i ∧ i ≤ 3 ∧ Aside0 (wr.ownsRow w.heap.size 5 1 v4 (pre36 (hdr op a0 a1 a2) y1 y2 y3 i).length (nums .u8 (pre36 (hdr op a0 a1 a2) y1 y2 y3 i))) ∧ Aside0 (wr.heap[w3.heap.size]? = some (.cells #[.bool a4, .int .u64 a5, .int .u64 a6, .bool a7, .int .u64 a8, .int .u64 a9, .bool a10, .int .u64 a11, .int .u64 a12] 24 (0, 0))) ∧ Aside0 (wr.heap[g]? = some (.cells #[.int .i64 a0, .int .i64 a1, .int .i64 a2, .string a3, .bool a4, .int .u64 a5, .int .u64 a6, .bool a7, .int .u64 a8, .int .u64 a9, .bool a10, .int .u64 a11, .int .u64 a12, .bool a13, .slice A l.length c] 27 (0, 0))) ∧ Aside0 (Below w.heap.size w wr)) (fun _ v _ => 3 - (intOf v).toNat)
  case atStart => exact ⟨0, rfl, by decide, ⟨HO3.out.alloc _⟩, ⟨blk_new _ _⟩, ⟨blk_alloc BK3.out _⟩, ⟨below_alloc HB3.out _⟩⟩
  case round =>
    obtain ⟨i, rfl, hi3, HO, HA, HGi, HB⟩ := hrel
    clear p0 p1 p2 p3 p4 p5 p6 p7 p8 p9 p10 p11 p12 p13 p14 BK3 HO3 HB3
    by_cases hi : i < 3
    · replace HL := Aside0.mk (HL.out i)
      have hcase : i = 0 ∨ i = 1 ∨ i = 2 := by omega
      rcases hcase with rfl | rfl | rfl
      · obtain ⟨r0, r1, r2, r3, r4, r5, r6, r7, r8⟩ := nine_cells HA.out
        go_wp2_with (first
          | ((with_reducible refine gate_dst (N := 6) rfl ?_); refine box_event ?hg (N := 6) ?hd (cs := #[.bool false, .int .u64 0, .int .u64 0]) (t := 24) ?hr ?_; (case hd => rfl); (case hg => rfl); (case hr => first | (go_simp; done) | (go_simp; rfl)); intro gb hg w5 hbox hb; have BX := Aside0.mk hbox; have GX := Aside0.mk hg; have BB := Aside0.mk hb; clear hg hbox hb; have s0 := (blk_cell BX.out 0).trans rfl; have s1 := (blk_cell BX.out 1).trans rfl; have s2 := (blk_cell BX.out 2).trans rfl; have sf0 := blk_frozen BX.out 0; have sf1 := blk_frozen BX.out 1; have sf2 := blk_frozen BX.out 2)
          | (go_at_call 41; (with_reducible refine (addr_Wire.calls k a4 a5 a6 y1 z1 _ HY1.out).mono ?_); rintro e w6 ⟨rfl, hb⟩; have B6 := Aside0.mk (below_step (below_set (below_set (below_set BB.out (Nat.le_of_eq GX.out.symm)) (Nat.le_of_eq GX.out.symm)) (Nat.le_of_eq GX.out.symm)) hb); clear hb)
          | (at_builtin; refine print_append_str (w0 := w) w.heap.size rfl (.tmp 61) (.tmp 62) 73 9 5 rfl Tryd.underlying73 Tryd.underlying9 info5 _ _ y1 rfl rfl (own_below HO.out B6.out) (below_step HB.out B6.out) (Nat.le_trans HB.out.size B6.out.size) (by have := HL.out; have := HS.out; omega) ?_; intro v7 w7 ho hb hg; have HO7 := Aside0.mk ho; have HB7 := Aside0.mk hb; have HA7 := Aside0.mk (blk_grown (blk_below HA.out B6.out) hg (fun q => Lib.ownBlock_ne (own_below HO.out B6.out) (blk_below HA.out B6.out) (by decide) q.symm)); have HG7 := Aside0.mk (blk_grown (blk_below HGi.out B6.out) hg (fun q => Lib.ownBlock_ne (own_below HO.out B6.out) (blk_below HGi.out B6.out) (by decide) q.symm)); clear ho hb hg))
        refine ⟨⟨_, _, _, _, _, _, _, _, _, _, _, _, _, _, _, _, _,  ⟨1, ?e, by decide, HO7, HA7, HG7, HB7⟩, rfl⟩, ?m⟩
        case e => first | rfl | simp | decide
        case m => simp [intOf]
      · obtain ⟨r0, r1, r2, r3, r4, r5, r6, r7, r8⟩ := nine_cells HA.out
        go_wp2_with (first
          | ((with_reducible refine gate_dst (N := 6) rfl ?_); refine box_event ?hg (N := 6) ?hd (cs := #[.bool false, .int .u64 0, .int .u64 0]) (t := 24) ?hr ?_; (case hd => rfl); (case hg => rfl); (case hr => first | (go_simp; done) | (go_simp; rfl)); intro gb hg w5 hbox hb; have BX := Aside0.mk hbox; have GX := Aside0.mk hg; have BB := Aside0.mk hb; clear hg hbox hb; have s0 := (blk_cell BX.out 0).trans rfl; have s1 := (blk_cell BX.out 1).trans rfl; have s2 := (blk_cell BX.out 2).trans rfl; have sf0 := blk_frozen BX.out 0; have sf1 := blk_frozen BX.out 1; have sf2 := blk_frozen BX.out 2)
          | (go_at_call 41; (with_reducible refine (addr_Wire.calls k a7 a8 a9 y2 z2 _ HY2.out).mono ?_); rintro e w6 ⟨rfl, hb⟩; have B6 := Aside0.mk (below_step (below_set (below_set (below_set BB.out (Nat.le_of_eq GX.out.symm)) (Nat.le_of_eq GX.out.symm)) (Nat.le_of_eq GX.out.symm)) hb); clear hb)
          | (at_builtin; refine print_append_str (w0 := w) w.heap.size rfl (.tmp 61) (.tmp 62) 73 9 5 rfl Tryd.underlying73 Tryd.underlying9 info5 _ _ y2 rfl rfl (own_below HO.out B6.out) (below_step HB.out B6.out) (Nat.le_trans HB.out.size B6.out.size) (by have := HL.out; have := HS.out; omega) ?_; intro v7 w7 ho hb hg; have HO7 := Aside0.mk ho; have HB7 := Aside0.mk hb; have HA7 := Aside0.mk (blk_grown (blk_below HA.out B6.out) hg (fun q => Lib.ownBlock_ne (own_below HO.out B6.out) (blk_below HA.out B6.out) (by decide) q.symm)); have HG7 := Aside0.mk (blk_grown (blk_below HGi.out B6.out) hg (fun q => Lib.ownBlock_ne (own_below HO.out B6.out) (blk_below HGi.out B6.out) (by decide) q.symm)); clear ho hb hg))
        refine ⟨⟨_, _, _, _, _, _, _, _, _, _, _, _, _, _, _, _, _,  ⟨2, ?e, by decide, HO7, HA7, HG7, HB7⟩, rfl⟩, ?m⟩
        case e => first | rfl | simp | decide
        case m => simp [intOf]
      · obtain ⟨r0, r1, r2, r3, r4, r5, r6, r7, r8⟩ := nine_cells HA.out
        go_wp2_with (first
          | ((with_reducible refine gate_dst (N := 6) rfl ?_); refine box_event ?hg (N := 6) ?hd (cs := #[.bool false, .int .u64 0, .int .u64 0]) (t := 24) ?hr ?_; (case hd => rfl); (case hg => rfl); (case hr => first | (go_simp; done) | (go_simp; rfl)); intro gb hg w5 hbox hb; have BX := Aside0.mk hbox; have GX := Aside0.mk hg; have BB := Aside0.mk hb; clear hg hbox hb; have s0 := (blk_cell BX.out 0).trans rfl; have s1 := (blk_cell BX.out 1).trans rfl; have s2 := (blk_cell BX.out 2).trans rfl; have sf0 := blk_frozen BX.out 0; have sf1 := blk_frozen BX.out 1; have sf2 := blk_frozen BX.out 2)
          | (go_at_call 41; (with_reducible refine (addr_Wire.calls k a10 a11 a12 y3 z3 _ HY3.out).mono ?_); rintro e w6 ⟨rfl, hb⟩; have B6 := Aside0.mk (below_step (below_set (below_set (below_set BB.out (Nat.le_of_eq GX.out.symm)) (Nat.le_of_eq GX.out.symm)) (Nat.le_of_eq GX.out.symm)) hb); clear hb)
          | (at_builtin; refine print_append_str (w0 := w) w.heap.size rfl (.tmp 61) (.tmp 62) 73 9 5 rfl Tryd.underlying73 Tryd.underlying9 info5 _ _ y3 rfl rfl (own_below HO.out B6.out) (below_step HB.out B6.out) (Nat.le_trans HB.out.size B6.out.size) (by have := HL.out; have := HS.out; omega) ?_; intro v7 w7 ho hb hg; have HO7 := Aside0.mk ho; have HB7 := Aside0.mk hb; have HA7 := Aside0.mk (blk_grown (blk_below HA.out B6.out) hg (fun q => Lib.ownBlock_ne (own_below HO.out B6.out) (blk_below HA.out B6.out) (by decide) q.symm)); have HG7 := Aside0.mk (blk_grown (blk_below HGi.out B6.out) hg (fun q => Lib.ownBlock_ne (own_below HO.out B6.out) (blk_below HGi.out B6.out) (by decide) q.symm)); clear ho hb hg))
        refine ⟨⟨_, _, _, _, _, _, _, _, _, _, _, _, _, _, _, _, _,  ⟨3, ?e, by decide, HO7, HA7, HG7, HB7⟩, rfl⟩, ?m⟩
        case e => first | rfl | simp | decide
        case m => simp [intOf]
    · obtain rfl : i = 3 := by omega
      obtain ⟨p0, p1, p2, p3, p4, p5, p6, p7, p8, p9, p10, p11, p12, p13, p14⟩ := pk_cells HGi.out
      replace HL := Aside0.mk (HL.out 3)
      cases a13
      · obtain ⟨X, hX⟩ : ∃ X, X = pre36 (hdr op a0 a1 a2) y1 y2 y3 3 ++ [0, (a3.size : Int) % 256] ++ bytesOf a3 := ⟨_, rfl⟩
        have HX := Aside0.mk hX
        have hXl : X.length ≤ 8000 := by rw [hX, List.length_append, List.length_append, bytesOf_length]; have := HL.out; have := HS.out; simp only [List.length_cons, List.length_nil]; omega
        have hcc : (9223372036854775807 < (strOfNums X).size + o1.size) = False := eq_false (by rw [strOfNums_size]; have := HS.out; omega)
        clear hX
        go_wp2_with (first
          | (at_builtin; refine wpList_append_own _ rfl _ _ 73 rfl w.heap.size 5 i0 (.int .u8 0) 1 1 Tryd.underlying73 HI0.out.1 HI0.out.2.1 HI0.out.2.2.1 HI0.out.2.2.2 rfl (by decide) _ _ _ rfl (HO.out.alloc _) ⟨wr.heap.size, 0, none⟩ 2 2 [.int .u8 0, .int .u8 ((a3.size : Int) % 256)] rfl rfl ?c1 ?c2 ?c3 ?c4 ?c5 ?_; (case c1 => (intro j u hj; match j, hj with | 0, hj => (simp at hj; subst hj; simp [Addr.add]) | 1, hj => (simp at hj; subst hj; simp [Addr.add]))); (case c2 => (intro u hu; simp at hu; rcases hu with rfl | rfl <;> rfl)); (case c3 => (have := HL.out; unfold maxLen; omega)); (case c4 => (have := HL.out; omega)); (case c5 => (have := HB.out.size; simp; omega)); intro v8 w8 ho hg _; replace hg := (show World.grownBy _ w8 (Value.ownBlock u4) from hg); have HO8 : Aside0 (w8.ownsRow w.heap.size 5 1 v8 (pre36 (hdr op a0 a1 a2) y1 y2 y3 3 ++ [0, (a3.size : Int) % 256]).length (nums .u8 (pre36 (hdr op a0 a1 a2) y1 y2 y3 3 ++ [0, (a3.size : Int) % 256]))) := ⟨by rw [List.length_append, nums_append]; exact ho⟩; have BK8 := Aside0.mk (blk_grown (blk_alloc HGi.out _) hg (fun q => Lib.ownBlock_ne HO.out HGi.out (by decide) q.symm)); have HB8 : Aside0 (Below w.heap.size w w8) := ⟨pw_below_grown (below_alloc HB.out _) _ (by have := HB.out.size; simp; omega) hg (fun k hk => (HO.out.lt k hk).1)⟩; clear ho hg; obtain ⟨p0, p1, p2, p3, p4, p5, p6, p7, p8, p9, p10, p11, p12, p13, p14⟩ := pk_cells BK8.out)
          | (at_builtin; refine print_append_str (w0 := w) w.heap.size rfl (.tmp 75) (.tmp 77) 73 9 5 rfl Tryd.underlying73 Tryd.underlying9 info5 _ _ a3 rfl rfl HO8.out HB8.out HB8.out.size (by have := HL.out; have := HS.out; rw [List.length_append]; simp only [List.length_cons, List.length_nil]; omega) ?_; intro v9 w9 ho hb hg; have HO9 : Aside0 (w9.ownsRow w.heap.size 5 1 v9 X.length (nums .u8 X)) := ⟨by rw [HX.out]; exact ho⟩; have HB9 := Aside0.mk hb; have BK9 := Aside0.mk (blk_grown BK8.out hg (fun q => Lib.ownBlock_ne HO8.out BK8.out (by decide) q.symm)); clear ho hb hg; obtain ⟨p0, p1, p2, p3, p4, p5, p6, p7, p8, p9, p10, p11, p12, p13, p14⟩ := pk_cells BK9.out)
          | (go_at_call 42; (with_reducible refine (option_Encode.calls A c l o1 0 _ (Kd.C_below HR.out HB9.out) HC.out HE.out).mono ?_); rintro e w10 ⟨rfl, hb⟩; have HB10 := Aside0.mk (below_step HB9.out hb); have HO10 := Aside0.mk (own_below HO9.out hb); clear hb; have hcv := own_string (P := Tryd.prog) Tryd.underlying73 Tryd.underlying5 Tryd.underlying9 HO10.out))
        go_ret2
        exact ⟨by (show Ending.returned (.tuple #[.string (strOfNums X ++ o1), .int .i64 0]) = _); rw [HX.out]; simp [pre36], HB10.out⟩
      · obtain ⟨X, hX⟩ : ∃ X, X = pre36 (hdr op a0 a1 a2) y1 y2 y3 3 ++ [1, (a3.size : Int) % 256] ++ bytesOf a3 := ⟨_, rfl⟩
        have HX := Aside0.mk hX
        have hXl : X.length ≤ 8000 := by rw [hX, List.length_append, List.length_append, bytesOf_length]; have := HL.out; have := HS.out; simp only [List.length_cons, List.length_nil]; omega
        have hcc : (9223372036854775807 < (strOfNums X).size + o1.size) = False := eq_false (by rw [strOfNums_size]; have := HS.out; omega)
        clear hX
        go_wp2_with (first
          | (at_builtin; refine wpList_append_own _ rfl _ _ 73 rfl w.heap.size 5 i0 (.int .u8 0) 1 1 Tryd.underlying73 HI0.out.1 HI0.out.2.1 HI0.out.2.2.1 HI0.out.2.2.2 rfl (by decide) _ _ _ rfl (HO.out.alloc _) ⟨wr.heap.size, 0, none⟩ 2 2 [.int .u8 1, .int .u8 ((a3.size : Int) % 256)] rfl rfl ?c1 ?c2 ?c3 ?c4 ?c5 ?_; (case c1 => (intro j u hj; match j, hj with | 0, hj => (simp at hj; subst hj; simp [Addr.add]) | 1, hj => (simp at hj; subst hj; simp [Addr.add]))); (case c2 => (intro u hu; simp at hu; rcases hu with rfl | rfl <;> rfl)); (case c3 => (have := HL.out; unfold maxLen; omega)); (case c4 => (have := HL.out; omega)); (case c5 => (have := HB.out.size; simp; omega)); intro v8 w8 ho hg _; replace hg := (show World.grownBy _ w8 (Value.ownBlock u4) from hg); have HO8 : Aside0 (w8.ownsRow w.heap.size 5 1 v8 (pre36 (hdr op a0 a1 a2) y1 y2 y3 3 ++ [1, (a3.size : Int) % 256]).length (nums .u8 (pre36 (hdr op a0 a1 a2) y1 y2 y3 3 ++ [1, (a3.size : Int) % 256]))) := ⟨by rw [List.length_append, nums_append]; exact ho⟩; have BK8 := Aside0.mk (blk_grown (blk_alloc HGi.out _) hg (fun q => Lib.ownBlock_ne HO.out HGi.out (by decide) q.symm)); have HB8 : Aside0 (Below w.heap.size w w8) := ⟨pw_below_grown (below_alloc HB.out _) _ (by have := HB.out.size; simp; omega) hg (fun k hk => (HO.out.lt k hk).1)⟩; clear ho hg; obtain ⟨p0, p1, p2, p3, p4, p5, p6, p7, p8, p9, p10, p11, p12, p13, p14⟩ := pk_cells BK8.out)
          | (at_builtin; refine print_append_str (w0 := w) w.heap.size rfl (.tmp 75) (.tmp 77) 73 9 5 rfl Tryd.underlying73 Tryd.underlying9 info5 _ _ a3 rfl rfl HO8.out HB8.out HB8.out.size (by have := HL.out; have := HS.out; rw [List.length_append]; simp only [List.length_cons, List.length_nil]; omega) ?_; intro v9 w9 ho hb hg; have HO9 : Aside0 (w9.ownsRow w.heap.size 5 1 v9 X.length (nums .u8 X)) := ⟨by rw [HX.out]; exact ho⟩; have HB9 := Aside0.mk hb; have BK9 := Aside0.mk (blk_grown BK8.out hg (fun q => Lib.ownBlock_ne HO8.out BK8.out (by decide) q.symm)); clear ho hb hg; obtain ⟨p0, p1, p2, p3, p4, p5, p6, p7, p8, p9, p10, p11, p12, p13, p14⟩ := pk_cells BK9.out)
          | (go_at_call 42; (with_reducible refine (option_Encode.calls A c l o1 0 _ (Kd.C_below HR.out HB9.out) HC.out HE.out).mono ?_); rintro e w10 ⟨rfl, hb⟩; have HB10 := Aside0.mk (below_step HB9.out hb); have HO10 := Aside0.mk (own_below HO9.out hb); clear hb; have hcv := own_string (P := Tryd.prog) Tryd.underlying73 Tryd.underlying5 Tryd.underlying9 HO10.out))
        go_ret2
        exact ⟨by (show Ending.returned (.tuple #[.string (strOfNums X ++ o1), .int .i64 0]) = _); rw [HX.out]; simp [pre36], HB10.out⟩
end Go.Proofs.YtcoekgnbncocnaaDoor.Pa


namespace Go.Proofs.YtcoekgnbncocnaaDoor.Pa
open Go Go.RowKit Go.Shelf Go.Proofs.YtcoekgnbncocnaaDoorW.PrintWords Go.Proofs.YtcoekgnbncocnaaDoorW.PrintLast Go.Proofs.YtcoekgnbncocnaaDoorW.PrintMore Go.Proofs.YtcoekgnbncocnaaDoor.DN Go.Proofs.YtcoekgnbncocnaaDoor.OPT
set_option linter.unusedVariables false
set_option linter.unusedSimpArgs false
def dhcp_Encode.f (k : Nat) (a0 a1 a2 : Int) (a3 : ByteArray) (a4 : Bool) (a5 a6 : Int) (a7 : Bool) (a8 a9 : Int) (a10 : Bool) (a11 a12 : Int) (a13 : Bool) (l : List (S61)) : Option (ByteArray × Int) :=
  (dhcp_Valid.f k a0 a1 a2 a3 a4 a5 a6 a7 a8 a9 a10 a11 a12 a13 l).bind fun v => if v = true then
    ((dhcp_operation.f k a0).bind fun op => (addr_Wire.f k a4 a5 a6).bind fun y1 => (addr_Wire.f k a7 a8 a9).bind fun y2 => (addr_Wire.f k a10 a11 a12).bind fun y3 => (option_Encode.f l).bind fun o =>
      if y1.1.size ≤ 1000 ∧ y2.1.size ≤ 1000 ∧ y3.1.size ≤ 1000 ∧ a3.size ≤ 1000 ∧ o.1.size ≤ 1000000 then (if o.2 = 0 then some (strOfNums (hdr op a0 a1 a2 ++ bytesOf y1.1 ++ bytesOf y2.1 ++ bytesOf y3.1 ++ [if a13 = true then 1 else 0, (a3.size : Int) % 256] ++ bytesOf a3) ++ o.1, 0) else none) else none)
    else some (⟨#[]⟩, 1)
theorem dhcp_Encode.mono : ∀ a0 a1 a2 a3 a4 a5 a6 a7 a8 a9 a10 a11 a12 a13 a14 k, LeO (dhcp_Encode.f k a0 a1 a2 a3 a4 a5 a6 a7 a8 a9 a10 a11 a12 a13 a14) (dhcp_Encode.f (k + 1) a0 a1 a2 a3 a4 a5 a6 a7 a8 a9 a10 a11 a12 a13 a14) := by
  intro a0 a1 a2 a3 a4 a5 a6 a7 a8 a9 a10 a11 a12 a13 a14 k
  unfold dhcp_Encode.f
  repeat' first
      | (with_reducible exact dhcp_Valid.mono _ _ _ _ _ _ _ _ _ _ _ _ _ _ _ _)
      | (with_reducible exact dhcp_operation.mono _ _)
      | (with_reducible exact addr_Wire.mono _ _ _ _)
      | (with_reducible exact LeO.refl _)
      | (with_reducible exact LeO.none _)
      | (with_reducible refine LeO.ite ?_ ?_)
      | (with_reducible refine LeO.bind ?_ (fun _ => ?_))
set_option maxHeartbeats 8000000 in
set_option maxRecDepth 100000 in
theorem dhcp_Encode.calls (k : Nat) (a0 a1 a2 : Int) (a3 : ByteArray) (a4 : Bool) (a5 a6 : Int) (a7 : Bool) (a8 a9 : Int) (a10 : Bool) (a11 a12 : Int) (a13 : Bool) (A : Option Addr) (c : Nat) (l : List (S61)) (r1 : ByteArray) (r2 : Int) (w : World)
    (hr : Kd.C k61 w A l.length l) (hc : l.length ≤ c) (h : dhcp_Encode.f k a0 a1 a2 a3 a4 a5 a6 a7 a8 a9 a10 a11 a12 a13 l = some (r1, r2)) :
    Calls Tryd.prog 21 #[.agg #[.int .i64 a0, .int .i64 a1, .int .i64 a2, .string a3, .bool a4, .int .u64 a5, .int .u64 a6, .bool a7, .int .u64 a8, .int .u64 a9, .bool a10, .int .u64 a11, .int .u64 a12, .bool a13, .slice A l.length c]] w fun e w' => e = .returned (.tuple #[.string r1, .int .i64 r2]) ∧ Below w.heap.size w w' := by
  unfold dhcp_Encode.f at h
  replace h := Option.bind_eq_some_iff.mp h
  obtain ⟨v, hv, h⟩ := h
  cases v
  · rw [if_neg (by decide)] at h
    simp only [Option.some.injEq, Prod.mk.injEq] at h
    obtain ⟨rfl, rfl⟩ := h
    have hu27 := Tryd.underlying27
    have HR := Aside0.mk hr
    have HC := Aside0.mk hc
    have HV := Aside0.mk hv
    clear hr hc hv
    go_enter Tryd.func21, Tryd.ntmps21
    go_wp2_with (first
      | ((with_reducible refine gate_dst (N := 1) rfl ?_); refine box_event ?hg (N := 1) ?hd (cs := #[.int .i64 a0, .int .i64 a1, .int .i64 a2, .string a3, .bool a4, .int .u64 a5, .int .u64 a6, .bool a7, .int .u64 a8, .int .u64 a9, .bool a10, .int .u64 a11, .int .u64 a12, .bool a13, .slice A l.length c]) (t := 27) ?hr ?_; (case hd => rfl); (case hg => rfl); (case hr => first | (go_simp; done) | (go_simp; rfl)); intro g hg w1 hbox hb; have BK := Aside0.mk hbox; have HG := Aside0.mk hg; have HB := Aside0.mk hb; clear hg hbox hb; obtain ⟨q0, q1, q2, q3, q4, q5, q6, q7, q8, q9, q10, q11, q12, q13, q14⟩ := pk_cells BK.out)
      | (go_at_call 20; (with_reducible refine (dhcp_Valid.calls k a0 a1 a2 a3 a4 a5 a6 a7 a8 a9 a10 a11 a12 a13 A c l false _ (Kd.C_below HR.out HB.out) HC.out HV.out).mono ?_); rintro e w2 ⟨rfl, hb⟩; have HB2 := Aside0.mk (below_step HB.out hb); clear hb))
    go_ret2
    exact ⟨rfl, HB2.out⟩
  · rw [if_pos rfl] at h
    replace h := Option.bind_eq_some_iff.mp h
    obtain ⟨op, ho, h⟩ := h
    replace h := Option.bind_eq_some_iff.mp h
    obtain ⟨⟨y1, z1⟩, h1, h⟩ := h
    replace h := Option.bind_eq_some_iff.mp h
    obtain ⟨⟨y2, z2⟩, h2, h⟩ := h
    replace h := Option.bind_eq_some_iff.mp h
    obtain ⟨⟨y3, z3⟩, h3, h⟩ := h
    replace h := Option.bind_eq_some_iff.mp h
    obtain ⟨⟨o1, o2⟩, he, h⟩ := h
    dsimp only at h
    by_cases hs : y1.size ≤ 1000 ∧ y2.size ≤ 1000 ∧ y3.size ≤ 1000 ∧ a3.size ≤ 1000 ∧ o1.size ≤ 1000000
    · rw [if_pos hs] at h
      by_cases h0 : o2 = 0
      · rw [if_pos h0] at h
        subst h0
        simp only [Option.some.injEq, Prod.mk.injEq] at h
        obtain ⟨rfl, rfl⟩ := h
        exact enc36 k a0 a1 a2 a3 a4 a5 a6 a7 a8 a9 a10 a11 a12 a13 A c l op w hr hc y1 y2 y3 o1 z1 z2 z3 h1 h2 h3 hs he hv ho
      · rw [if_neg h0] at h; cases h
    · rw [if_neg hs] at h; cases h
end Go.Proofs.YtcoekgnbncocnaaDoor.Pa


namespace Go.Proofs.YtcoekgnbncocnaaDoor.BX
open Go Go.RowKit Go.Proofs.YtcoekgnbncocnaaDoorW.PrintWords Go.Proofs.YtcoekgnbncocnaaDoorW.PrintLast Go.Proofs.YtcoekgnbncocnaaDoorW.PrintMore
set_option linter.unusedVariables false
set_option linter.unusedSimpArgs false
abbrev Bxs := List (Nat × TypeId × Array Value)
def Out (L : Bxs) (k : Nat) : Prop := ∀ b ∈ L, k ≠ b.1
structure Inv (w0 : World) (L : Bxs) (F : World → Prop) (w : World) : Prop where
  below : Below w0.heap.size w0 w
  box : ∀ b ∈ L, w.heap[b.1]? = some (.cells b.2.2 b.2.1 (0, 0))
  own : ∀ b ∈ L, w0.heap.size ≤ b.1
  nodup : (L.map (·.1)).Nodup
  foot : Foot F w (Out L)
namespace Inv
variable {P : Program} {w0 w w1 : World} {L : Bxs} {F G : World → Prop} {g off : Nat} {t ty : TypeId} {cs cs' : Array Value} {v : Value}
theorem now (I : Inv w0 L F w) : F w := I.foot.now
theorem imp (I : Inv w0 L F w) (h : ∀ w', F w' → G w') : Inv w0 L G w := ⟨I.below, I.box, I.own, I.nodup, I.foot.imp h⟩
theorem lt (I : Inv w0 L F w) {b : Nat × TypeId × Array Value} (hb : b ∈ L) : b.1 < w.heap.size := blk_lt (I.box b hb)
theorem alloc (I : Inv w0 L F w) (t : TypeId) (cs : Array Value) : Inv w0 ((w.heap.size, t, cs) :: L) F (w.alloc (.cells cs t (0, 0))) := by
  refine ⟨I.below.alloc I.below.size _, fun b hb => ?_, fun b hb => ?_, ?_, fun W' hW => ?_⟩
  · rcases List.mem_cons.1 hb with rfl | hb
    · exact blk_new w _
    · exact (Below.heap_alloc w _ _ (I.lt hb)).trans (I.box b hb)
  · rcases List.mem_cons.1 hb with rfl | hb
    · exact I.below.size
    · exact I.own b hb
  · rw [List.map_cons, List.nodup_cons]
    refine ⟨fun h => ?_, I.nodup⟩
    obtain ⟨b, hb, e⟩ := List.mem_map.1 h
    have := I.lt hb
    rw [e] at this
    exact Nat.lt_irrefl _ this
  · refine I.foot W' (fun k hk hlt => (hW k (fun b hb => ?_) ?_).trans (Below.heap_alloc w _ _ hlt))
    · rcases List.mem_cons.1 hb with rfl | hb
      · exact Nat.ne_of_lt hlt
      · exact hk b hb
    · show k < (w.heap.push _).size
      rw [Array.size_push]; omega
theorem drew (I : Inv w0 L F w) : Inv w0 L F w.drew := ⟨I.below.drew, I.box, I.own, I.nodup, fun W' hW => I.foot W' hW⟩
theorem drewN (I : Inv w0 L F w) (n : Nat) : Inv w0 L F (w.drewN n) := ⟨pw_below_drewN I.below n, I.box, I.own, I.nodup, fun W' hW => I.foot W' hW⟩
theorem call (I : Inv w0 L F w) (hb : Below w.heap.size w w1) : Inv w0 L F w1 := by
  refine ⟨I.below.trans (hb.mono I.below.size), fun b h => (hb.block _ (I.lt h)).trans (I.box b h), I.own, I.nodup, fun W' hW => I.foot W' (fun k hk hlt => (hW k hk ?_).trans (hb.block k hlt))⟩
  have := hb.size; omega
/-- A fact more: what it looks at lies outside of the variables. -/
theorem add (I : Inv w0 L F w) (h : Foot G w (Out L)) : Inv w0 L (fun w => F w ∧ G w) w := ⟨I.below, I.box, I.own, I.nodup, fun W' hW => ⟨I.foot W' hW, h W' hW⟩⟩
theorem addNew (I : Inv w0 L F w) (hb : Below w.heap.size w w1) {ok : Nat → Prop} (h : Foot G w1 ok) (hok : ∀ k, ok k → k < w1.heap.size → Out L k) : Inv w0 L (fun w => F w ∧ G w) w1 :=
  (I.call hb).add (fun W' hW => h W' (fun k hk hlt => hW k (hok k hk hlt) hlt))
theorem new_out (I : Inv w0 L F w) : ∀ k, w.heap.size ≤ k → Out L k := fun k hk b hb e => by have := I.lt hb; omega
/-- A variable's cells turn. -/
theorem upd (I : Inv w0 L F w) {L' : Bxs} (hm : (g, t, cs) ∈ L) (hL : L' = L.map (fun b => if b.1 = g then (g, t, cs') else b)) (hg : w1.heap[g]? = some (.cells cs' t (0, 0))) (ho : ∀ k, k ≠ g → w1.heap[k]? = w.heap[k]?) (hb : Below g w w1) (hs : w1.heap.size = w.heap.size) : Inv w0 L' F w1 := by
  subst hL
  have h1 : ∀ b ∈ L, (if b.1 = g then (g, t, cs') else b).1 = b.1 := fun b _ => by split <;> simp_all
  refine ⟨I.below.trans (hb.mono (I.own _ hm)), fun b hb => ?_, fun b hb => ?_, ?_, fun W' hW => ?_⟩
  · obtain ⟨b0, hb0, rfl⟩ := List.mem_map.1 hb
    by_cases e : b0.1 = g
    · rw [if_pos e]; exact hg
    · rw [if_neg e]; exact (ho _ e).trans (I.box b0 hb0)
  · obtain ⟨b0, hb0, rfl⟩ := List.mem_map.1 hb
    rw [h1 b0 hb0]; exact I.own b0 hb0
  · have : (L.map (fun b => if b.1 = g then (g, t, cs') else b)).map (·.1) = L.map (·.1) := by
      rw [List.map_map]; exact List.map_congr_left h1
    rw [this]; exact I.nodup
  · refine I.foot W' (fun k hk hlt => (hW k (fun b hb => ?_) (by omega)).trans (ho k (hk _ hm)))
    obtain ⟨b0, hb0, rfl⟩ := List.mem_map.1 hb
    rw [h1 b0 hb0]; exact hk b0 hb0
end Inv
inductive Upd : Bxs → Nat → TypeId → Array Value → Array Value → Bxs → Prop
  | head {L : Bxs} {g : Nat} {t : TypeId} {cs cs' : Array Value} : Upd ((g, t, cs) :: L) g t cs cs' ((g, t, cs') :: L)
  | tail {L L' : Bxs} {g : Nat} {t : TypeId} {cs cs' : Array Value} {b : Nat × TypeId × Array Value} (h : Upd L g t cs cs' L') : Upd (b :: L) g t cs cs' (b :: L')
theorem Upd.mem {L L' : Bxs} {g : Nat} {t : TypeId} {cs cs' : Array Value} (h : Upd L g t cs cs' L') : (g, t, cs) ∈ L := by
  induction h with
  | head => exact List.mem_cons_self ..
  | tail _ ih => exact List.mem_cons_of_mem _ ih
theorem Upd.eq {L L' : Bxs} {g : Nat} {t : TypeId} {cs cs' : Array Value} (h : Upd L g t cs cs' L') (hn : (L.map (·.1)).Nodup) : L' = L.map (fun b => if b.1 = g then (g, t, cs') else b) := by
  induction h with
  | head =>
    rename_i L g t cs cs'
    rw [List.map_cons, if_pos rfl]
    rw [List.map_cons, List.nodup_cons] at hn
    congr 1
    have : ∀ b ∈ L, (if b.1 = g then (g, t, cs') else b) = b := fun b hb => if_neg (fun e => hn.1 (List.mem_map.2 ⟨b, hb, e⟩))
    rw [List.map_congr_left this, List.map_id']
  | tail h ih =>
    rename_i L L' g t cs cs' b
    rw [List.map_cons, List.nodup_cons] at hn
    rw [List.map_cons, if_neg, ih hn.2]
    exact fun e => hn.1 (List.mem_map.2 ⟨_, h.mem, e.symm⟩)
section
variable {P : Program} {w0 w : World} {L L' : Bxs} {F : World → Prop} {g off : Nat} {t ty : TypeId} {cs cs' : Array Value} {v : Value}
def Ld (P : Program) (ty : TypeId) (cs : Array Value) (off : Nat) (v : Value) : Prop := ∀ (w : World) (g : Nat) (t : TypeId), w.heap[g]? = some (.cells cs t (0, 0)) → (loadVar ty ⟨g, off, none⟩).run P w = .ok v w
def Sr (P : Program) (ty : TypeId) (cs : Array Value) (off : Nat) (v : Value) (cs' : Array Value) : Prop := ∀ (w : World) (g : Nat) (t : TypeId), w.heap[g]? = some (.cells cs t (0, 0)) →
  ∃ w1, (storeVar ty ⟨g, off, none⟩ v).run P w = .ok () w1 ∧ w1.heap[g]? = some (.cells cs' t (0, 0)) ∧ (∀ k, k ≠ g → w1.heap[k]? = w.heap[k]?) ∧ Below g w w1 ∧ w1.heap.size = w.heap.size
theorem ld_row (d : TypeDesc) (hu : P.underlying ty = some d) (hd : d.isRow = true) (hi : (P.info? ty).map (·.size) = some cs.size) : Ld P ty cs 0 (.agg cs) :=
  fun w g t hg => run_loadVar_row w g t ty cs (0, 0) d hg hu (by cases d <;> simp_all [TypeDesc.isRow]) hi
theorem set_sr (hg : w.heap[g]? = some (.cells cs t (0, 0))) (off : Nat) (v : Value) : (w.setCell ⟨g, off, none⟩ v).heap[g]? = some (.cells (cs.setIfInBounds off v) t (0, 0)) := blk_put hg off v rfl
theorem sr_one (hi : (P.info? ty).map (·.size) = some 1) (h1 : v.oneCell' = true) (hc : v.cells = #[v]) (hlt : off < cs.size) (hcs : cs.setIfInBounds off v = cs') : Sr P ty cs off v cs' := fun w g t hg => by
  subst hcs
  have hcell : (w.cell? ⟨g, off, none⟩).isSome = true := by rw [blk_cell hg]; simp [hlt]
  have hfr := blk_frozen hg off
  refine ⟨w.setCell ⟨g, off, none⟩ v, ?_, set_sr hg off v, fun k hk => Below.heap_setCell w _ v k hk, (Below.refl g w).setCell (p := ⟨g, off, none⟩) (Nat.le_refl _) v, by simp [World.setCell]⟩
  have hj0 : ∀ j, j < [v].length → j = 0 := fun j hj => by simpa using hj
  have := run_storeCells_cells (P := P) g off [v] 0 w (fun j hj => by rw [hj0 j hj]; simpa using hcell) (fun j hj => by rw [hj0 j hj]; simpa using hfr)
    (fun u hu => by rw [List.mem_singleton] at hu; rw [hu]; exact h1)
  cases hq : P.info? ty with
  | none => simp [hq] at hi
  | some i =>
    have hs : i.size = 1 := by simpa [hq] using hi
    simp only [Nat.add_zero] at this
    simp [storeVar, sizeOf, typeInfo, hq, hc, hs, this, World.setCells]
theorem setCells_sr : ∀ (ds : List Value) (w : World) (off : Nat) (cs : Array Value), w.heap[g]? = some (.cells cs t (0, 0)) →
    (w.setCells g off ds).heap[g]? = some (.cells ((ds.zipIdx off).foldl (fun c p => c.setIfInBounds p.2 p.1) cs) t (0, 0)) ∧ (∀ k, k ≠ g → (w.setCells g off ds).heap[k]? = w.heap[k]?) ∧ Below g w (w.setCells g off ds) ∧ (w.setCells g off ds).heap.size = w.heap.size
  | [], w, off, cs, h => ⟨h, fun _ _ => rfl, Below.refl _ _, rfl⟩
  | d :: ds, w, off, cs, h => by
    obtain ⟨h1, h2, h3, h4⟩ := setCells_sr ds (w.setCell ⟨g, off, none⟩ d) (off + 1) _ (set_sr h off d)
    exact ⟨h1, fun k hk => (h2 k hk).trans (Below.heap_setCell w _ d k hk), ((Below.refl g w).setCell (p := ⟨g, off, none⟩) (Nat.le_refl _) d).trans h3, h4.trans (by simp [World.setCell])⟩
theorem sr_row (hi : (P.info? ty).map (·.size) = some cs'.size) (ho : cs.size = cs'.size) (h1 : cs'.all (·.oneCell') = true) : Sr P ty cs 0 (.agg cs') cs' := fun w g t hg => by
  obtain ⟨h2, h3, h4, h5⟩ := setCells_sr cs'.toList w 0 cs hg
  refine ⟨_, run_storeVar_mid w g 0 ty cs' (fun j hj => ⟨by rw [blk_cell hg]; simp; omega, blk_frozen hg _⟩) hi h1, ?_, h3, h4, h5⟩
  rw [h2]
  have : ∀ (ds : List Value) (off : Nat) (c : Array Value), c.size = off + ds.length → ((ds.zipIdx off).foldl (fun c p => c.setIfInBounds p.2 p.1) c).toList = c.toList.take off ++ ds := by
    intro ds
    induction ds with
    | nil => intro off c hc; simp at hc ⊢; rw [List.take_of_length_le (by simp [hc])]
    | cons d ds ih =>
      intro off c hc
      rw [List.zipIdx_cons, List.foldl_cons, ih (off + 1) _ (by simp at hc ⊢; omega)]
      simp only [Array.toList_setIfInBounds, List.length_cons] at hc ⊢
      have e : (c.toList.set off d).take (off + 1) = c.toList.take off ++ [d] := by
        rw [List.take_succ_eq_append_getElem (by simp; omega), List.take_set_of_le (Nat.le_refl _)]
        simp
      rw [e, List.append_assoc]
      rfl
  have h6 := this cs'.toList 0 cs (by simpa using ho)
  simp only [List.take_zero, List.nil_append] at h6
  rw [Array.toList_inj.1 h6]
variable {ops : Array Oper} {rest : List Oper} {o : Oper} {a : Act} {Q : Exit → Act → World → Prop} {x y : Operand}
theorem run_ld (ho : o.op = .load ty x) (hx : a.eval x = .pointer (some ⟨g, off, none⟩)) (I : Inv w0 L F w) (hm : (g, t, cs) ∈ L) (hl : Ld P ty cs off v) : (execOp a.eval o).run P w = .ok (.value v) w := by
  have := hl w g t (I.box _ hm)
  unfold execOp
  simp only [ho, hx, Instr.loadAt, Instr.sureAddr, Sem.run_bind, Sem.run_pure, Result.andThen_ok, this]
theorem run_sr (ho : o.op = .store ty x y) (hx : a.eval x = .pointer (some ⟨g, off, none⟩)) (hy : a.eval y = v) (I : Inv w0 L F w) (hu : Upd L g t cs cs' L') (hs : Sr P ty cs off v cs') : ∃ w1, (execOp a.eval o).run P w = .ok .skip w1 ∧ Inv w0 L' F w1 := by
  obtain ⟨w1, h1, h2, h3, h4, h5⟩ := hs w g t (I.box _ hu.mem)
  refine ⟨w1, ?_, I.upd hu.mem (hu.eq I.nodup) h2 h3 h4 h5⟩
  unfold execOp
  simp only [ho, hx, hy, Instr.storeAt, Instr.sureAddr, Sem.run_bind, Sem.run_pure, Result.andThen_ok, h1]
theorem wl_ld (hgd : o.guard = none) (ho : o.op = .load ty x) (hx : a.eval x = .pointer (some ⟨g, off, none⟩)) (I : Inv w0 L F w) (hm : (g, t, cs) ∈ L) (hl : Ld P ty cs off v) (h : wpList P ops Q rest (a.put o.dst v) w) : wpList P ops Q (o :: rest) a w :=
  wpList_plain hgd fun K hK => by
    unfold Oper.wp
    rw [run_ld ho hx I hm hl]
    exact hK _ _ h
theorem wl_sr (hgd : o.guard = none) (hd : o.dst = none) (ho : o.op = .store ty x y) (hx : a.eval x = .pointer (some ⟨g, off, none⟩)) (hy : a.eval y = v) (I : Inv w0 L F w) (hu : Upd L g t cs cs' L') (hs : Sr P ty cs off v cs') (h : ∀ w1, Inv w0 L' F w1 → wpList P ops Q rest a w1) : wpList P ops Q (o :: rest) a w :=
  wpList_plain hgd fun K hK => by
    obtain ⟨w1, h1, h2⟩ := run_sr (P := P) ho hx hy I hu hs
    unfold Oper.wp
    rw [h1]
    show K (a.put o.dst undef) w1
    rw [hd]
    exact hK _ _ (h w1 h2)
theorem wl_srR (hgd : o.guard = none) (hd : o.dst = none) (ho : o.op = .store ty x y) (hx : a.eval x = .pointer (some ⟨g, 0, none⟩)) (hy : a.eval y = .agg cs') (I : Inv w0 L F w) (hu : Upd L g t cs cs' L') (hi : (P.info? ty).map (·.size) = some cs'.size) (hs : cs.size = cs'.size) (h1 : cs'.all (·.oneCell') = true) (h : ∀ w1, Inv w0 L' F w1 → wpList P ops Q rest a w1) : wpList P ops Q (o :: rest) a w :=
  wl_sr hgd hd ho hx hy I hu (sr_row hi hs h1) h
theorem gate_ld (_h : o.op = .load ty x) (h : wpList P ops Q (o :: rest) a w) : wpList P ops Q (o :: rest) a w := h
theorem gate_sr (_h : o.op = .store ty x y) (h : wpList P ops Q (o :: rest) a w) : wpList P ops Q (o :: rest) a w := h
end
section
variable {α : Type} {w0 w w1 : World} {L : Bxs} {F : World → Prop} {d : Kd α} {e base : Nat} {ok : Nat → Prop} {A : Option Addr} {c : Nat} {l : List α} {v : Value}
theorem Inv.addM (I : Inv w0 L F w) (hb : Below w.heap.size w w1) (hR : d.R e w1 w.heap.size ok v l) : Inv w0 L (fun W => F W ∧ d.R e W w0.heap.size (fun k => w.heap.size ≤ k) v l) w1 :=
  I.addNew hb (ok := fun k => w.heap.size ≤ k) (fun W' hW => Kd.R_step (Kd.R_lower (Kd.R_mono (Kd.R_bound hR) (fun k hk => hk.2.1)) I.below.size) (fun k hk hlt => hW k hk hlt)) (fun k hk _ => I.new_out k hk)
end
def cfst : Code → Code
  | .seq x _ => x
  | c => c
def csnd : Code → Code
  | .seq _ y => y
  | c => c
def cbody (f : Func) : Code := f.body.getD .skip
end Go.Proofs.YtcoekgnbncocnaaDoor.BX


namespace Go.Proofs.YtcoekgnbncocnaaDoor.ADR
open Go Go.RowKit Go.Proofs.YtcoekgnbncocnaaDoorW.PrintWords Go.Proofs.YtcoekgnbncocnaaDoorW.PrintLast Go.Proofs.YtcoekgnbncocnaaDoorW.PrintMore Go.Proofs.YtcoekgnbncocnaaDoor.DN Go.Proofs.YtcoekgnbncocnaaDoor.Pa
set_option linter.unusedVariables false
set_option linter.unusedSimpArgs false

theorem up {α : Type} {f : Nat → Option α} (h : ∀ k, LeO (f k) (f (k + 1))) {K k : Nat} {r : α} (hk : K ≤ k) (hr : f K = some r) : f k = some r := by
  obtain ⟨d, rfl⟩ := Nat.exists_eq_add_of_le hk
  clear hk
  induction d with
  | zero => exact hr
  | succ d ih => exact h _ _ ih
theorem or_add (n b : Nat) (hb : b < 256) : (n * 256) ||| b = n * 256 + b := by
  have := Nat.two_pow_add_eq_or_of_lt (i := 8) hb n
  rw [show 2 ^ 8 * n = n * 256 by omega] at this
  exact this.symm
set_option maxRecDepth 100000 in
theorem or_u64 (n b : Nat) (hb : b < 256) (hn : n * 256 + b < 18446744073709551616) : bits .or .u64 ((n * 256 : Nat) : Int) ((b : Nat) : Int) = ((n * 256 + b : Nat) : Int) := by
  rw [bits_or_u64_nat _ _ (by omega) (by omega), or_add n b hb]
set_option maxRecDepth 100000 in
theorem or_i64 (n b : Nat) (hb : b < 256) (hn : n * 256 + b < 9223372036854775808) : bits .or .i64 ((n * 256 : Nat) : Int) ((b : Nat) : Int) = ((n * 256 + b : Nat) : Int) := by
  have h1 : (BitVec.ofInt 64 ((n * 256 : Nat) : Int)).toNat = n * 256 := by
    rw [BitVec.ofInt_natCast, BitVec.toNat_ofNat]; exact Nat.mod_eq_of_lt (by omega)
  have h2 : (BitVec.ofInt 64 (b : Int)).toNat = b := by
    rw [BitVec.ofInt_natCast, BitVec.toNat_ofNat]; exact Nat.mod_eq_of_lt (by omega)
  show IntKind.i64.wrap ((BitVec.ofInt 64 ((n * 256 : Nat) : Int) ||| BitVec.ofInt 64 (b : Int)).toNat : Int) = _
  rw [BitVec.toNat_or, h1, h2, or_add n b hb, i64_w, wrap_id (by omega) (by omega)]
theorem wu {x : Int} (h0 : 0 ≤ x) (h1 : x < 18446744073709551616) : IntKind.u64.wrap x = x := by rw [IntKind.wrap_u64]; omega

def val4 (a b c d : UInt8) : Nat := ((a.toNat * 256 + b.toNat) * 256 + c.toNat) * 256 + d.toNat
theorem value4 (a b c d : UInt8) (k : Nat) (hk : 20 ≤ k) : addr_value.f k (B [a, b, c, d]) = some (val4 a b c d : Int) := by
  refine up (fun k => addr_value.mono _ k) hk ?_
  have h : addr_value.f 20 (B [a, b, c, d]) = some (bits .or .u64 (IntKind.u64.wrap (bits .or .u64 (IntKind.u64.wrap (bits .or .u64 (IntKind.u64.wrap (bits .or .u64 (IntKind.u64.wrap (0 * 256)) (IntKind.u64.wrap (a.toNat : Int)) * 256)) (IntKind.u64.wrap (b.toNat : Int)) * 256)) (IntKind.u64.wrap (c.toNat : Int)) * 256)) (IntKind.u64.wrap (d.toNat : Int))) := by kernel_rfl
  have ha := a.toNat_lt; have hb := b.toNat_lt; have hc := c.toNat_lt; have hd := d.toNat_lt
  rw [h, wu (x := (a.toNat : Int)) (by omega) (by omega), wu (x := (b.toNat : Int)) (by omega) (by omega), wu (x := (c.toNat : Int)) (by omega) (by omega), wu (x := (d.toNat : Int)) (by omega) (by omega)]
  rw [show IntKind.u64.wrap (0 * 256) = ((0 * 256 : Nat) : Int) from rfl, or_u64 0 a.toNat ha (by omega)]
  have s : ∀ n : Nat, n * 256 < 18446744073709551616 → IntKind.u64.wrap ((n : Int) * 256) = ((n * 256 : Nat) : Int) := fun n hn => by rw [wu (by omega) (by omega)]; omega
  rw [s _ (by omega), or_u64 _ b.toNat hb (by omega), s _ (by omega), or_u64 _ c.toNat hc (by omega), s _ (by omega), or_u64 _ d.toNat hd (by omega)]
  unfold val4
  rw [show 0 * 256 + a.toNat = a.toNat by omega]
theorem four_of {s : ByteArray} (h : s.size = 4) : ∃ a b c d, s = B [a, b, c, d] := by
  have hl : (L s).length = 4 := by rw [L_len, h]
  match hs : L s, hl with
  | [a, b, c, d], _ => exact ⟨a, b, c, d, by rw [← hs, B_L]⟩
theorem read4 (a b c d : UInt8) (k : Nat) (hk : 20 ≤ k) : addr_Read.f k (B [a, b, c, d]) = some (false, 0, (val4 a b c d : Int), 0) := by
  unfold addr_Read.f
  rw [if_pos (by rw [B_size]; rfl), value4 a b c d k hk]; rfl
theorem wsc {i : Nat} (h : i < 9223372036854775806) : wrap64 ((i : Int) + 1) = ((i + 1 : Nat) : Int) := by rw [wrap_id (by omega) (by omega)]; rfl
end Go.Proofs.YtcoekgnbncocnaaDoor.ADR


namespace Go.Proofs.YtcoekgnbncocnaaDoor.ADR
open Go Go.RowKit Go.Proofs.YtcoekgnbncocnaaDoorW.PrintWords Go.Proofs.YtcoekgnbncocnaaDoorW.PrintLast Go.Proofs.YtcoekgnbncocnaaDoorW.PrintMore Go.Proofs.YtcoekgnbncocnaaDoor.DN Go.Proofs.YtcoekgnbncocnaaDoor.Pa
set_option linter.unusedVariables false
set_option linter.unusedSimpArgs false

theorem w4 {i : Nat} (h : i < 9223372036854775800) : wrap64 ((i : Int) + 4) = ((i + 4 : Nat) : Int) := by rw [wrap_id (by omega) (by omega)]; rfl
end Go.Proofs.YtcoekgnbncocnaaDoor.ADR


namespace Go.Proofs.YtcoekgnbncocnaaDoor.ADR
open Go Go.RowKit Go.Proofs.YtcoekgnbncocnaaDoorW.PrintWords Go.Proofs.YtcoekgnbncocnaaDoorW.PrintLast Go.Proofs.YtcoekgnbncocnaaDoorW.PrintMore Go.Proofs.YtcoekgnbncocnaaDoor.DN Go.Proofs.YtcoekgnbncocnaaDoor.Pa
set_option linter.unusedVariables false
set_option linter.unusedSimpArgs false

def okA (x : S24) : Prop := x.f0 = false ∧ x.f1 = 0 ∧ x.f2 ≤ 4294967295
instance (x : S24) : Decidable (okA x) := inferInstanceAs (Decidable (_ ∧ _ ∧ _))
end Go.Proofs.YtcoekgnbncocnaaDoor.ADR


namespace Go.Proofs.YtcoekgnbncocnaaDoor.ADR
open Go Go.RowKit Go.Proofs.YtcoekgnbncocnaaDoorW.PrintWords Go.Proofs.YtcoekgnbncocnaaDoorW.PrintLast Go.Proofs.YtcoekgnbncocnaaDoorW.PrintMore Go.Proofs.YtcoekgnbncocnaaDoor.DN Go.Proofs.YtcoekgnbncocnaaDoor.Pa
set_option linter.unusedVariables false
set_option linter.unusedSimpArgs false

theorem wbt (c : UInt8) : wrap64 ((c.toNat : Nat) : Int) = ((c.toNat : Nat) : Int) := by have := c.toNat_lt; exact wrap_id (by omega) (by omega)
theorem wm {n : Nat} (h : n * 256 < 9223372036854775807) : wrap64 ((n : Int) * 256) = ((n * 256 : Nat) : Int) := by rw [wrap_id (by omega) (by omega)]; omega
def foldN (l : List UInt8) (n : Nat) : Nat := l.foldl (fun n b => n * 256 + b.toNat) n
theorem dropN {α : Type} {l : List α} {i : Nat} (h : i < l.length) : l.drop i = l[i] :: l.drop (i + 1) := by rw [List.drop_eq_getElem_cons h]
end Go.Proofs.YtcoekgnbncocnaaDoor.ADR

