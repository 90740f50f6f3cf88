/- The plain statement of the law OptionParts. -/
import Derived.Test.YtkojlapefmcjnaaDoorSame
import Derived.Test.YtkojlapefmcjnaaDoorPax23
namespace Go.Proofs.YtkojlapefmcjnaaDoor.Pa
open Go Go.RowKit Go.Proofs.YtkojlapefmcjnaaDoorW.PrintWords Go.Proofs.YtkojlapefmcjnaaDoor.DN Go.Proofs.YtkojlapefmcjnaaDoor.OPT
set_option linter.unusedVariables false
set_option linter.unusedSimpArgs false
theorem two_num (a b : Int) : L (strOfNums [a, b]) = [UInt8.ofNat a.toNat, UInt8.ofNat b.toNat] := by simp [strOfNums, L]
theorem parts_dec (v : List UInt8) (a : Nat) (ha : a ≤ 255) (h1 : a ≤ v.length) (h2 : v.length - a ≤ 255) :
    dec [] (7 :: UInt8.ofNat a :: (v.take a ++ (8 :: 1 :: 120 :: 0 :: 7 :: UInt8.ofNat (v.length - a) :: (v.drop a ++ [255])))) = ([(7, v), (8, [120])], 0) := by
  have e7 : ((UInt8.toNat 7 : Nat) : Int) = 7 := rfl
  have e8 : ((UInt8.toNat 8 : Nat) : Int) = 8 := rfl
  have e1 : UInt8.toNat 1 = 1 := rfl
  have t1 : (v.take a).length = a := by rw [List.length_take]; omega
  have t2 : (v.drop a).length = v.length - a := by rw [List.length_drop]
  have n1 : no [(7, v.take a)] := ⟨by simp, by simp only [sz]; omega, by intro o ho; rw [List.mem_singleton] at ho; subst ho; show (v.take a).length ≤ 1024; omega⟩
  have n2 : no [(7, v.take a), (8, [120])] := ⟨by simp, by simp only [sz, List.length_cons, List.length_nil]; omega, by
    intro o ho; simp only [List.mem_cons, List.not_mem_nil, or_false] at ho
    rcases ho with rfl | rfl
    · show (v.take a).length ≤ 1024; omega
    · decide⟩
  have n3 : no [(7, v), (8, [120])] := ⟨by simp, by simp only [sz, List.length_cons, List.length_nil]; omega, by
    intro o ho; simp only [List.mem_cons, List.not_mem_nil, or_false] at ho
    rcases ho with rfl | rfl
    · show v.length ≤ 1024; omega
    · decide⟩
  rw [dec_part _ _ (by decide) (by decide), len_byte ha, if_neg (by rw [List.length_append, t1]; omega), List.take_left' t1, List.drop_left' t1, e7]
  rw [show ad [] 7 (v.take a) = [(7, v.take a)] from rfl, if_pos n1]
  rw [dec_part _ _ (by decide) (by decide), e1, if_neg (by simp), e8]
  rw [show ad [(7, v.take a)] 8 (List.take 1 (120 :: 0 :: 7 :: UInt8.ofNat (v.length - a) :: (v.drop a ++ [255]))) = [(7, v.take a), (8, [120])] by simp [ad], if_pos n2]
  rw [show List.drop 1 (120 :: 0 :: 7 :: UInt8.ofNat (v.length - a) :: (v.drop a ++ [255])) = 0 :: 7 :: UInt8.ofNat (v.length - a) :: (v.drop a ++ [255]) from rfl, dec_zero]
  rw [dec_part _ _ (by decide) (by decide), len_byte h2, if_neg (by rw [List.length_append, t2]; omega), List.take_left' t2, List.drop_left' t2, e7]
  rw [show ad [(7, v.take a), (8, [120])] 7 (v.drop a) = [(7, v), (8, [120])] by simp [ad], if_pos n3, dec_end]
  simp
theorem OptionParts_pure (s : ByteArray) (a : Int) (hs : s.size ≤ 140737488351232) (h0 : 0 ≤ a) (h1 : a ≤ 255) : ∃ k, ddilaw35_OptionParts.f k s a = some true := by
  refine ⟨100001, ?_⟩
  unfold ddilaw35_OptionParts.f
  rw [wrap_id (x := a) (by omega) (by omega)]
  by_cases c1 : a > (s.size : Int)
  · rw [if_pos c1, ddilaw35_OptionParts.j0, if_pos rfl, awake_f _ (by decide)]; rfl
  rw [if_neg c1, show wrap64 ((s.size : Int) - a) = (s.size : Int) - a from wrap_id (by omega) (by omega)]
  by_cases c2 : (s.size : Int) - a > 255
  · rw [decide_eq_true c2, ddilaw35_OptionParts.j0, if_pos rfl, awake_f _ (by decide)]; rfl
  rw [decide_eq_false c2, ddilaw35_OptionParts.j0, if_neg (by decide), Option.bind_some]
  obtain ⟨n, rfl⟩ : ∃ n : Nat, a = (n : Int) := ⟨a.toNat, by omega⟩
  have z1 : (strOfNums [7, (n : Int) % 256]).size = 2 := by rw [← L_len, two_num]; rfl
  have z2 : ∀ x : Int, (strOfNums [7, x]).size = 2 := fun x => by rw [← L_len, two_num]; rfl
  have z3 : (s.extract 0 n).size = n := by rw [ByteArray.size_extract]; omega
  have z4 : (s.extract n s.size).size = s.size - n := by rw [ByteArray.size_extract]; omega
  have z5 : (⟨#[8, 1, 120, 0]⟩ : ByteArray).size = 4 := rfl
  have z6 : (⟨#[255]⟩ : ByteArray).size = 1 := rfl
  rw [show wrap64 ((s.size : Int) - (n : Int)) = (s.size : Int) - (n : Int) from wrap_id (by omega) (by omega), Int.toNat_natCast]
  rw [if_pos (by omega), if_pos (by omega), if_pos (by omega), if_pos (by simp only [ByteArray.size_append, z2, z3, z4, z5, z6]; omega), Option.bind_some,
    if_pos (by simp only [ByteArray.size_append, z2, z3, z4, z5, z6]; omega), if_pos (by simp only [ByteArray.size_append, z2, z3, z4, z5, z6]; omega),
    if_pos (by simp only [ByteArray.size_append, z2, z3, z4, z5, z6]; omega)]
  rw [dec_f _ (by simp only [ByteArray.size_append, z2, z3, z4, z5, z6]; omega) _ (by simp only [ByteArray.size_append, z2, z3, z4, z5, z6]; omega), Option.bind_some]
  have hL : L (((((strOfNums [7, (n : Int) % 256]) ++ (s.extract 0 n)) ++ (⟨#[8, 1, 120, 0]⟩ : ByteArray)) ++ (strOfNums [7, ((s.size : Int) - (n : Int)) % 256])) ++ (s.extract n s.size) ++ (⟨#[255]⟩ : ByteArray))
      = 7 :: UInt8.ofNat n :: ((L s).take n ++ (8 :: 1 :: 120 :: 0 :: 7 :: UInt8.ofNat ((L s).length - n) :: ((L s).drop n ++ [255]))) := by
    rw [L_append, L_append, L_append, L_append, L_append, two_num, two_num, L_extract, L_extract, List.drop_zero, Nat.sub_zero, List.take_of_length_le (i := s.size - n) (by rw [List.length_drop, L_len]; omega), L_len,
      show ((n : Int) % 256).toNat = n by omega, show (((s.size : Int) - (n : Int)) % 256).toNat = s.size - n by omega]
    simp [L]
  have hd := parts_dec (L s) n (by omega) (by rw [L_len]; omega) (by rw [L_len]; omega)
  rw [hL, hd]
  have hu : un [((7 : Int), L s), (8, [120])] = [(⟨7, s⟩ : S34), (⟨8, (⟨#[120]⟩ : ByteArray)⟩ : S34)] := by simp [un]; rfl
  dsimp only
  rw [if_pos rfl, hu, same_f _ (by simp) _ (by simp), Option.bind_some, if_pos rfl, awake_f _ (by decide)]
  rfl
end Go.Proofs.YtkojlapefmcjnaaDoor.Pa
namespace Go.Proofs.YtkojlapefmcjnaaDoor.Pure
open Go Go.RowKit Go.Proofs.YtkojlapefmcjnaaDoor.Pa
theorem OptionParts : ∀ (a0 : ByteArray) (a1 : Int), a0.size ≤ 140737488351232 → (Lit.int .u8 a1).wf = true → ∃ k, ddilaw35_OptionParts.f k a0 a1 = some true := fun s a h hw => by
  have hb : 0 ≤ a ∧ a ≤ 255 := by
    have e1 : IntKind.u8.min = 0 := rfl
    have e2 : IntKind.u8.max = 255 := rfl
    simp [Lit.wf, e1, e2] at hw
    omega
  exact OptionParts_pure s a h hb.1 hb.2
end Go.Proofs.YtkojlapefmcjnaaDoor.Pure
