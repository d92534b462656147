/- MaskBack: the walk. -/
import Derived.Test.YtppbaahaegmgeaaMkM
import Derived.Test.YtppbaahaegmgeaaMkN
import Derived.Test.YtppbaahaegmgeaaEqb
namespace Go.Proofs.Ytppbaahaegmgeaa
open Go.RowKit

theorem xor_twice (a s : Int) (ha : 0 ≤ a ∧ a ≤ 255) : bits BinOp.xor IntKind.u8 (bits BinOp.xor IntKind.u8 a s) s = a := by
  obtain ⟨x, rfl⟩ := Int.eq_ofNat_of_zero_le ha.1
  have hb : ∀ y : Int, bits BinOp.xor IntKind.u8 y s = ((BitVec.ofInt 8 y ^^^ BitVec.ofInt 8 s).toNat : Int) := fun y => by
    show IntKind.u8.wrap ((BitVec.ofInt 8 y ^^^ BitVec.ofInt 8 s).toNat : Int) = _
    rw [IntKind.wrap_u8']
    have := (BitVec.ofInt 8 y ^^^ BitVec.ofInt 8 s).isLt
    omega
  rw [hb, hb]
  have h1 : BitVec.ofInt 8 (((BitVec.ofInt 8 (x : Int) ^^^ BitVec.ofInt 8 s).toNat : Nat) : Int) = BitVec.ofInt 8 (x : Int) ^^^ BitVec.ofInt 8 s := by
    rw [BitVec.ofInt_natCast, BitVec.ofNat_toNat]; simp
  rw [h1, BitVec.xor_assoc, BitVec.xor_self, BitVec.xor_zero, ofInt_u8 x (by omega)]
theorem xorB_twice (xs : List Int) (S : Nat → Int) (hr : Rng xs) : xorB (xorB xs S) S = xs := by
  apply List.ext_getElem?
  intro i
  unfold xorB
  rw [List.getElem?_map]
  by_cases h : i < xs.length
  · rw [List.getElem?_range (by simpa using h), List.getElem?_eq_getElem h]
    have h1 : (((List.range xs.length).map fun i => bits .xor .u8 (xs.getD i 0) (S i)).getD i 0) = bits .xor .u8 (xs.getD i 0) (S i) := by
      rw [List.getD_eq_getElem?_getD, List.getElem?_map, List.getElem?_range h]; rfl
    have h2 : xs.getD i 0 = xs[i] := by rw [List.getD_eq_getElem?_getD, List.getElem?_eq_getElem h]; rfl
    simp only [Option.map_some, Option.some.injEq]
    rw [h1, h2]
    exact xor_twice _ _ (hr _ (List.getElem_mem h))
  · rw [List.getElem?_eq_none (by simpa using h), List.getElem?_eq_none (by omega)]; rfl
theorem outL_twice (G : Nat → Int) (X xs : List Int) (hr : Rng xs) : outL G X (outL G X xs) = xs := xorB_twice xs _ hr
theorem outL_len (G : Nat → Int) (X xs : List Int) : (outL G X xs).length = xs.length := xorB_len _ _
theorem sealL_take (G : Nat → Int) (X xs : List Int) : (sealL G X xs).take xs.length = outL G X xs := by
  unfold sealL
  rw [← outL_len G X xs, List.take_left]
theorem sealL_drop (G : Nat → Int) (X xs : List Int) : (sealL G X xs).drop xs.length = tagL G X (outL G X xs) := by
  unfold sealL
  rw [← outL_len G X xs, List.drop_left]
theorem sealL_len (G : Nat → Int) (X xs : List Int) : (sealL G X xs).length = xs.length + 16 := by
  unfold sealL
  rw [List.length_append, outL_len, tagL_len]
theorem sealL_rng (G : Nat → Int) (X xs : List Int) : Rng (sealL G X xs) := (xorB_rng _ _).app (tagL_rng _ _ _)
theorem signL_take (G : Nat → Int) (xs : List Int) : (xs ++ macL G 3 xs).take xs.length = xs := List.take_left
theorem signL_drop (G : Nat → Int) (xs : List Int) : (xs ++ macL G 3 xs).drop xs.length = macL G 3 xs := List.drop_left

end Go.Proofs.Ytppbaahaegmgeaa
