/- Bits: majority and choice by 'or', zero of 'xor' and 'or'. No program in sight. -/
import Derived.Test.YtppbaahaegmgeaaBase
import Derived.Laws.BitsLemmas
import Derived.Laws.BitsAllLaws
namespace Go.Proofs.Ytppbaahaegmgeaa
open Go.RowKit

theorem wraps_i63 (n : Int) (h₀ : 0 ≤ n) (h₁ : n < 2 ^ 63) : IntKind.i64.wrap n = n := by rw [IntKind.wrap_i64]; omega

theorem bv_bits (x y : Int) : bits .and .u32 x y = (BitVec.ofInt 32 x &&& BitVec.ofInt 32 y).toNat ∧ bits .or .u32 x y = (BitVec.ofInt 32 x ||| BitVec.ofInt 32 y).toNat ∧ bits .xor .u32 x y = (BitVec.ofInt 32 x ^^^ BitVec.ofInt 32 y).toNat := by
  have h : ∀ b : BitVec 32, IntKind.u32.wrap (b.toNat : Int) = b.toNat := fun b => by
    have := b.isLt
    rw [IntKind.wrap_u32]; omega
  exact ⟨h _, h _, h _⟩
theorem of_nat (b : BitVec 32) : BitVec.ofInt 32 (b.toNat : Int) = b := by
  apply BitVec.eq_of_toNat_eq
  have := b.isLt
  simp
theorem maj_or (a b c : Int) : bits .or .u32 (bits .or .u32 (bits .and .u32 a b) (bits .and .u32 a c)) (bits .and .u32 b c) = bits .xor .u32 (bits .xor .u32 (bits .and .u32 a b) (bits .and .u32 a c)) (bits .and .u32 b c) := by
  simp only [(bv_bits _ _).1, (bv_bits _ _).2.1, (bv_bits _ _).2.2, of_nat]
  generalize BitVec.ofInt 32 a = A
  generalize BitVec.ofInt 32 b = B
  generalize BitVec.ofInt 32 c = C
  congr 2
  ext i hi
  simp
  cases A[i] <;> cases B[i] <;> cases C[i] <;> rfl
theorem ch_or (e f g : Int) : bits .or .u32 (bits .and .u32 e f) (bits .and .u32 (bits .xor .u32 4294967295 e) g) = bits .xor .u32 g (bits .and .u32 e (bits .xor .u32 f g)) := by
  simp only [(bv_bits _ _).1, (bv_bits _ _).2.1, (bv_bits _ _).2.2, of_nat]
  generalize BitVec.ofInt 32 e = A
  generalize BitVec.ofInt 32 f = B
  generalize BitVec.ofInt 32 g = C
  rw [show BitVec.ofInt 32 4294967295 = BitVec.allOnes 32 by decide, BitVec.allOnes_xor]
  congr 2
  ext i hi
  simp
  cases A[i] <;> cases B[i] <;> cases C[i] <;> rfl
theorem or_comm32 (a b : Int) : bits .or .u32 a b = bits .or .u32 b a := by
  simp only [(bv_bits _ _).2.1, BitVec.or_comm]
theorem xor_u8_zero (x y : Int) (hx : 0 ≤ x ∧ x ≤ 255) (hy : 0 ≤ y ∧ y ≤ 255) : bits .xor .u8 x y = 0 ↔ x = y := by
  have h : ∀ b : BitVec 8, IntKind.u8.wrap (b.toNat : Int) = b.toNat := fun b => by
    have := b.isLt
    rw [IntKind.wrap_u8]; omega
  have e : bits .xor .u8 x y = (BitVec.ofInt 8 x ^^^ BitVec.ofInt 8 y).toNat := h _
  rw [e]
  constructor
  · intro h0
    have h1 : BitVec.ofInt 8 x ^^^ BitVec.ofInt 8 y = 0#8 := BitVec.eq_of_toNat_eq (by simpa using h0)
    have h2 : BitVec.ofInt 8 x = BitVec.ofInt 8 y := by
      have := congrArg (· ^^^ BitVec.ofInt 8 y) h1
      simpa [BitVec.xor_assoc] using this
    have h3 := congrArg BitVec.toNat h2
    simp only [BitVec.toNat_ofInt] at h3
    omega
  · rintro rfl
    simp
theorem or_i64_zero (x y : Nat) (hx : x < 9223372036854775808) (hy : y < 9223372036854775808) : ∃ z : Nat, bits .or .i64 (x : Int) (y : Int) = (z : Int) ∧ z < 9223372036854775808 ∧ (z = 0 ↔ x = 0 ∧ y = 0) := by
  have e : (2 : Nat) ^ 63 = 9223372036854775808 := by decide
  exact ⟨x ||| y, (bits_nat .i64 63 (by decide) wraps_i63 x y (by rw [e]; exact hx) (by rw [e]; exact hy)).2, by rw [← e]; exact Nat.or_lt_two_pow (by rw [e]; exact hx) (by rw [e]; exact hy), Nat.or_eq_zero_iff⟩
theorem xor_i64_zero (x y : Nat) (hx : x < 9223372036854775808) (hy : y < 9223372036854775808) : ∃ z : Nat, bits .xor .i64 (x : Int) (y : Int) = (z : Int) ∧ z < 9223372036854775808 ∧ (z = 0 ↔ x = y) := by
  have e : (2 : Nat) ^ 63 = 9223372036854775808 := by decide
  have hl : x ^^^ y < 2 ^ 63 := Nat.xor_lt_two_pow (by rw [e]; exact hx) (by rw [e]; exact hy)
  refine ⟨x ^^^ y, ?_, by rw [← e]; exact hl, ?_⟩
  · unfold bits
    simp only
    rw [wraps_i63 _ (by omega)]
    · congr 1
      simp only [BitVec.toNat_xor, BitVec.toNat_ofInt]
      show (((x : Int) % ((2 ^ IntKind.i64.bits : Nat) : Int)).toNat ^^^ ((y : Int) % ((2 ^ IntKind.i64.bits : Nat) : Int)).toNat) = _
      rw [show IntKind.i64.bits = 64 from rfl]
      congr 1 <;> omega
    · simp only [BitVec.toNat_xor, BitVec.toNat_ofInt]
      show (((((x : Int) % ((2 ^ IntKind.i64.bits : Nat) : Int)).toNat ^^^ ((y : Int) % ((2 ^ IntKind.i64.bits : Nat) : Int)).toNat : Nat)) : Int) < _
      rw [show IntKind.i64.bits = 64 from rfl, show ((x : Int) % ((2 ^ 64 : Nat) : Int)).toNat = x by omega, show ((y : Int) % ((2 ^ 64 : Nat) : Int)).toNat = y by omega]
      exact_mod_cast hl
  · constructor
    · intro h
      have := congrArg (· ^^^ y) h
      simpa [Nat.xor_assoc] using this
    · rintro rfl
      exact Nat.xor_self x

end Go.Proofs.Ytppbaahaegmgeaa
