/- The plain law of an agent's window: which numbers came, by its bits. No program in sight. -/
import Derived.Test.YtpgilkemcaipiaaAgB
namespace Go.Proofs.Ytpgilkemcaipiaa
open Go.RowKit

/-- Number s came, as a window tells. -/
def Came (v : Win) (s : Int) : Prop := s ≤ v.H ∧ v.H - s < 32 ∧ v.B.toNat.testBit (v.H - s).toNat = true

instance (v : Win) (s : Int) : Decidable (Came v s) := by unfold Came; infer_instance

theorem wraps_u32 (n : Int) (h₀ : 0 ≤ n) (h₁ : n < 2 ^ 32) : IntKind.u32.wrap n = n := by rw [IntKind.wrap_u32]; omega

theorem and_one_u32 (x : Int) (h0 : 0 ≤ x) (h1 : x < 4294967296) : bits BinOp.and IntKind.u32 x 1 = x % 2 := by
  have := bits_mask .u32 32 (by decide) wraps_u32 1 (by decide) x h0 (by simpa using h1)
  simpa using this

theorem div_pow_le (x : Int) (k : Nat) (h0 : 0 ≤ x) (h1 : x < 4294967296) : 0 ≤ x / 2 ^ k ∧ x / 2 ^ k < 4294967296 := by
  have hp : (0 : Int) < 2 ^ k := Int.pow_pos (by decide)
  refine ⟨Int.ediv_nonneg h0 (Int.le_of_lt hp), ?_⟩
  exact Int.lt_of_le_of_lt (Int.ediv_le_self _ h0) h1

theorem bit_iff (x : Int) (k : Nat) (h0 : 0 ≤ x) (h1 : x < 4294967296) : ((bits BinOp.and IntKind.u32 (x / 2 ^ k) 1 == 1) = true) ↔ x.toNat.testBit k = true := by
  obtain ⟨a, b⟩ := div_pow_le x k h0 h1
  rw [and_one_u32 _ a b, beq_iff_eq, Nat.testBit_eq_decide_div_mod_eq, decide_eq_true_eq]
  obtain ⟨n, rfl⟩ := Int.eq_ofNat_of_zero_le h0
  rw [Int.toNat_natCast]
  have : ((n : Int) / 2 ^ k % 2) = ((n / 2 ^ k % 2 : Nat) : Int) := by simp
  rw [this]
  omega

theorem what_is (v : Win) (hv : WinOk v) (s : Int) : whatI v.H v.B s = if 32 ≤ v.H - s then 2 else if Came v s then 1 else 0 := by
  obtain ⟨h1, h2, h3, h4⟩ := hv
  unfold whatI
  by_cases a : v.H - s < 0
  · rw [if_pos a, if_neg (by omega), if_neg (by unfold Came; omega)]
  · rw [if_neg a]
    by_cases b : 32 ≤ v.H - s
    · rw [if_pos b, if_pos b]
    · rw [if_neg b, if_neg b]
      have hb := bit_iff v.B (v.H - s).toNat h3 h4
      by_cases c : v.B.toNat.testBit (v.H - s).toNat = true
      · rw [if_pos (hb.2 c), if_pos ⟨by omega, by omega, c⟩]
      · rw [if_neg (fun h => c (hb.1 h)), if_neg (fun h => c h.2.2)]

theorem or_u32_bd (a b : Int) : 0 ≤ bits BinOp.or IntKind.u32 a b ∧ bits BinOp.or IntKind.u32 a b < 4294967296 := by
  have h1 := bits_lo_u32 .or a b
  have h2 := bits_hi_u32 .or a b
  omega

theorem done_H (v : Win) (a s : Int) : (doneW v a s).H = max v.H s := by
  unfold doneW; split <;> simp <;> omega
theorem done_ok (v : Win) (hv : WinOk v) (a s : Int) (h1 : 1 ≤ s) (h2 : s ≤ 9007199254740991) : WinOk (doneW v a s) := by
  obtain ⟨a1, a2, a3, a4⟩ := hv
  unfold doneW; split
  · exact ⟨by simp; omega, by simp; omega, (or_u32_bd _ _).1, (or_u32_bd _ _).2⟩
  · exact ⟨by simp; omega, by simp; omega, (or_u32_bd _ _).1, (or_u32_bd _ _).2⟩

theorem shl32_nat (b m : Nat) : shl32 (b : Int) (m : Int) = ((b * 2 ^ min m 32 % 2 ^ 32 : Nat) : Int) := by
  unfold shl32
  rw [IntKind.wrap_u32, Int.toNat_natCast]
  simp

theorem done_came (v : Win) (hv : WinOk v) (a s : Int) (hw : whatI v.H v.B s = 0) (x : Int) : Came (doneW v a s) x ↔ (x = s ∨ Came v x) ∧ (doneW v a s).H - x < 32 := by
  have hH := done_H v a s
  rw [what_is v hv] at hw
  obtain ⟨h1, h2, h3, h4⟩ := hv
  obtain ⟨b, hb⟩ := Int.eq_ofNat_of_zero_le h3
  have hb32 : b < 4294967296 := by omega
  have hlow : v.H - s < 32 := by
    rcases Int.lt_or_le (v.H - s) 32 with h | h
    · exact h
    · rw [if_pos h] at hw; cases hw
  unfold Came
  by_cases hup : 0 < s - v.H
  · have eB : (doneW v a s).B.toNat = (b * 2 ^ min (s - v.H).toNat 32 % 2 ^ 32) ||| 1 := by
      unfold doneW
      rw [if_pos hup]
      obtain ⟨m, hm⟩ := Int.eq_ofNat_of_zero_le (show 0 ≤ s - v.H by omega)
      simp only [hb, hm, shl32_nat, Int.toNat_natCast]
      have := u32_or_nat (b * 2 ^ min m 32 % 2 ^ 32) 1 (Nat.mod_lt _ (by decide)) (by decide)
      simp only [Int.natCast_one] at this
      rw [this, Int.toNat_natCast]
    rw [eB, hb, Int.toNat_natCast, hH]
    rw [show max v.H s = s by omega]
    constructor
    · rintro ⟨hx, hlt, ht⟩
      refine ⟨?_, hlt⟩
      by_cases e : x = s
      · exact .inl e
      · right
        rw [Nat.testBit_or, Nat.testBit_mod_two_pow, Nat.testBit_mul_two_pow] at ht
        have hk : (s - x).toNat ≠ 0 := by omega
        have h1b : Nat.testBit 1 (s - x).toNat = false := by
          rw [Nat.testBit_eq_decide_div_mod_eq]
          have : 1 / 2 ^ (s - x).toNat = 0 := Nat.div_eq_of_lt (by
            have := Nat.pow_lt_pow_right (a := 2) (by decide) (show 0 < (s - x).toNat by omega)
            simpa using this)
          rw [this]; rfl
        rw [h1b] at ht
        simp only [Bool.or_false, Bool.and_eq_true, decide_eq_true_eq] at ht
        obtain ⟨_, hm, htb⟩ := ht
        have hmin : min (s - v.H).toNat 32 = (s - v.H).toNat := by omega
        rw [hmin] at htb hm
        refine ⟨by omega, by omega, ?_⟩
        rw [show (v.H - x).toNat = (s - x).toNat - (s - v.H).toNat by omega]
        exact htb
    · rintro ⟨hx, hlt⟩
      rcases hx with rfl | ⟨hx, hx2, ht⟩
      · refine ⟨by omega, hlt, ?_⟩
        rw [show (x - x).toNat = 0 by omega, Nat.testBit_or]
        simp
      · refine ⟨by omega, hlt, ?_⟩
        rw [Nat.testBit_or, Nat.testBit_mod_two_pow, Nat.testBit_mul_two_pow]
        have hmin : min (s - v.H).toNat 32 = (s - v.H).toNat := by omega
        rw [hmin, show (s - x).toNat - (s - v.H).toNat = (v.H - x).toNat by omega, ht]
        simp
        exact .inl ⟨by omega, by omega⟩
  · have eB : (doneW v a s).B.toNat = b ||| (2 ^ (v.H - s).toNat) := by
      unfold doneW
      rw [if_neg hup]
      obtain ⟨m, hm⟩ := Int.eq_ofNat_of_zero_le (show 0 ≤ v.H - s by omega)
      have h1 := shl32_nat 1 m
      simp only [Int.natCast_one] at h1
      simp only [hb, hm, h1, Int.toNat_natCast]
      have hp : 2 ^ m < 2 ^ 32 := Nat.pow_lt_pow_right (by decide) (by omega)
      rw [show min m 32 = m by omega, Nat.one_mul, Nat.mod_eq_of_lt hp, u32_or_nat b _ hb32 hp, Int.toNat_natCast]
    rw [eB, hb, Int.toNat_natCast, hH]
    rw [show max v.H s = v.H by omega]
    constructor
    · rintro ⟨hx, hlt, ht⟩
      refine ⟨?_, hlt⟩
      by_cases e : x = s
      · exact .inl e
      · right
        rw [Nat.testBit_or, Nat.testBit_two_pow] at ht
        have : (decide ((v.H - s).toNat = (v.H - x).toNat)) = false := decide_eq_false (by omega)
        rw [this, Bool.or_false] at ht
        exact ⟨hx, hlt, ht⟩
    · rintro ⟨hx, hlt⟩
      rcases hx with rfl | ⟨hx, hx2, ht⟩
      · refine ⟨by omega, hlt, ?_⟩
        rw [Nat.testBit_or, Nat.testBit_two_pow]; simp
      · refine ⟨by omega, hlt, ?_⟩
        rw [Nat.testBit_or, ht]; rfl

theorem doneV_ok (v : Win) (hv : WinOk v) (a s : Int) (h1 : 1 ≤ s) (h2 : s ≤ 9007199254740991) : WinOk (doneV v a s) := by
  unfold doneV; split
  · exact done_ok v hv a s h1 h2
  · exact hv

end Go.Proofs.Ytpgilkemcaipiaa
