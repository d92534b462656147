/- Labels: the plain laws. No program in sight. -/
import Derived.Test.YtpkllbnaoiggkaaDoorBase
import Derived.Laws.BitsAllLaws
namespace Go.Proofs.YtpkllbnaoiggkaaDoor
open Go.RowKit

/-- A label: its level, its parts. -/
abbrev Lab := Int × Nat
def mayL (a : Lab) : Bool := decide (0 ≤ a.1 ∧ a.1 ≤ 7)
def subN (a b : Nat) : Prop := ∀ i, a.testBit i = true → b.testBit i = true

theorem bit_lt {a i : Nat} (ha : a < 4294967296) (hi : a.testBit i = true) : i < 32 := by
  rcases Nat.lt_or_ge i 32 with h | h
  · exact h
  · have h2 : (2 : Nat) ^ 32 ≤ 2 ^ i := Nat.pow_le_pow_right (by decide) h
    have := Nat.testBit_lt_two_pow (x := a) (i := i) (Nat.lt_of_lt_of_le ha h2)
    rw [this] at hi; cases hi

theorem andNot_zero (a b : Nat) (ha : a < 4294967296) (hb : b < 4294967296) : bits BinOp.andNot IntKind.u32 (a : Int) (b : Int) = 0 ↔ subN a b := by
  rw [u32_andNot_nat a b ha hb]
  have hnot : ∀ i, (4294967295 - b).testBit i = (decide (i < 32) && !b.testBit i) := fun i => by
    have := Nat.testBit_two_pow_sub_succ (n := 32) hb i
    rw [show 2 ^ 32 - (b + 1) = 4294967295 - b by omega] at this
    exact this
  constructor
  · intro h i hi
    have h0 : a &&& (4294967295 - b) = 0 := by exact_mod_cast h
    have h1 : (a &&& (4294967295 - b)).testBit i = false := by rw [h0, Nat.zero_testBit]
    rw [Nat.testBit_and, hi, hnot i, Bool.true_and] at h1
    have hlt := bit_lt ha hi
    simp [hlt] at h1
    exact h1
  · intro h
    have : a &&& (4294967295 - b) = 0 := by
      apply Nat.eq_of_testBit_eq
      intro i
      rw [Nat.zero_testBit, Nat.testBit_and, hnot i]
      by_cases ha1 : a.testBit i = true
      · rw [ha1, h i ha1]; simp
      · simp at ha1; rw [ha1]; rfl
    exact_mod_cast this

/-- Flows. -/
noncomputable def flowsL (a b : Lab) : Bool := by
  classical exact decide (mayL a = true ∧ mayL b = true ∧ a.1 ≤ b.1 ∧ subN a.2 b.2)
theorem flowsL_iff (a b : Lab) : flowsL a b = true ↔ mayL a = true ∧ mayL b = true ∧ a.1 ≤ b.1 ∧ subN a.2 b.2 := by
  unfold flowsL; simp only [decide_eq_true_eq]

def joinFold : List Lab → Lab → Lab
  | [], o => o
  | x :: l, o => joinFold l (max o.1 x.1, o.2 ||| x.2)
def joinL (l : List Lab) : Lab := if l.all mayL = true then joinFold l (0, 0) else (0, 0)
def meetL (a b : Lab) : Lab := if mayL a = true ∧ mayL b = true then (min a.1 b.1, a.2 &&& b.2) else (0, 0)

theorem subN_refl (a : Nat) : subN a a := fun _ h => h
theorem subN_trans {a b c : Nat} (h : subN a b) (k : subN b c) : subN a c := fun i hi => k i (h i hi)
theorem subN_anti {a b : Nat} (h : subN a b) (k : subN b a) : a = b := by
  apply Nat.eq_of_testBit_eq
  intro i
  rw [Bool.eq_iff_iff]
  exact ⟨h i, k i⟩
theorem subN_zero (a : Nat) : subN 0 a := fun i hi => by rw [Nat.zero_testBit] at hi; cases hi
theorem subN_top (a : Nat) (ha : a < 4294967296) : subN a 4294967295 := fun i hi => by
  have hlt := bit_lt ha hi
  rw [show (4294967295 : Nat) = 2 ^ 32 - 1 by rfl, Nat.testBit_two_pow_sub_one]; simpa using hlt
theorem subN_or_left (a b : Nat) : subN a (a ||| b) := fun i hi => by rw [Nat.testBit_or, hi]; rfl
theorem subN_or_right (a b : Nat) : subN b (a ||| b) := fun i hi => by rw [Nat.testBit_or, hi]; simp
theorem subN_or (a b c : Nat) : subN (a ||| b) c ↔ subN a c ∧ subN b c := by
  constructor
  · intro h; exact ⟨subN_trans (subN_or_left a b) h, subN_trans (subN_or_right a b) h⟩
  · intro ⟨h, k⟩ i hi
    rw [Nat.testBit_or, Bool.or_eq_true] at hi
    exact hi.elim (h i) (k i)
theorem subN_and_left (a b : Nat) : subN (a &&& b) a := fun i hi => by rw [Nat.testBit_and, Bool.and_eq_true] at hi; exact hi.1
theorem subN_and_right (a b : Nat) : subN (a &&& b) b := fun i hi => by rw [Nat.testBit_and, Bool.and_eq_true] at hi; exact hi.2
theorem subN_and (a b c : Nat) : subN c (a &&& b) ↔ subN c a ∧ subN c b := by
  constructor
  · intro h; exact ⟨subN_trans h (subN_and_left a b), subN_trans h (subN_and_right a b)⟩
  · intro ⟨h, k⟩ i hi
    rw [Nat.testBit_and, h i hi, k i hi]; rfl
theorem subN_or_eq (a b : Nat) : subN a b ↔ a ||| b = b := by
  constructor
  · intro h; exact subN_anti ((subN_or a b b).2 ⟨h, subN_refl b⟩) (subN_or_right a b)
  · intro h; rw [← h]; exact subN_or_left a b
theorem subN_and_eq (a b : Nat) : subN a b ↔ a &&& b = a := by
  constructor
  · intro h; exact subN_anti (subN_and_left a b) ((subN_and a b a).2 ⟨subN_refl a, h⟩)
  · intro h; rw [← h]; exact subN_and_right a b
theorem or_lt {a b : Nat} (ha : a < 4294967296) (hb : b < 4294967296) : a ||| b < 4294967296 := Nat.or_lt_two_pow (n := 32) ha hb
theorem and_lt {a b : Nat} (ha : a < 4294967296) : a &&& b < 4294967296 := Nat.lt_of_le_of_lt Nat.and_le_left ha

end Go.Proofs.YtpkllbnaoiggkaaDoor
