/- The document's roots: digits to the base 2^16, in plain words. No program in sight. -/
import Derived.Test.YtclfmgkomkmbjaaDoorKnD
namespace Go.Proofs.YtclfmgkomkmbjaaDoor
open Go.RowKit

/-- The value of n digits to the base 2^16. -/
def val : Nat → (Nat → Nat) → Nat
  | 0, _ => 0
  | n + 1, f => val n f + f n * 65536 ^ n
def bump (f : Nat → Nat) (j v : Nat) : Nat → Nat := fun k => if k = j then f k + v else f k
def setN (f : Nat → Nat) (j v : Nat) : Nat → Nat := fun k => if k = j then v else f k

theorem val_congr {f g : Nat → Nat} : ∀ n, (∀ k, k < n → f k = g k) → val n f = val n g
  | 0, _ => rfl
  | n + 1, h => by unfold val; rw [val_congr n (fun k hk => h k (by omega)), h n (by omega)]
theorem val_bump (f : Nat → Nat) (j v : Nat) : ∀ n, j < n → val n (bump f j v) = val n f + v * 65536 ^ j
  | 0, h => by omega
  | n + 1, h => by
    unfold val
    by_cases e : j = n
    · subst e
      rw [val_congr j (g := f) (fun k hk => by unfold bump; rw [if_neg (by omega)])]
      have : bump f j v j = f j + v := by unfold bump; rw [if_pos rfl]
      rw [this, Nat.add_mul]; omega
    · rw [val_bump f j v n (by omega)]
      have : bump f j v n = f n := by unfold bump; rw [if_neg (by omega)]
      rw [this]; omega
theorem val_zero (n : Nat) : val n (fun _ => 0) = 0 := by
  induction n with
  | zero => rfl
  | succ n ih => unfold val; rw [ih]; simp
theorem val_lt {f : Nat → Nat} : ∀ n, (∀ k, k < n → f k < 65536) → val n f < 65536 ^ n
  | 0, _ => by simp [val]
  | n + 1, h => by
    unfold val
    have h1 := val_lt n (fun k hk => h k (by omega))
    have h2 := h n (by omega)
    have h3 : f n * 65536 ^ n ≤ 65535 * 65536 ^ n := Nat.mul_le_mul_right _ (by omega)
    rw [Nat.pow_succ]
    omega
/-- Digits that are the same above, and differ at i. -/
theorem val_cmp {f g : Nat → Nat} {i : Nat} (hf : ∀ k, f k < 65536) (hi : f i < g i) : ∀ n, i < n → (∀ k, i < k → k < n → f k = g k) → val n f < val n g
  | 0, h, _ => by omega
  | n + 1, h, he => by
    unfold val
    by_cases e : i = n
    · subst e
      have h1 := val_lt i (fun k _ => hf k)
      have h2 : (f i + 1) * 65536 ^ i ≤ g i * 65536 ^ i := Nat.mul_le_mul_right _ hi
      rw [Nat.add_mul] at h2
      omega
    · have := val_cmp hf hi n (by omega) (fun k h1 h2 => he k h1 (by omega))
      rw [he n (by omega) (by omega)]
      omega
/-- p, k digits on. -/
def oneAt (k p : Nat) : Nat → Nat := fun j => if j = k then p else 0
theorem val_oneAt (k p : Nat) (n : Nat) (h : k < n) : val n (oneAt k p) = p * 65536 ^ k := by
  have e : oneAt k p = bump (fun _ => 0) k p := by
    funext j; unfold oneAt bump; split <;> simp
  rw [e, val_bump _ _ _ _ h, val_zero]; omega

/-- The products, i digits of A in. -/
def acc (A : Nat → Nat) (l m h : Nat) : Nat → (Nat → Nat)
  | 0 => fun _ => 0
  | i + 1 => bump (bump (bump (acc A l m h i) i (A i * l)) (i + 1) (A i * m)) (i + 2) (A i * h)
theorem acc_val (A : Nat → Nat) (l m h n : Nat) : ∀ i, i + 2 < n → val n (acc A l m h (i + 1)) = val (i + 1) A * (l + m * 65536 + h * 65536 ^ 2)
  | 0, hn => by
    show val n (bump (bump (bump (fun _ => 0) 0 (A 0 * l)) 1 (A 0 * m)) 2 (A 0 * h)) = _
    rw [val_bump _ _ _ _ (by omega), val_bump _ _ _ _ (by omega), val_bump _ _ _ _ (by omega), val_zero]
    simp only [val, Nat.pow_zero, Nat.mul_one, Nat.zero_add, Nat.pow_one, Nat.mul_add, Nat.mul_assoc]
  | i + 1, hn => by
    show val n (bump (bump (bump (acc A l m h (i + 1)) (i + 1) (A (i + 1) * l)) (i + 1 + 1) (A (i + 1) * m)) (i + 1 + 2) (A (i + 1) * h)) = _
    rw [val_bump _ _ _ _ (by omega), val_bump _ _ _ _ (by omega), val_bump _ _ _ _ (by omega), acc_val A l m h n i (by omega)]
    have e : val (i + 1 + 1) A = val (i + 1) A + A (i + 1) * 65536 ^ (i + 1) := rfl
    rw [e, Nat.add_mul]
    have e1 : 65536 ^ (i + 1 + 1) = 65536 ^ (i + 1) * 65536 := Nat.pow_succ ..
    have e2 : 65536 ^ (i + 1 + 2) = 65536 ^ (i + 1) * 65536 ^ 2 := Nat.pow_add ..
    rw [e1, e2]
    generalize 65536 ^ (i + 1) = z
    generalize 65536 ^ 2 = y
    generalize A (i + 1) = a
    have : a * z * (l + m * 65536 + h * y) = a * l * z + a * m * (z * 65536) + a * h * (z * y) := by
      rw [Nat.mul_add, Nat.mul_add]
      congr 1
      · congr 1
        · rw [Nat.mul_assoc, Nat.mul_comm z l, ← Nat.mul_assoc]
        · rw [Nat.mul_assoc, Nat.mul_assoc, Nat.mul_left_comm z m]
      · rw [Nat.mul_assoc, Nat.mul_assoc, Nat.mul_left_comm z h]
    omega
theorem acc_bd (A : Nat → Nat) (l m h M : Nat) (hM : ∀ i, A i * l ≤ M ∧ A i * m ≤ M ∧ A i * h ≤ M) : ∀ i k, acc A l m h i k ≤ i * M
  | 0, k => Nat.zero_le _
  | i + 1, k => by
    have ih := acc_bd A l m h M hM i k
    obtain ⟨q1, q2, q3⟩ := hM i
    show bump (bump (bump (acc A l m h i) i (A i * l)) (i + 1) (A i * m)) (i + 2) (A i * h) k ≤ _
    rw [Nat.succ_mul]
    generalize i * M = z at *
    generalize A i * l = x at *
    generalize A i * m = y at *
    generalize A i * h = u at *
    unfold bump
    generalize acc A l m h i k = v at *
    split <;> split <;> split <;> omega

/-- Carried over, i digits in. -/
def car (f : Nat → Nat) : Nat → (Nat → Nat)
  | 0 => f
  | i + 1 => setN (bump (car f i) (i + 1) (car f i i / 65536)) i (car f i i % 65536)
theorem val_setN (f : Nat → Nat) (i v : Nat) : ∀ n, i < n → val n (setN f i v) + f i * 65536 ^ i = val n f + v * 65536 ^ i
  | 0, h => by omega
  | n + 1, h => by
    unfold val
    by_cases e : i = n
    · subst e
      rw [val_congr i (g := f) (fun k hk => by unfold setN; rw [if_neg (by omega)])]
      have : setN f i v i = v := by unfold setN; rw [if_pos rfl]
      rw [this]; omega
    · have := val_setN f i v n (by omega)
      have h2 : setN f i v n = f n := by unfold setN; rw [if_neg (by omega)]
      rw [h2]; omega
theorem car_val (f : Nat → Nat) (n : Nat) : ∀ i, i < n → val n (car f i) = val n f
  | 0, _ => rfl
  | i + 1, h => by
    have ih := car_val f n i (by omega)
    show val n (setN (bump (car f i) (i + 1) (car f i i / 65536)) i (car f i i % 65536)) = _
    have h1 := val_setN (bump (car f i) (i + 1) (car f i i / 65536)) i (car f i i % 65536) n (by omega)
    rw [val_bump _ _ _ _ h] at h1
    have h2 : bump (car f i) (i + 1) (car f i i / 65536) i = car f i i := by unfold bump; rw [if_neg (by omega)]
    rw [h2, ih] at h1
    have h3 := Nat.div_add_mod (car f i i) 65536
    generalize car f i i = x at *
    have e : 65536 ^ (i + 1) = 65536 ^ i * 65536 := Nat.pow_succ ..
    rw [e] at h1
    generalize 65536 ^ i = z at *
    have h4 : x / 65536 * (z * 65536) + x % 65536 * z = x * z := by
      have : x / 65536 * (z * 65536) = 65536 * (x / 65536) * z := by
        rw [Nat.mul_comm z 65536, ← Nat.mul_assoc, Nat.mul_comm (x / 65536) 65536]
      rw [this, ← Nat.add_mul, h3]
    omega
theorem car_hi (f : Nat → Nat) : ∀ i k, i < k → car f i k = f k
  | 0, _, _ => rfl
  | i + 1, k, h => by
    show setN (bump (car f i) (i + 1) _) i _ k = _
    unfold setN bump
    rw [if_neg (by omega), if_neg (by omega)]
    exact car_hi f i k (by omega)
theorem car_lo (f : Nat → Nat) : ∀ i k, k < i → car f i k < 65536
  | 0, _, h => by omega
  | i + 1, k, h => by
    show setN (bump (car f i) (i + 1) _) i _ k < _
    unfold setN bump
    by_cases e : k = i
    · rw [if_pos e]; exact Nat.mod_lt _ (by decide)
    · rw [if_neg e, if_neg (by omega)]
      exact car_lo f i k (by omega)
theorem car_at (f : Nat → Nat) (M : Nat) (hM : ∀ k, f k ≤ M) : ∀ i, car f i i ≤ 2 * M
  | 0 => by show f 0 ≤ _; have := hM 0; omega
  | i + 1 => by
    have ih := car_at f M hM i
    show setN (bump (car f i) (i + 1) _) i _ (i + 1) ≤ _
    unfold setN bump
    rw [if_neg (by omega), if_pos rfl, car_hi f i (i + 1) (by omega)]
    have := hM (i + 1)
    omega
theorem car_bd (f : Nat → Nat) (M : Nat) (hM : ∀ k, f k ≤ M) (h64 : 65536 ≤ M) (i k : Nat) : car f i k ≤ 2 * M := by
  rcases Nat.lt_trichotomy k i with h | h | h
  · have := car_lo f i k h; omega
  · subst h; exact car_at f M hM k
  · rw [car_hi f i k h]; have := hM k; omega

/-- All of it: L digits times n. -/
def prodD (A : Nat → Nat) (L n : Nat) : Nat → Nat := car (acc A (n % 65536) (n / 65536 % 65536) (n / 4294967296) L) (L + 2)
theorem prod_val (A : Nat → Nat) (L n : Nat) (hL : 1 ≤ L) : val (L + 3) (prodD A L n) = val L A * n := by
  obtain ⟨k, rfl⟩ : ∃ k, L = k + 1 := ⟨L - 1, by omega⟩
  unfold prodD
  rw [car_val _ _ _ (by omega), acc_val _ _ _ _ _ k (by omega)]
  congr 1
  omega
theorem prod_dig (A : Nat → Nat) (L n : Nat) (hL : 1 ≤ L) (hA : ∀ k, A k < 65536) (hn : n < 1099511627776) (k : Nat) (hk : k < L + 3) : prodD A L n k < 65536 := by
  by_cases h : k < L + 2
  · exact car_lo _ _ _ h
  · obtain rfl : k = L + 2 := by omega
    have hv := prod_val A L n hL
    have h1 : val (L + 3) (prodD A L n) = val (L + 2) (prodD A L n) + prodD A L n (L + 2) * 65536 ^ (L + 2) := rfl
    have h2 := val_lt L (fun k _ => hA k)
    rcases Nat.lt_or_ge (prodD A L n (L + 2)) 65536 with h3 | h3
    · exact h3
    · exfalso
      have h4 : 65536 * 65536 ^ (L + 2) ≤ prodD A L n (L + 2) * 65536 ^ (L + 2) := Nat.mul_le_mul_right _ h3
      have h5 : val L A * n ≤ 65536 ^ L * 1099511627776 := Nat.mul_le_mul (by omega) (by omega)
      have e : 65536 ^ (L + 2) = 65536 ^ L * 4294967296 := by rw [Nat.pow_add]
      rw [e] at h4 h1
      have h6 : 0 < 65536 ^ L := Nat.pow_pos (by decide)
      generalize 65536 ^ L = z at *
      omega
end Go.Proofs.YtclfmgkomkmbjaaDoor
