/- SHA-256's tables: the numbers. -/
import Derived.Test.YtppbaahaegmgeaaKnC
namespace Go.Proofs.Ytppbaahaegmgeaa
open Go.RowKit

def PL : List Nat := [2, 3, 5, 7, 11, 13, 17, 19, 23, 29, 31, 37, 41, 43, 47, 53, 59, 61, 67, 71, 73, 79, 83, 89, 97, 101, 103, 107, 109, 113, 127, 131, 137, 139, 149, 151, 157, 163, 167, 173, 179, 181, 191, 193, 197, 199, 211, 223, 227, 229, 233, 239, 241, 251, 257, 263, 269, 271, 277, 281, 283, 293, 307, 311]
/-- Square roots, cube roots, 32 bits behind the point. -/
def rt2 : List Nat := [6074000999, 7439101573, 9603838834, 11363415354, 14244795007, 15485724812, 17708603819, 18721328409]
def rt3 : List Nat := [5411319704, 6194414737, 7344290767, 8215976869, 9551921755, 10098905585, 11043570340, 11460697813, 12214315672, 13195500289, 13492127166, 14311783875, 14809980276, 15046980094, 15499789991, 16133124468, 16720292289, 16907126662, 17444216262, 17784676812, 17950125167, 18429019306, 18734950876, 19175934170, 19734090066, 20001703533, 20132865992, 20390182855, 20516441075, 20764397895, 21588763473, 21813078375, 22141143685, 22248366392, 22769593852, 22871018771, 23170020180, 23461497531, 23651862830, 23931792517, 24205322401, 24295138891, 24734567280, 24820601251, 24990902297, 25075189284, 25569408389, 26045227120, 26200031510, 26276752392, 26428864332, 26653801653, 26727943347, 27092625994, 27306805839, 27517677555, 27725365998, 27793908591, 27997534228, 28131656200, 28198240250, 28526537963, 28973835255, 29099129074]
/-- H, K. -/
def H0 (i : Nat) : Int := ((rt2.getD i 0 % 4294967296 : Nat) : Int)
def K0 (i : Nat) : Int := ((rt3.getD i 0 % 4294967296 : Nat) : Int)
theorem H0_bd (i : Nat) : 0 ≤ H0 i ∧ H0 i < 4294967296 := by unfold H0; omega
theorem K0_bd (i : Nat) : 0 ≤ K0 i ∧ K0 i < 4294967296 := by unfold K0; omega

def isP (p : Nat) : Bool := PL.contains p
def cnt (p : Nat) : Nat := (PL.filter (fun x => decide (x < p))).length
theorem pl_1 : ∀ p, p < 312 → 2 ≤ p → isP p = false → ∃ q, q < 18 ∧ 2 ≤ q ∧ q * q ≤ p ∧ p % q = 0 := by decide +kernel
theorem pl_2' : ∀ p, p < 312 → isP p = true → ∀ q, q < 18 → (decide (2 ≤ q) && decide (q * q ≤ p) && decide (p % q = 0)) = false := by decide +kernel
theorem pl_2 (p : Nat) (hp : p < 312) (h : isP p = true) (q : Nat) (hq : q < 18) (h2 : 2 ≤ q) (h3 : q * q ≤ p) : p % q ≠ 0 := fun e => by
  have := pl_2' p hp h q hq
  simp [h2, h3, e] at this
theorem pl_3 : ∀ p, p < 312 → isP p = true → PL[cnt p]? = some p ∧ cnt (p + 1) = cnt p + 1 := by decide +kernel
theorem pl_4 : ∀ p, p < 312 → isP p = false → cnt (p + 1) = cnt p := by decide +kernel
theorem pl_5 : ∀ x ∈ PL, x < 312 := by decide +kernel
theorem cnt_big {p : Nat} (h : 312 ≤ p) : cnt p = 64 := by
  unfold cnt
  rw [List.filter_eq_self.2 (fun x hx => by have := pl_5 x hx; simp; omega)]
  rfl
theorem rt2_ok : ∀ i, i < 8 → rt2.getD i 0 < 68719476736 ∧ powOk 2 (rt2.getD i 0) (PL.getD i 0) ∧ ¬ powOk 2 (rt2.getD i 0 + 1) (PL.getD i 0) := by decide +kernel
theorem rt3_ok : ∀ i, i < 64 → rt3.getD i 0 < 68719476736 ∧ powOk 3 (rt3.getD i 0) (PL.getD i 0) ∧ ¬ powOk 3 (rt3.getD i 0 + 1) (PL.getD i 0) := by decide +kernel

/-- The rows, n numbers in. -/
def mk (n m j : Nat) : Int := if j < 8 then (if j < n then H0 j else 0) else (if j - 8 < m then K0 (j - 8) else 0)
theorem mk_h {n : Nat} (h : n < 8) : upd1 (mk n n) n (H0 n) = mk (n + 1) n := by
  funext j
  unfold upd1 mk
  by_cases e : j = n
  · subst e; simp [h]
  · rw [if_neg e]
    by_cases h8 : j < 8
    · rw [if_pos h8, if_pos h8]
      by_cases hj : j < n
      · rw [if_pos hj, if_pos (by omega)]
      · rw [if_neg hj, if_neg (by omega)]
    · rw [if_neg h8, if_neg h8]
theorem mk_k {n m : Nat} : upd1 (mk n m) (8 + m) (K0 m) = mk n (m + 1) := by
  funext j
  unfold upd1 mk
  by_cases e : j = 8 + m
  · subst e; rw [if_pos rfl, if_neg (by omega), if_pos (by omega)]; congr 1; omega
  · rw [if_neg e]
    by_cases h8 : j < 8
    · rw [if_pos h8, if_pos h8]
    · rw [if_neg h8, if_neg h8]
      by_cases hj : j - 8 < m
      · rw [if_pos hj, if_pos (by omega)]
      · rw [if_neg hj, if_neg (by omega)]
theorem mk_big {n m : Nat} (h : 8 ≤ n) : mk n m = mk (n + 1) m := by
  funext j
  unfold mk
  by_cases h8 : j < 8
  · rw [if_pos h8, if_pos h8, if_pos (by omega), if_pos (by omega)]
  · rw [if_neg h8, if_neg h8]
theorem mk_zero : mk 0 0 = fun _ => 0 := by
  funext j; unfold mk; simp
def rowsF : Nat → Int := mk 64 64

end Go.Proofs.Ytppbaahaegmgeaa
