/- SHA-256's tables: power, root. -/
import Derived.Test.YtppbaahaegmgeaaShelf
import Derived.Test.YtppbaahaegmgeaaKnB
namespace Go.Proofs.Ytppbaahaegmgeaa
open Go.RowKit

set_option maxRecDepth 100000 in
theorem power_2 (x p : Nat) (hx : x < 68719476737) (hp : p < 4096) (w : World) :
    Calls Try.prog 60 #[.int .u64 x, .int .i64 2, .int .u64 p] w fun e w' => e = .returned (.bool (decide (x * x ≤ p * 18446744073709551616))) ∧ w = w' := by
  have hM := fun w => Try.bits_Mul64 x x (by omega) (by omega) w
  have hd := Nat.div_add_mod (x * x) 18446744073709551616
  have hl := Nat.mod_lt (x * x) (show 0 < 18446744073709551616 by decide)
  generalize x * x / 18446744073709551616 = hi at hM hd
  generalize x * x % 18446744073709551616 = lo at hM hd hl
  generalize hs : x * x = s at hd
  by_cases h1 : hi < p
  · have hr : decide (s ≤ p * 18446744073709551616) = true := decide_eq_true (by omega)
    have Hr := Lib.hid hr
    clear hr hd
    go_enter Try.func60, Try.ntmps60
    go_wp2_with (go_at_call 66; refine (hM _).mono ?_; rintro e w3 ⟨rfl, rfl⟩)
    go_ret
    exact ⟨ret_bool Hr.out.symm, rfl⟩
  · by_cases h2 : hi = p
    · by_cases h3 : lo = 0
      · have hr : decide (s ≤ p * 18446744073709551616) = true := decide_eq_true (by omega)
        have Hr := Lib.hid hr
        clear hr hd
        subst h2
        subst h3
        go_enter Try.func60, Try.ntmps60
        go_wp2_with (go_at_call 66; refine (hM _).mono ?_; rintro e w3 ⟨rfl, rfl⟩)
        go_ret
        exact ⟨ret_bool Hr.out.symm, rfl⟩
      · have hr : decide (s ≤ p * 18446744073709551616) = false := decide_eq_false (by omega)
        have Hr := Lib.hid hr
        have h3' : ((lo : Int) == 0) = false := by simp; omega
        clear hr hd
        subst h2
        go_enter Try.func60, Try.ntmps60
        go_wp2_with (go_at_call 66; refine (hM _).mono ?_; rintro e w3 ⟨rfl, rfl⟩)
        go_ret
        exact ⟨ret_bool Hr.out.symm, rfl⟩
    · have hr : decide (s ≤ p * 18446744073709551616) = false := decide_eq_false (by omega)
      have Hr := Lib.hid hr
      have h2' : ((hi : Int) == (p : Int)) = false := by simp; omega
      clear hr hd
      go_enter Try.func60, Try.ntmps60
      go_wp2_with (go_at_call 66; refine (hM _).mono ?_; rintro e w3 ⟨rfl, rfl⟩)
      go_ret
      exact ⟨ret_bool Hr.out.symm, rfl⟩

set_option maxRecDepth 100000 in
theorem pow3_walk (x p hi lo over low : Nat) (b0 : 0 ≤ (hi : Int) * (x : Int)) (b1 : (hi : Int) * (x : Int) ≤ 17660905521409) (hov : over < 68719476738) (hp : p < 4096)
    (hM : ∀ w, Calls Try.prog 66 #[.int .u64 x, .int .u64 x] w fun e w' => e = .returned (.tuple #[.int .u64 hi, .int .u64 lo]) ∧ w' = w)
    (hM2 : ∀ w, Calls Try.prog 66 #[.int .u64 lo, .int .u64 x] w fun e w' => e = .returned (.tuple #[.int .u64 over, .int .u64 low]) ∧ w' = w) (w : World)
    (b : Bool) (hb : ((over : Int) + (hi : Int) * (x : Int) < (p : Int) * 4294967296 ∨ ((over : Int) + (hi : Int) * (x : Int) = (p : Int) * 4294967296 ∧ low = 0)) ↔ b = true) :
    Calls Try.prog 60 #[.int .u64 x, .int .i64 3, .int .u64 p] w fun e w' => e = .returned (.bool b) ∧ w = w' := by
  by_cases h1 : (over : Int) + (hi : Int) * (x : Int) < (p : Int) * 4294967296
  · obtain rfl : b = true := hb.1 (.inl h1)
    clear hb
    go_enter Try.func60, Try.ntmps60
    go_upto_region 4 with (go_at_call 66; refine (hM _).mono ?_; rintro e w3 ⟨rfl, rfl⟩)
    go_wp2_with (go_at_call 66; refine (hM2 _).mono ?_; rintro e w4 ⟨rfl, rfl⟩)
    go_ret
    exact ⟨rfl, rfl⟩
  · have t1 : decide ((over : Int) + (hi : Int) * (x : Int) < (p : Int) * 4294967296) = false := decide_eq_false h1
    by_cases h2 : (over : Int) + (hi : Int) * (x : Int) = (p : Int) * 4294967296
    · have t2 : (((over : Int) + (hi : Int) * (x : Int)) == (p : Int) * 4294967296) = true := by rw [beq_iff_eq]; exact h2
      by_cases h3 : low = 0
      · obtain rfl : b = true := hb.1 (.inr ⟨h2, h3⟩)
        clear hb h2
        subst h3
        go_enter Try.func60, Try.ntmps60
        go_upto_region 4 with (go_at_call 66; refine (hM _).mono ?_; rintro e w3 ⟨rfl, rfl⟩)
        go_wp2_with (go_at_call 66; refine (hM2 _).mono ?_; rintro e w4 ⟨rfl, rfl⟩)
        go_ret
        exact ⟨rfl, rfl⟩
      · have hf : b = false := by
          rw [← Bool.not_eq_true]; exact fun h => (hb.2 h).elim h1 (fun h => h3 h.2)
        subst hf
        have h3' : ((low : Int) == 0) = false := by simp; omega
        clear hb h2
        go_enter Try.func60, Try.ntmps60
        go_upto_region 4 with (go_at_call 66; refine (hM _).mono ?_; rintro e w3 ⟨rfl, rfl⟩)
        go_wp2_with (go_at_call 66; refine (hM2 _).mono ?_; rintro e w4 ⟨rfl, rfl⟩)
        go_ret
        exact ⟨rfl, rfl⟩
    · have hf : b = false := by
        rw [← Bool.not_eq_true]; exact fun h => (hb.2 h).elim h1 (fun h => h2 h.1)
      subst hf
      have t2 : (((over : Int) + (hi : Int) * (x : Int)) == (p : Int) * 4294967296) = false := by rw [beq_eq_false_iff_ne]; exact h2
      clear hb h2
      go_enter Try.func60, Try.ntmps60
      go_upto_region 4 with (go_at_call 66; refine (hM _).mono ?_; rintro e w3 ⟨rfl, rfl⟩)
      go_wp2_with (go_at_call 66; refine (hM2 _).mono ?_; rintro e w4 ⟨rfl, rfl⟩)
      go_ret
      exact ⟨rfl, rfl⟩

theorem pow3_law (x p hi lo over low B : Nat) (hB : 0 < B) (h1 : B * hi + lo = x * x) (h2 : B * over + low = lo * x) (hl : low < B) :
    (over + hi * x < p * 4294967296 ∨ (over + hi * x = p * 4294967296 ∧ low = 0)) ↔ x * x * x ≤ p * 4294967296 * B := by
  have hc : x * x * x = B * (over + hi * x) + low := by
    rw [← h1, Nat.add_mul, ← h2, Nat.mul_add, Nat.mul_assoc]; omega
  rw [hc]
  generalize over + hi * x = s
  generalize p * 4294967296 = q
  rw [Nat.mul_comm q B]
  constructor
  · rintro (h | ⟨rfl, rfl⟩)
    · have : B * (s + 1) ≤ B * q := Nat.mul_le_mul_left _ h
      rw [Nat.mul_add] at this; omega
    · omega
  · intro h
    rcases Nat.lt_trichotomy s q with h1 | h1 | h1
    · exact .inl h1
    · subst h1; exact .inr ⟨rfl, by omega⟩
    · have : B * (q + 1) ≤ B * s := Nat.mul_le_mul_left _ h1
      rw [Nat.mul_add] at this; omega

theorem power_3 (x p : Nat) (hx : x < 68719476737) (hp : p < 4096) (w : World) :
    Calls Try.prog 60 #[.int .u64 x, .int .i64 3, .int .u64 p] w fun e w' => e = .returned (.bool (decide (x * x * x ≤ p * 4294967296 * 18446744073709551616))) ∧ w = w' := by
  have hM := fun w => Try.bits_Mul64 x x (by omega) (by omega) w
  have hd := Nat.div_add_mod (x * x) 18446744073709551616
  have hl := Nat.mod_lt (x * x) (show 0 < 18446744073709551616 by decide)
  have hsq : x * x < 68719476737 * 68719476737 := Nat.mul_lt_mul'' hx hx
  generalize x * x / 18446744073709551616 = hi at hM hd
  generalize x * x % 18446744073709551616 = lo at hM hd hl
  have hhi : hi ≤ 256 := by omega
  have hM2 := fun w => Try.bits_Mul64 lo x (by omega) (by omega) w
  have hd2 := Nat.div_add_mod (lo * x) 18446744073709551616
  have hl2 := Nat.mod_lt (lo * x) (show 0 < 18446744073709551616 by decide)
  have hlox : lo * x ≤ 18446744073709551615 * 68719476736 := Nat.mul_le_mul (by omega) (by omega)
  generalize lo * x / 18446744073709551616 = over at hM2 hd2
  generalize lo * x % 18446744073709551616 = low at hM2 hd2 hl2
  have hhx : hi * x ≤ 256 * 68719476736 := Nat.mul_le_mul hhi (by omega)
  have e0 : (hi : Int) * (x : Int) = ((hi * x : Nat) : Int) := by rw [Int.natCast_mul]
  refine pow3_walk x p hi lo over low (by rw [e0]; omega) (by rw [e0]; omega) (by omega) hp hM hM2 w _ ?_
  rw [decide_eq_true_eq, ← pow3_law x p hi lo over low 18446744073709551616 (by decide) hd hd2 hl2, e0]
  omega

/-- n of 2, 3: x to the power of n is at most p, n times 32 bits on. -/
def powOk (n x p : Nat) : Prop := if n = 2 then x * x ≤ p * 18446744073709551616 else x * x * x ≤ p * 4294967296 * 18446744073709551616
instance (n x p : Nat) : Decidable (powOk n x p) := by unfold powOk; infer_instance
theorem powOk_mono {n x y p : Nat} (h : x ≤ y) (hy : powOk n y p) : powOk n x p := by
  unfold powOk at *
  split at hy
  · rename_i hn
    rw [if_pos hn]
    exact Nat.le_trans (Nat.mul_le_mul h h) hy
  · rename_i hn
    rw [if_neg hn]
    exact Nat.le_trans (Nat.mul_le_mul (Nat.mul_le_mul h h) h) hy

theorem power_any (n x p : Nat) (hn : n = 2 ∨ n = 3) (hx : x < 68719476737) (hp : p < 4096) (w : World) :
    Calls Try.prog 60 #[.int .u64 x, .int .i64 n, .int .u64 p] w fun e w' => e = .returned (.bool (decide (powOk n x p))) ∧ w = w' := by
  rcases hn with rfl | rfl
  · exact power_2 x p hx hp w
  · exact power_3 x p hx hp w

set_option maxRecDepth 100000 in
theorem root_any (n p r : Nat) (hn : n = 2 ∨ n = 3) (hp : p < 4096) (hr : r < 68719476736) (h1 : powOk n r p) (h2 : ¬ powOk n (r + 1) p) (w : World) :
    Calls Try.prog 59 #[.int .u64 p, .int .i64 n] w fun e w' => e = .returned (.int .u32 ((r % 4294967296 : Nat) : Int)) ∧ w = w' := by
  have lo1 : ∀ x, powOk n x p → x ≤ r := fun x hx => by
    rcases Nat.lt_or_ge r x with h | h
    · exact absurd (powOk_mono h hx) h2
    · exact h
  have lo2 : ∀ x, ¬ powOk n x p → r < x := fun x hx => by
    rcases Nat.lt_or_ge r x with h | h
    · exact h
    · exact absurd (powOk_mono h h1) hx
  have H1 := Lib.hid lo1
  have H2 := Lib.hid lo2
  clear lo1 lo2 h1 h2
  go_enter Try.func59, Try.ntmps59
  go_wp2_with fail
  go_loop [5, 6] (fun lv hv => ∃ l h : Nat, lv = .int .u64 l ∧ hv = .int .u64 h ∧ l ≤ r ∧ r < h ∧ h ≤ 68719476736) (fun lv hv => (intOf hv - intOf lv).toNat)
  case atStart => exact ⟨0, 68719476736, rfl, rfl, by omega, by omega, by omega⟩
  case round =>
    obtain ⟨l, h, rfl, rfl, hl, hh, hh2⟩ := hrel
    by_cases hgt : l + 1 < h
    · have hmid : ∃ m : Nat, (l : Int) + ((h : Int) - (l : Int)) / 2 = (m : Int) ∧ l < m ∧ m < h := ⟨l + (h - l) / 2, by omega, by omega, by omega⟩
      obtain ⟨m, hm, hm1, hm2⟩ := hmid
      by_cases hpw : powOk n m p
      · have Hp := Lib.hid (H1.out m hpw)
        have hd : decide (powOk n m p) = true := decide_eq_true hpw
        clear hpw
        go_wp2_with (go_at_call 60; refine (power_any n m p hn (by omega) hp _).mono ?_; rw [hd]; rintro e w3 ⟨rfl, rfl⟩)
        go_round
        case rel => exact ⟨m, h, rfl, rfl, Hp.out, hh, hh2⟩
        case measure => simp [intOf]; omega
      · have Hp := Lib.hid (H2.out m hpw)
        have hd : decide (powOk n m p) = false := decide_eq_false hpw
        clear hpw
        go_wp2_with (go_at_call 60; refine (power_any n m p hn (by omega) hp _).mono ?_; rw [hd]; rintro e w3 ⟨rfl, rfl⟩)
        go_round
        case rel => exact ⟨l, m, rfl, rfl, hl, Hp.out, by omega⟩
        case measure => simp [intOf]; omega
    · obtain rfl : l = r := by omega
      go_wp2_with fail
      go_ret
      exact ⟨ret_int (by omega), rfl⟩

end Go.Proofs.Ytppbaahaegmgeaa
