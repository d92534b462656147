/- wax.Same; CopyBytes. -/
import Derived.Test.YtppbaahaegmgeaaWxC
import Derived.Test.YtppbaahaegmgeaaCpy
import Derived.Test.YtppbaahaegmgeaaBit
import Derived.Test.YtppbaahaegmgeaaReg
import Derived.BigQuiet
import Derived.Deep.QuietTactic
namespace Go.Proofs.Ytppbaahaegmgeaa
open Go.RowKit

set_option maxRecDepth 100000 in
set_option maxHeartbeats 4000000 in
theorem same_walk (w : World) (p : Option Addr) (xs : List Int) (c : Nat) (q : Option Addr) (ys : List Int) (d : Nat) (hx : ByAt w p xs) (hrx : Rng xs) (hy : ByAt w q ys) (hry : Rng ys) (hl : xs.length ≤ 9223372036854775807) (hl2 : ys.length ≤ 9223372036854775807) :
    Calls Try.prog 38 #[.slice p xs.length c, .slice q ys.length d] w fun e w' => e = .returned (.bool (decide (xs = ys))) ∧ Upd [] w w' := by
  obtain ⟨u0, hu0, hu0l, hu0z⟩ := xor_i64_zero xs.length ys.length (by omega) (by omega)
  obtain ⟨mn, hmn⟩ : ∃ mn : Nat, min (xs.length : Int) ys.length = mn := ⟨min xs.length ys.length, by omega⟩
  have hm1 : mn ≤ xs.length := by omega
  have hm2 : mn ≤ ys.length := by omega
  have hm3 : mn = xs.length ∨ mn = ys.length := by omega
  go_enter Try.func38, Try.ntmps38
  go_upto_region 3 with fail
  (try rw [hu0]); (try rw [hmn])
  have Hz0 : Hid (u0 = 0 ↔ xs.length = ys.length ∧ xs.take 0 = ys.take 0) := Lib.hid (by rw [hu0z]; simp)
  clear hu0 hmn hu0z
  go_loopw [5, 17] (fun uv iv wr => ∃ u ni : Nat, ni ≤ mn ∧ u < 9223372036854775808 ∧ uv = .int .i64 u ∧ iv = .int .i64 ni ∧ Hid (u = 0 ↔ xs.length = ys.length ∧ xs.take ni = ys.take ni) ∧ Upd [] w wr) (fun _ iv _ => mn - (intOf iv).toNat)
  case atStart => exact ⟨u0, 0, by omega, hu0l, rfl, rfl, Hz0, Upd.refl [] w⟩
  case round =>
    clear Hz0 hu0l
    obtain ⟨u, ni, hni, hul, rfl, rfl, Hu0, hu⟩ := hrel
    obtain ⟨wo, rfl⟩ : ∃ wo, wo = wr := ⟨_, rfl⟩
    by_cases hlt : ni < mn
    · obtain ⟨b, o, rfl⟩ := hx.form (by omega)
      obtain ⟨b2, o2, rfl⟩ := hy.form (by omega)
      have hx' := hx.upd_nil hu
      have hy' := hy.upd_nil hu
      have cx := hx'.cell ni (by omega)
      have cy := hy'.cell ni (by omega)
      have hbl := hx'.lt (by omega)
      have hb2l := hy'.lt (by omega)
      have hst := take_eq_step (xs := xs) (ys := ys) (n := ni) (by omega) (by omega)
      obtain ⟨x1, x2⟩ := hrx.getD ni
      obtain ⟨y1, y2⟩ := hry.getD ni
      generalize xs.getD ni 0 = x at *
      generalize ys.getD ni 0 = y at *
      obtain ⟨z, hz⟩ := Int.eq_ofNat_of_zero_le (bits_lo_u8 .xor x y)
      have hz2 : z ≤ 255 := by have := bits_hi_u8 .xor x y; omega
      have hzz := xor_u8_zero x y (by omega) (by omega)
      rw [hz] at hzz
      obtain ⟨u2, hu2, hu2l, hu2z⟩ := or_i64_zero u z hul (by omega)
      have Hu2 : Hid (u2 = 0 ↔ xs.length = ys.length ∧ xs.take (ni + 1) = ys.take (ni + 1)) := Lib.hid (by
        rw [hu2z, hst, Hu0.out]
        have : z = 0 ↔ x = y := by rw [← hzz]; omega
        rw [this]
        constructor
        · rintro ⟨⟨a, b⟩, c⟩; exact ⟨a, b, c⟩
        · rintro ⟨a, b, c⟩; exact ⟨⟨a, b⟩, c⟩)
      have Wz : Hid (IntKind.i64.wrap (z : Int) = (z : Int)) := Lib.hid (by rw [IntKind.wrap_i64]; omega)
      have g1 : (0 : Int) ≤ ni := by omega
      have g2 : (ni : Int) < xs.length := by omega
      have g3 : (ni : Int) < ys.length := by omega
      clear hst hzz hu2z hx' hy' Hu0 Wz
      go_upto_region 5 with fail
      go_quiet (fail)
      go_wp2_with fail
      exact ⟨⟨u2, ni + 1, by omega, hu2l, rfl, by go_num, Hu2, hu.of_drewN _⟩, by simp [intOf]; omega⟩
    · obtain rfl : ni = mn := by omega
      have he : decide (xs = ys) = ((u : Int) == 0) := by
        have h1 : u = 0 ↔ xs = ys := by
          rw [Hu0.out]
          constructor
          · rintro ⟨h1, h2⟩
            rw [List.take_of_length_le (by omega), List.take_of_length_le (by omega)] at h2
            exact h2
          · rintro rfl; exact ⟨rfl, rfl⟩
        by_cases h : xs = ys
        · rw [decide_eq_true h, h1.2 h]; rfl
        · rw [decide_eq_false h]
          have : u ≠ 0 := fun e => h (h1.1 e)
          simp; omega
      have He := Lib.hid he
      clear he Hu0
      go_wp2_with fail
      go_ret
      exact ⟨ret_bool He.out.symm, hu⟩

end Go.Proofs.Ytppbaahaegmgeaa
