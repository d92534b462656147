/- EqBytes in full (as in WxS, for a seat without WaxSame). -/
import Derived.Test.YtppbaahaegmgeaaWxD
import Derived.Test.YtppbaahaegmgeaaKnG
namespace Go.Proofs.Ytppbaahaegmgeaa
open Go.RowKit

set_option maxRecDepth 100000 in
set_option maxHeartbeats 4000000 in
theorem eqb_gen (w : World) (p : Option Addr) (xs : List Int) (c : Nat) (q : Option Addr) (ys : List Int) (d : Nat) (hx : ByAt w p xs) (hy : ByAt w q ys) (hrx : Rng xs) (hry : Rng ys) (hl : xs.length ≤ 9223372036854775807) (hl2 : ys.length ≤ 9223372036854775807) :
    Calls Try.prog 16 #[.slice p xs.length c, .slice q ys.length d] w fun e w' => e = .returned (.bool (decide (xs = ys))) ∧ Upd [] w w' := by
  by_cases hlen : xs.length = ys.length
  · have hq : ((xs.length : Int) == (ys.length : Int)) = true := by rw [hlen]; simp
    have Hlen := Lib.hid hlen
    clear hlen
    go_enter Try.func16, Try.ntmps16
    go_wp2_with fail
    go_loopw [5] (fun iv wr => ∃ ni : Nat, ni ≤ xs.length ∧ iv = .int .i64 ni ∧ Hid (xs.take ni = ys.take ni) ∧ Upd [] w wr) (fun iv _ => xs.length - (intOf iv).toNat)
    case atStart => exact ⟨0, by omega, rfl, Lib.hid rfl, Upd.refl [] w⟩
    case round =>
      obtain ⟨ni, hni, rfl, Ht, hu⟩ := hrel
      obtain ⟨wo, rfl⟩ : ∃ wo, wo = wr := ⟨_, rfl⟩
      by_cases hlt : ni < xs.length
      · have hlt2 : ni < ys.length := by have := Hlen.out; omega
        obtain ⟨b, o, rfl⟩ := hx.form (by omega)
        obtain ⟨b2, o2, rfl⟩ := hy.form (by omega)
        have cx := (hx.upd_nil hu).cell ni hlt
        have cy := (hy.upd_nil hu).cell ni hlt2
        have hst := take_eq_step (xs := xs) (ys := ys) (n := ni) hlt hlt2
        have g1 : (0 : Int) ≤ ni := by omega
        have g2 : (ni : Int) < xs.length := by omega
        have g3 : (ni : Int) < ys.length := by omega
        generalize xs.getD ni 0 = x at *
        generalize ys.getD ni 0 = y at *
        by_cases hxy : x = y
        · subst hxy
          have Ht2 : Hid (xs.take (ni + 1) = ys.take (ni + 1)) := Lib.hid (hst.2 ⟨Ht.out, rfl⟩)
          clear hst hq
          go_upto_region 6 with fail
          go_quiet (fail)
          go_wp2_with fail
          exact ⟨⟨ni + 1, by omega, by go_num, Ht2, hu.of_drewN _⟩, by simp [intOf]; omega⟩
        · have hr : decide (xs = ys) = false := decide_eq_false (fun e => hxy (hst.1 (by rw [e])).2)
          have hq2 : (x == y) = false := by rw [beq_eq_false_iff_ne]; exact hxy
          have Hr := Lib.hid hr
          clear hst hr hq hxy
          go_upto_region 6 with fail
          go_quiet (fail)
          go_wp2_with fail
          go_ret
          exact ⟨ret_bool Hr.out.symm, hu.of_drewN _⟩
      · have hr : decide (xs = ys) = true := by
          have h := Ht.out
          rw [List.take_of_length_le (by omega), List.take_of_length_le (by have := Hlen.out; omega)] at h
          exact decide_eq_true h
        have Hr := Lib.hid hr
        clear hr hq
        obtain rfl : ni = xs.length := by omega
        go_wp2_with fail
        go_ret
        exact ⟨ret_bool Hr.out.symm, hu⟩
  · have hr : decide (xs = ys) = false := decide_eq_false (fun e => hlen (by rw [e]))
    have hq : ((xs.length : Int) == (ys.length : Int)) = false := by rw [beq_eq_false_iff_ne]; omega
    have Hr := Lib.hid hr
    clear hr hlen
    go_enter Try.func16, Try.ntmps16
    go_wp2_with fail
    go_ret
    exact ⟨ret_bool Hr.out.symm, Upd.refl [] w⟩

end Go.Proofs.Ytppbaahaegmgeaa
