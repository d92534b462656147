/- The document's roots: atMost, root. -/
import Derived.Test.YtclfmgkomkmbjaaDoorRfE
import Derived.Test.YtclfmgkomkmbjaaDoorKnT
import Derived.BigQuiet
import Derived.Deep.QuietTactic
namespace Go.Proofs.YtclfmgkomkmbjaaDoor
open Go.RowKit

set_option maxRecDepth 100000 in
set_option maxHeartbeats 8000000 in
theorem ratmost (ab c L k p : Nat) (A : Nat → Nat) (w : World) (hA : Blk w ab (urow L A) 71) (hAb : ∀ j, j < L → A j < 65536) (hL : L ≤ 100) (hk : k < L) (hp : p < 65536) :
    Calls Tryd.prog 56 #[.slice (some ⟨ab, 0, none⟩) L c, .int .u64 p, .int .i64 k] w fun e w' => e = .returned (.bool (decide (val L A ≤ p * 65536 ^ k))) ∧ Upd [] w w' := by
  have hmk := mk_u64 L (by omega)
  have hk1 : (k : Int) < L := by omega
  have hL2 : (L : Int) ≤ 100 := by omega
  go_enter Tryd.func56, Tryd.ntmps56
  go_upto_region 3 with fail
  have u1 := (Upd.refl [] w).alloc (.cells (urow L fun _ => 0).toArray 71)
  have hO1 := Blk.new w (urow L fun _ => 0).toArray 71
  have hA1 := hA.alloc (.cells (urow L fun _ => 0).toArray 71)
  have hal0 := hA.lt
  generalize w.alloc (.cells (urow L fun _ => 0).toArray 71) = W1 at *
  obtain ⟨ob, hob⟩ : ∃ ob, w.heap.size = ob := ⟨_, rfl⟩
  rw [hob] at hO1 ⊢
  have hobw : w.heap.size ≤ ob := by omega
  have hab : ab ≠ ob := by omega
  simp only [List.toList_toArray] at hO1
  clear hob hmk hA
  have f0 := hO1.free k
  have p0 := hO1.cell k (urow_get _ hk)
  have hO2 := hO1.set k (.int .u64 (p : Int))
  rw [urow_set] at hO2
  have hone : setN (fun _ => 0) k p = oneAt k p := rfl
  rw [hone] at hO2
  have u2 := u1.setCell (p := ⟨ob, k, none⟩) (Or.inr hobw) (.int .u64 (p : Int))
  have hA2 := hA1.set_ne ⟨ob, k, none⟩ hab (.int .u64 (p : Int))
  have HO2 := Lib.hid hO2
  have HU2 := Lib.hid u2
  have HA2 := Lib.hid hA2
  clear hO2 u2 hA2 hone hO1 hA1 u1
  go_upto_region 4 with fail
  generalize W1.setCell ⟨ob, k, none⟩ (.int .u64 (p : Int)) = W2 at *
  have hO := HO2.out
  have hu := HU2.out
  have hA := HA2.out
  have hBb : ∀ j, oneAt k p j < 65536 := fun j => by unfold oneAt; split <;> omega
  have HV := Lib.hid (val_oneAt k p L hk)
  clear HO2 HU2 HA2 f0 p0
  generalize oneAt k p = B at *
  go_wp2_with fail
  go_loopw [8] (fun iv wr => ∃ t : Nat, t ≤ L ∧ iv = .int .i64 ((t : Int) - 1) ∧ (∀ j, t ≤ j → j < L → A j = B j) ∧ Blk wr ob (urow L B) 71 ∧ Blk wr ab (urow L A) 71 ∧ Upd [] w wr) (fun iv _ => (intOf iv + 1).toNat)
  case atStart => exact ⟨L, by omega, rfl, fun j h1 h2 => by omega, hO, hA, hu⟩
  case round =>
    clear hO hu hA
    obtain ⟨t, ht, rfl, heq, hO, hA, hu⟩ := hrel
    obtain ⟨wo, rfl⟩ : ∃ wo, wo = wr := ⟨_, rfl⟩
    by_cases h0 : 0 < t
    · obtain ⟨mi, rfl⟩ : ∃ mi, t = mi + 1 := ⟨t - 1, by omega⟩
      have em : (((mi + 1 : Nat) : Int)) - 1 = (mi : Int) := by omega
      rw [em]
      have cA := hA.cell mi (urow_get _ (by omega))
      have cB := hO.cell mi (urow_get _ (by omega))
      have g1 : (0 : Int) ≤ mi := by omega
      have g2 : (mi : Int) < L := by omega
      have Heq := Lib.hid heq
      clear em heq
      by_cases hxy : A mi = B mi
      · have hq : ((A mi : Int) == (B mi : Int)) = true := by rw [hxy]; simp
        have Hxy := Lib.hid hxy
        clear hxy
        go_upto_region 7 with fail
        go_quiet (fail)
        go_wp2_with fail
        exact ⟨⟨mi, by omega, rfl, fun j h1 h2 => (by
          by_cases e : j = mi
          · rw [e]; exact Hxy.out
          · exact Heq.out j (by omega) h2), hO.of_drewN _, hA.of_drewN _, hu.of_drewN _⟩, by simp [intOf]⟩
      · have hq : ((A mi : Int) == (B mi : Int)) = false := by rw [beq_eq_false_iff_ne]; omega
        have hr : decide (val L A ≤ p * 65536 ^ k) = decide (A mi < B mi) := by
          rw [← HV.out]
          rcases Nat.lt_or_ge (A mi) (B mi) with h | h
          · have hv := val_cmp (f := fun j => if j < L then A j else 0) (g := B) (i := mi) (fun j => by split; exact hAb j ‹_›; omega) (by rw [if_pos (by omega)]; exact h) L (by omega) (fun j h1 h2 => by rw [if_pos h2]; exact Heq.out j (by omega) h2)
            rw [val_congr L (g := A) (fun j hj => by rw [if_pos hj])] at hv
            rw [decide_eq_true (Nat.le_of_lt hv), decide_eq_true h]
          · have hv := val_cmp (f := B) (g := A) (i := mi) hBb (by omega) L (by omega) (fun j h1 h2 => (Heq.out j (by omega) h2).symm)
            rw [decide_eq_false (by omega), decide_eq_false (by omega)]
        have Hr := Lib.hid hr
        clear hxy hr
        go_upto_region 7 with fail
        go_quiet (fail)
        go_upto_region 8 with fail
        go_quiet (fail)
        go_wp2_with fail
        go_ret
        exact ⟨ret_bool Hr.out.symm, (hu.of_drewN _).of_drewN _⟩
    · obtain rfl : t = 0 := by omega
      have hr : decide (val L A ≤ p * 65536 ^ k) = true := by
        rw [← HV.out, val_congr L (g := B) (fun j hj => heq j (by omega) hj)]
        exact decide_eq_true (Nat.le_refl _)
      rw [show ((0 : Nat) : Int) - 1 = -1 from rfl]
      have Hr := Lib.hid hr
      clear hr heq
      go_wp2_with fail
      go_ret
      exact ⟨ret_bool Hr.out.symm, hu⟩

theorem one_val : val 1 (fun _ => 1) = 1 := rfl
/-- y to the power of n, in digits: 3 n + 1 of them. -/
theorem pow_prod (y : Nat) (hy : y < 1099511627776) : (∀ k, k < 4 → prodD (fun _ => 1) 1 y k < 65536) ∧ val 4 (prodD (fun _ => 1) 1 y) = y := by
  refine ⟨fun k hk => prod_dig _ 1 y (by omega) (fun _ => by omega) hy k (by omega), ?_⟩
  have := prod_val (fun _ => 1) 1 y (by omega)
  rw [one_val, Nat.one_mul] at this
  exact this

def clip (L : Nat) (f : Nat → Nat) : Nat → Nat := fun k => if k < L then f k else 0
theorem clip_row (L : Nat) (f : Nat → Nat) : urow L f = urow L (clip L f) := by
  unfold urow
  exact row_congr fun i hi => by unfold clip; rw [if_pos hi]
theorem clip_val (L : Nat) (f : Nat → Nat) : val L (clip L f) = val L f := val_congr L fun k hk => by unfold clip; rw [if_pos hk]
theorem clip_bd {L : Nat} {f : Nat → Nat} (h : ∀ k, k < L → f k < 65536) (k : Nat) : clip L f k < 65536 := by
  unfold clip; split
  · exact h k ‹_›
  · omega

/-- times, of a row whose digits are known, by its value. -/
theorem rtimes_val (ab c L n : Nat) (A : Nat → Nat) (w : World) (hA : Blk w ab (urow L A) 71) (hAb : ∀ k, k < L → A k < 65536) (hL1 : 1 ≤ L) (hL : L ≤ 16) (hn : n < 1099511627776) :
    Calls Tryd.prog 55 #[.slice (some ⟨ab, 0, none⟩) L c, .int .u64 n] w fun e w' => ∃ ob R, e = .returned (.slice (some ⟨ob, 0, none⟩) (L + 3) (L + 3)) ∧ w.heap.size ≤ ob ∧ Blk w' ob (urow (L + 3) R) 71 ∧ (∀ k, k < L + 3 → R k < 65536) ∧ val (L + 3) R = val L A * n ∧ Upd [] w w' := by
  rw [clip_row] at hA
  refine (rtimes ab c L n (clip L A) w hA (clip_bd hAb) hL1 hL hn).mono ?_
  rintro e w' ⟨ob, h1, h2, h3, h4⟩
  exact ⟨ob, _, h1, h2, h3, fun k hk => prod_dig _ L n hL1 (clip_bd hAb) hn k hk, by rw [prod_val _ _ _ hL1, clip_val], h4⟩

theorem powOk_iff (n x p : Nat) (hn : n = 2 ∨ n = 3) : x ^ n ≤ p * 65536 ^ (2 * n) ↔ powOk n x p := by
  rcases hn with rfl | rfl
  · unfold powOk
    rw [if_pos rfl, Nat.pow_two]
  · unfold powOk
    rw [if_neg (by decide), show x ^ 3 = x * x * x from by rw [Nat.pow_succ, Nat.pow_two], Nat.mul_assoc p]

set_option maxRecDepth 100000 in
set_option maxHeartbeats 8000000 in
theorem rroot (p n r : Nat) (hn : n = 2 ∨ n = 3) (hp : p < 4096) (hr : r < 68719476736) (h1 : powOk n r p) (h2 : ¬ powOk n (r + 1) p) (w : World) :
    Calls Tryd.prog 46 #[.int .u64 p, .int .i64 n] w fun e w' => e = .returned (.int .u32 ((r % 4294967296 : Nat) : Int)) ∧ Upd [] w w' := by
  have H1 : Hid (∀ x, powOk n x p ↔ x ≤ r) := Lib.hid (fun x => ⟨fun hx => by
      rcases Nat.lt_or_ge r x with h | h
      · exact absurd (powOk_mono h hx) h2
      · exact h, fun h => powOk_mono h h1⟩)
  have hn3 : n ≤ 3 := by omega
  have hn1 : 1 ≤ n := by omega
  clear h1 h2
  go_enter Tryd.func46, Tryd.ntmps46
  go_wp2_with fail
  go_loopw [5, 6] (fun xv iv wr => ∃ x t : Nat, t ≤ 36 ∧ xv = .int .u64 x ∧ iv = .int .i64 ((t : Int) - 1) ∧ x ≤ r ∧ r < x + 2 ^ t ∧ x + 2 ^ t ≤ 68719476736 ∧ Upd [] w wr) (fun _ iv _ => (intOf iv + 1).toNat)
  case atStart => exact ⟨0, 36, by omega, rfl, rfl, by omega, by omega, by omega, Upd.refl [] w⟩
  case round =>
    obtain ⟨x, t, ht, rfl, rfl, hx, hx2, hx3, hu⟩ := hrel
    obtain ⟨wo, rfl⟩ : ∃ wo, wo = wr := ⟨_, rfl⟩
    by_cases h0 : 0 < t
    · obtain ⟨mi, rfl⟩ : ∃ mi, t = mi + 1 := ⟨t - 1, by omega⟩
      have em : (((mi + 1 : Nat) : Int)) - 1 = (mi : Int) := by omega
      rw [em]
      rw [Nat.pow_succ] at hx2 hx3
      obtain ⟨z, hz⟩ : ∃ z, 2 ^ mi = z := ⟨_, rfl⟩
      have hz0 : 0 < z := by rw [← hz]; exact Nat.pow_pos (by decide)
      rw [hz] at hx2 hx3
      obtain ⟨y, hy⟩ : ∃ y, x + z = y := ⟨_, rfl⟩
      have g1 : (0 : Int) ≤ mi := by omega
      have g2 : (mi : Int) ≤ 35 := by omega
      have ez : ((2 : Int) ^ mi) = (z : Int) := by rw [← hz]; simp
      have Hy := Lib.hid hy
      have hy2 : y < 68719476736 := by omega
      have hyi : (x : Int) + (z : Int) = (y : Int) := by omega
      clear em hz hy
      go_upto_region 6 with fail
      have Hz := Lib.hid (show 2 ^ mi = z from by have := ez; exact_mod_cast ez)
      have uB := hu.alloc (.cells #[.int .u64 1] 71)
      have hB : Blk (wo.alloc (.cells #[.int .u64 1] 71)) wo.heap.size (urow 1 fun _ => 1) 71 := Blk.new wo #[.int .u64 1] 71
      have Hyi := Lib.hid hyi
      clear ez hyi hu
      go_upto_region 7 with fail
      generalize wo.alloc (.cells #[.int .u64 1] 71) = W1 at *
      generalize wo.heap.size = g0 at *
      obtain ⟨k2, hk2⟩ : ∃ k2 : Nat, 2 * (n : Int) = k2 := ⟨2 * n, by omega⟩
      have hk2n : k2 = 2 * n := by omega
      have Hk2n := Lib.hid hk2n
      have n1 : (n : Int) ≤ 3 := by omega
      have n2 : (1 : Int) ≤ n := by omega
      clear hk2n
      go_wp2_with fail
      go_loopw [8, 9] (fun av kv wr => ∃ (ki g L : Nat) (R : Nat → Nat), ki ≤ n ∧ L = 3 * ki + 1 ∧ av = .slice (some ⟨g, 0, none⟩) L L ∧ kv = .int .i64 ki ∧ Blk wr g (urow L R) 71 ∧ (∀ j, j < L → R j < 65536) ∧ Hid (val L R = y ^ ki) ∧ Upd [] w wr) (fun _ kv _ => n - (intOf kv).toNat)
      case atStart => exact ⟨0, g0, 1, fun _ => 1, by omega, rfl, rfl, rfl, hB, fun j _ => (by decide : 1 < 65536), Lib.hid (by rw [Nat.pow_zero]; rfl), uB⟩
      case round =>
        clear hB uB
        obtain ⟨ki, g, L, R, hki, hL, rfl, rfl, hB, hR, HVal, hu⟩ := hrel
        obtain ⟨wp, rfl⟩ : ∃ wp, wp = wr := ⟨_, rfl⟩
        have k1 : (0 : Int) ≤ ki := by omega
        by_cases hlt : ki < n
        · have k3 : (ki : Int) < n := by omega
          have htm := rtimes_val g L L y R wp hB hR (by omega) (by omega) (by omega)
          have HL := Lib.hid hL
          clear hL
          go_wp2_with (go_at_call 55; refine htm.mono ?_; rintro e w3 ⟨ob, R2, rfl, hob, hB2, hR2, hv2, u3⟩; have HV2 := Lib.hid hv2; clear hv2)
          exact ⟨⟨ki + 1, ob, L + 3, R2, by omega, by have := HL.out; omega, rfl, by go_num, hB2, hR2, Lib.hid (by rw [HV2.out, HVal.out, Nat.pow_succ]), hu.trans_nil u3⟩, by simp [intOf]; omega⟩
        · obtain rfl : ki = n := by omega
          have hat := ratmost g L L k2 p R wp hB hR (by omega) (by have := Hk2n.out; omega) (by omega)
          have hdec : decide (val L R ≤ p * 65536 ^ k2) = decide (y ≤ r) := by
            have h1 := powOk_iff ki y p hn
            rw [HVal.out, Hk2n.out]
            exact decide_eq_decide.2 (h1.trans (H1.out y))
          rw [hdec] at hat
          have Hyy := Hy.out
          have HL := Lib.hid hL
          clear hdec hL
          by_cases hyr : y ≤ r
          · rw [decide_eq_true hyr] at hat
            have Hyr := Lib.hid hyr
            clear hyr
            go_wp2_with (go_at_call 56; refine hat.mono ?_; rintro e w4 ⟨rfl, u4⟩)
            exact ⟨⟨y, mi, by omega, rfl, by go_num, Hyr.out, by rw [Hz.out]; omega, by rw [Hz.out]; omega, hu.trans_nil u4⟩, by simp [intOf]⟩
          · rw [decide_eq_false hyr] at hat
            have Hyr := Lib.hid hyr
            clear hyr
            go_wp2_with (go_at_call 56; refine hat.mono ?_; rintro e w4 ⟨rfl, u4⟩)
            exact ⟨⟨x, mi, by omega, rfl, by go_num, hx, by rw [Hz.out]; have := Hyr.out; omega, by rw [Hz.out]; omega, hu.trans_nil u4⟩, by simp [intOf]⟩
    · obtain rfl : t = 0 := by omega
      have e : x = r := by rw [Nat.pow_zero] at hx2; omega
      subst e
      rw [show ((0 : Nat) : Int) - 1 = -1 from rfl]
      clear hx2 hx3
      go_wp2_with fail
      go_ret
      exact ⟨ret_int (by omega), hu⟩

end Go.Proofs.YtclfmgkomkmbjaaDoor
