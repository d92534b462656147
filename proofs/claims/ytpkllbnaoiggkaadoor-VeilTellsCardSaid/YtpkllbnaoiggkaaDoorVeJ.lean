/- The document's labels: contracts of Join, Meet, JoinAll. -/
import Derived.Test.YtpkllbnaoiggkaaDoorVeI
namespace Go.Proofs.YtpkllbnaoiggkaaDoor
open Go.RowKit

theorem mod_two_succ (x i : Nat) : x % 2 ^ (i + 1) = x % 2 ^ i + 2 ^ i * (x.testBit i).toNat := by
  rw [Nat.pow_succ, Nat.mod_mul, Nat.testBit_eq_decide_div_mod_eq]
  rcases Nat.mod_two_eq_zero_or_one (x / 2 ^ i) with h | h <;> rw [h] <;> simp

def join2 (a b : Lab) : Lab := if mayL a = true ∧ mayL b = true then (max a.1 b.1, a.2 ||| b.2) else (0, 0)

set_option maxHeartbeats 2000000 in
set_option maxRecDepth 100000 in
theorem rjoin (a b : Lab) (ha : a.2 < 4294967296) (hb : b.2 < 4294967296) (w : World) :
    Calls Tryd.prog 31 #[labV a, labV b] w fun e w' => e = .returned (labV (join2 a b)) ∧ Upd [] w w' := by
  obtain ⟨L, P⟩ := a
  obtain ⟨M, Q⟩ := b
  dsimp only at ha hb
  have u2 := (((Upd.refl [] w).alloc (.cells #[.int .i64 L, .int .u32 P] 24)).alloc (.cells #[.int .i64 M, .int .u32 Q] 24)).alloc (.cells #[.int .i64 0, .int .u32 0] 24)
  have hA0 := ((Blk.new w #[.int .i64 L, .int .u32 P] 24).alloc (.cells #[.int .i64 M, .int .u32 Q] 24)).alloc (.cells #[.int .i64 0, .int .u32 0] 24)
  have hB0 := (Blk.new_at (w := w.alloc (.cells #[.int .i64 L, .int .u32 P] 24)) (cs := #[.int .i64 M, .int .u32 Q]) (l := [.int .i64 M, .int .u32 Q]) (T := 24) (n := w.heap.size + 1) (by simp) rfl).alloc (.cells #[.int .i64 0, .int .u32 0] 24)
  have hC0 := Blk.new_at (w := (w.alloc (.cells #[.int .i64 L, .int .u32 P] 24)).alloc (.cells #[.int .i64 M, .int .u32 Q] 24)) (cs := #[.int .i64 0, .int .u32 0]) (l := [.int .i64 0, .int .u32 0]) (T := 24) (n := w.heap.size + 2) (by simp) rfl
  generalize hW : ((w.alloc (.cells #[.int .i64 L, .int .u32 P] 24)).alloc (.cells #[.int .i64 M, .int .u32 Q] 24)).alloc (.cells #[.int .i64 0, .int .u32 0] 24) = W2 at *
  go_enter Tryd.func31, Tryd.ntmps31
  unfold labV
  go_upto_region 1 with fail
  try rw [hW]
  have a0 := hA0.cell 0 rfl
  have a1 := hA0.cell 1 rfl
  have b0 := hB0.cell 0 rfl
  have b1 := hB0.cell 1 rfl
  generalize hg : w.heap.size = t2 at *
  have ht2 : w.heap.size ≤ t2 + 2 := by omega
  clear hW
  by_cases hmA : mayL (L, P) = true
  · by_cases hmB : mayL (M, Q) = true
    · have hr : join2 (L, P) (M, Q) = (max L M, P ||| Q) := by unfold join2; rw [if_pos ⟨hmA, hmB⟩]
      have Hr := Lib.hid hr
      clear hr
      by_cases hML : L < M
      · have hML2 : ¬ M ≤ L := by omega
        obtain ⟨lv, rfl⟩ : ∃ lv, lv = M := ⟨_, rfl⟩
        have Hlv : Hid (max L lv = lv) := Lib.hid (by omega)
        go_wp2_with (first
          | (go_at_call_of 28 (Value.agg #[.int .i64 L, .int .u32 P]); refine (rmay L P _).mono ?_; rw [hmA]; rintro e w3 ⟨rfl, hu3⟩; have hA3 := hA0.upd_nil hu3; have hB3 := hB0.upd_nil hu3; have hC3 := hC0.upd_nil hu3; have p0 := hA3.cell 0 rfl; have p1 := hA3.cell 1 rfl; have r0 := hB3.cell 0 rfl; have r1 := hB3.cell 1 rfl; have q0 := hC3.cell 0 rfl; have q1 := hC3.cell 1 rfl; have f0 := hC3.free 0; have f1 := hC3.free 1)
          | (go_at_call_of 28 (Value.agg #[.int .i64 lv, .int .u32 Q]); refine (rmay lv Q _).mono ?_; rw [hmB]; rintro e w4 ⟨rfl, hu4⟩; have hA4 := hA3.upd_nil hu4; have hB4 := hB3.upd_nil hu4; have hC4 := hC3.upd_nil hu4; have s0 := hA4.cell 0 rfl; have s1 := hB4.cell 0 rfl; have s2 := hC4.cell 0 rfl; have s3 := hC4.cell 1 rfl; have g0 := hC4.free 0; have g1 := hC4.free 1))
        have u4 := (u2.trans_nil hu3).trans_nil hu4
        have hA5 := hA4.alloc (.cells #[.int .i64 lv, .int .u32 0] 24)
        have hB5 := hB4.alloc (.cells #[.int .i64 lv, .int .u32 0] 24)
        have hC5 := hC4.alloc (.cells #[.int .i64 lv, .int .u32 0] 24)
        have hD5 := Blk.new w4 #[.int .i64 lv, .int .u32 0] 24
        have u5 := u4.alloc (.cells #[.int .i64 lv, .int .u32 0] 24)
        have hl4 := hC4.lt
        have hs4 := u4.size
        generalize w4.alloc (.cells #[.int .i64 lv, .int .u32 0] 24) = W5 at hA5 hB5 hC5 hD5 u5 ⊢
        generalize w4.heap.size = t5 at hD5 hl4 hs4 ⊢
        clear hu3 hu4 hA0 hB0 hC0 a0 a1 b0 b1 hA3 hB3 hC3 p0 p1 r0 r1 q0 q1 f0 f1 s0 s1 s2 s3 g0 g1 hA4 hB4 hC4 u2
        go_loopw [6] (fun iv wr => ∃ i X : Nat, i ≤ 32 ∧ iv = .int .i64 i ∧ Hid (X = (P ||| Q) % 2 ^ i) ∧ Upd [] w wr ∧ Blk wr t2 [.int .i64 L, .int .u32 P] 24 ∧ Blk wr (t2 + 1) [.int .i64 lv, .int .u32 Q] 24 ∧ Blk wr (t2 + 2) [.int .i64 0, .int .u32 0] 24 ∧ Blk wr t5 [.int .i64 lv, .int .u32 X] 24) (fun iv _ => 32 - (intOf iv).toNat)
        case atStart => exact ⟨0, 0, by omega, rfl, Lib.hid (by simp [Nat.mod_one]), u5, hA5, hB5, hC5, hD5⟩
        case round =>
          obtain ⟨i, X, hi, rfl, HX, hu, hA, hB, hC, hD⟩ := hrel
          obtain ⟨wo, rfl⟩ : ∃ wo, wo = wr := ⟨_, rfl⟩
          have a0 := hA.cell 0 rfl
          have a1 := hA.cell 1 rfl
          by_cases hlt : i < 32
          · by_cases hbA : P.testBit i = true
            · have hbit : (P ||| Q).testBit i = true := by rw [Nat.testBit_or, hbA, Bool.true_or]
              have hX2 : X + 2 ^ i = (P ||| Q) % 2 ^ (i + 1) := by rw [mod_two_succ, hbit, HX.out]; simp
              have hXT : X < 2 ^ i := by rw [HX.out]; exact Nat.mod_lt _ (Nat.two_pow_pos i)
              have hT32 : 2 ^ i ≤ 2147483648 := Nat.pow_le_pow_right (by decide : 0 < 2) (by omega : i ≤ 31)
              have H5 : Hid (((X : Int) + 2 ^ i) % 4294967296 = ((X + 2 ^ i : Nat) : Int)) := Lib.hid (by rw [Int.natCast_add, show ((2 ^ i : Nat) : Int) = (2 : Int) ^ i by norm_cast]; (have h9 : ((2 ^ i : Nat) : Int) = (2 : Int) ^ i := by norm_cast); exact Int.emod_eq_of_lt (by omega) (by omega))
              generalize 2 ^ i = T at hX2 hXT hT32 H5
              have HX2 := Lib.hid hX2
              clear hX2 hbit
              go_wp2_with (go_at_call_of 30 (Value.agg #[.int .i64 L, .int .u32 P]); refine (rbit L P i ha hlt _).mono ?_; rw [hbA]; rintro e w3 ⟨rfl, hu3⟩; have hA3 := hA.upd_nil hu3; have hB3 := hB.upd_nil hu3; have hC3 := hC.upd_nil hu3; have hD3 := hD.upd_nil hu3; have hs3 := hu.trans_nil hu3; have r0 := hB3.cell 0 rfl; have r1 := hB3.cell 1 rfl; have d0 := hD3.cell 0 rfl; have d1 := hD3.cell 1 rfl; have f1 := hD3.free 1)
              go_region
              go_wp2_with fail
              have hD5 := (hD3.set 1 (.int .u32 (((X : Int) + 2 ^ i) % 4294967296))).drew
              rw [show ([.int .i64 lv, .int .u32 X] : List Value).set 1 (.int .u32 (((X : Int) + 2 ^ i) % 4294967296)) = [.int .i64 lv, .int .u32 ((X + T : Nat) : Int)] by rw [H5.out]; rfl] at hD5
              exact ⟨⟨i + 1, X + T, by omega, by go_num, Lib.hid HX2.out, (hs3.setCell (Or.inr (by show w.heap.size ≤ t5; omega)) _).drew, (hA3.set_ne _ (by show t2 ≠ t5; omega) _).drew, (hB3.set_ne _ (by show t2 + 1 ≠ t5; omega) _).drew, (hC3.set_ne _ (by show t2 + 2 ≠ t5; omega) _).drew, hD5⟩, by simp [intOf]; omega⟩
            · have hbA' : P.testBit i = false := by simpa using hbA
              by_cases hbB : Q.testBit i = true
              · have hbit : (P ||| Q).testBit i = true := by rw [Nat.testBit_or, hbA', hbB, Bool.false_or]
                have hX2 : X + 2 ^ i = (P ||| Q) % 2 ^ (i + 1) := by rw [mod_two_succ, hbit, HX.out]; simp
                have hXT : X < 2 ^ i := by rw [HX.out]; exact Nat.mod_lt _ (Nat.two_pow_pos i)
                have hT32 : 2 ^ i ≤ 2147483648 := Nat.pow_le_pow_right (by decide : 0 < 2) (by omega : i ≤ 31)
                have H5 : Hid (((X : Int) + 2 ^ i) % 4294967296 = ((X + 2 ^ i : Nat) : Int)) := Lib.hid (by rw [Int.natCast_add, show ((2 ^ i : Nat) : Int) = (2 : Int) ^ i by norm_cast]; (have h9 : ((2 ^ i : Nat) : Int) = (2 : Int) ^ i := by norm_cast); exact Int.emod_eq_of_lt (by omega) (by omega))
                generalize 2 ^ i = T at hX2 hXT hT32 H5
                have HX2 := Lib.hid hX2
                clear hX2 hbit
                go_wp2_with (first | (go_at_call_of 30 (Value.agg #[.int .i64 L, .int .u32 P]); refine (rbit L P i ha hlt _).mono ?_; rw [hbA']; rintro e w3 ⟨rfl, hu3⟩; have hA3 := hA.upd_nil hu3; have hB3 := hB.upd_nil hu3; have hC3 := hC.upd_nil hu3; have hD3 := hD.upd_nil hu3; have hs3 := hu.trans_nil hu3; have r0 := hB3.cell 0 rfl; have r1 := hB3.cell 1 rfl; have d0 := hD3.cell 0 rfl; have d1 := hD3.cell 1 rfl; have f1 := hD3.free 1) | (go_at_call_of 30 (Value.agg #[.int .i64 lv, .int .u32 Q]); refine (rbit lv Q i hb hlt _).mono ?_; rw [hbB]; rintro e w4 ⟨rfl, hu4⟩; have hA4 := hA3.upd_nil hu4; have hB4 := hB3.upd_nil hu4; have hC4 := hC3.upd_nil hu4; have hD4 := hD3.upd_nil hu4; have hs4 := hs3.trans_nil hu4; have k0 := hD4.cell 0 rfl; have k1 := hD4.cell 1 rfl; have h1 := hD4.free 1))
                go_region
                go_wp2_with fail
                have hD5 := (hD4.set 1 (.int .u32 (((X : Int) + 2 ^ i) % 4294967296))).drew
                rw [show ([.int .i64 lv, .int .u32 X] : List Value).set 1 (.int .u32 (((X : Int) + 2 ^ i) % 4294967296)) = [.int .i64 lv, .int .u32 ((X + T : Nat) : Int)] by rw [H5.out]; rfl] at hD5
                exact ⟨⟨i + 1, X + T, by omega, by go_num, Lib.hid HX2.out, (hs4.setCell (Or.inr (by show w.heap.size ≤ t5; omega)) _).drew, (hA4.set_ne _ (by show t2 ≠ t5; omega) _).drew, (hB4.set_ne _ (by show t2 + 1 ≠ t5; omega) _).drew, (hC4.set_ne _ (by show t2 + 2 ≠ t5; omega) _).drew, hD5⟩, by simp [intOf]; omega⟩
              · have hbB' : Q.testBit i = false := by simpa using hbB
                have hbit : (P ||| Q).testBit i = false := by rw [Nat.testBit_or, hbA', hbB', Bool.false_or]
                have hX2 : X = (P ||| Q) % 2 ^ (i + 1) := by rw [mod_two_succ, hbit, HX.out]; simp
                have HX2 := Lib.hid hX2
                clear hX2 hbit
                go_wp2_with (first | (go_at_call_of 30 (Value.agg #[.int .i64 L, .int .u32 P]); refine (rbit L P i ha hlt _).mono ?_; rw [hbA']; rintro e w3 ⟨rfl, hu3⟩; have hA3 := hA.upd_nil hu3; have hB3 := hB.upd_nil hu3; have hC3 := hC.upd_nil hu3; have hD3 := hD.upd_nil hu3; have hs3 := hu.trans_nil hu3; have r0 := hB3.cell 0 rfl; have r1 := hB3.cell 1 rfl; have d0 := hD3.cell 0 rfl; have d1 := hD3.cell 1 rfl; have f1 := hD3.free 1) | (go_at_call_of 30 (Value.agg #[.int .i64 lv, .int .u32 Q]); refine (rbit lv Q i hb hlt _).mono ?_; rw [hbB']; rintro e w4 ⟨rfl, hu4⟩; have hA4 := hA3.upd_nil hu4; have hB4 := hB3.upd_nil hu4; have hC4 := hC3.upd_nil hu4; have hD4 := hD3.upd_nil hu4; have hs4 := hs3.trans_nil hu4; have k0 := hD4.cell 0 rfl; have k1 := hD4.cell 1 rfl; have h1 := hD4.free 1))
                exact ⟨⟨i + 1, X, by omega, by go_num, HX2, hs4, hA4, hB4, hC4, hD4⟩, by simp [intOf]; omega⟩
          · obtain rfl : i = 32 := by omega
            have hX3 : X = P ||| Q := by rw [HX.out]; exact Nat.mod_eq_of_lt (or_lt ha hb)
            have d0 := hD.cell 0 rfl
            have d1 := hD.cell 1 rfl
            have c0 := hC.cell 0 rfl
            have c1 := hC.cell 1 rfl
            have f0 := hC.free 0
            have f1 := hC.free 1
            have HX3 := Lib.hid hX3
            clear hX3
            go_wp2_with fail
            have hN := (hC.set 0 (.int .i64 lv)).set 1 (.int .u32 X)
            have hU := (hu.setCell (p := ⟨t2 + 2, 0, none⟩) (Or.inr ht2) (.int .i64 lv)).setCell (p := ⟨t2 + 2, 1, none⟩) (Or.inr ht2) (.int .u32 X)
            generalize (wo.setCell ⟨t2 + 2, 0, none⟩ (.int .i64 lv)).setCell ⟨t2 + 2, 1, none⟩ (.int .u32 X) = W at hN hU ⊢
            have z0 := hN.cell 0 rfl
            have z1 := hN.cell 1 rfl
            exact bodyPost_ret (v := labV (lv, X)) (by simp [results, Tryd.results31, go_sem, z0, z1, labV]) rfl ⟨by rw [Hr.out, HX3.out, Hlv.out]; rfl, hU⟩
      · have hML2 : M ≤ L := by omega
        obtain ⟨lv, rfl⟩ : ∃ lv, lv = L := ⟨_, rfl⟩
        have Hlv : Hid (max lv M = lv) := Lib.hid (by omega)
        go_wp2_with (first
          | (go_at_call_of 28 (Value.agg #[.int .i64 lv, .int .u32 P]); refine (rmay lv P _).mono ?_; rw [hmA]; rintro e w3 ⟨rfl, hu3⟩; have hA3 := hA0.upd_nil hu3; have hB3 := hB0.upd_nil hu3; have hC3 := hC0.upd_nil hu3; have p0 := hA3.cell 0 rfl; have p1 := hA3.cell 1 rfl; have r0 := hB3.cell 0 rfl; have r1 := hB3.cell 1 rfl; have q0 := hC3.cell 0 rfl; have q1 := hC3.cell 1 rfl; have f0 := hC3.free 0; have f1 := hC3.free 1)
          | (go_at_call_of 28 (Value.agg #[.int .i64 M, .int .u32 Q]); refine (rmay M Q _).mono ?_; rw [hmB]; rintro e w4 ⟨rfl, hu4⟩; have hA4 := hA3.upd_nil hu4; have hB4 := hB3.upd_nil hu4; have hC4 := hC3.upd_nil hu4; have s0 := hA4.cell 0 rfl; have s1 := hB4.cell 0 rfl; have s2 := hC4.cell 0 rfl; have s3 := hC4.cell 1 rfl; have g0 := hC4.free 0; have g1 := hC4.free 1))
        have u4 := (u2.trans_nil hu3).trans_nil hu4
        have hA5 := hA4.alloc (.cells #[.int .i64 lv, .int .u32 0] 24)
        have hB5 := hB4.alloc (.cells #[.int .i64 lv, .int .u32 0] 24)
        have hC5 := hC4.alloc (.cells #[.int .i64 lv, .int .u32 0] 24)
        have hD5 := Blk.new w4 #[.int .i64 lv, .int .u32 0] 24
        have u5 := u4.alloc (.cells #[.int .i64 lv, .int .u32 0] 24)
        have hl4 := hC4.lt
        have hs4 := u4.size
        generalize w4.alloc (.cells #[.int .i64 lv, .int .u32 0] 24) = W5 at hA5 hB5 hC5 hD5 u5 ⊢
        generalize w4.heap.size = t5 at hD5 hl4 hs4 ⊢
        clear hu3 hu4 hA0 hB0 hC0 a0 a1 b0 b1 hA3 hB3 hC3 p0 p1 r0 r1 q0 q1 f0 f1 s0 s1 s2 s3 g0 g1 hA4 hB4 hC4 u2
        go_loopw [6] (fun iv wr => ∃ i X : Nat, i ≤ 32 ∧ iv = .int .i64 i ∧ Hid (X = (P ||| Q) % 2 ^ i) ∧ Upd [] w wr ∧ Blk wr t2 [.int .i64 lv, .int .u32 P] 24 ∧ Blk wr (t2 + 1) [.int .i64 M, .int .u32 Q] 24 ∧ Blk wr (t2 + 2) [.int .i64 0, .int .u32 0] 24 ∧ Blk wr t5 [.int .i64 lv, .int .u32 X] 24) (fun iv _ => 32 - (intOf iv).toNat)
        case atStart => exact ⟨0, 0, by omega, rfl, Lib.hid (by simp [Nat.mod_one]), u5, hA5, hB5, hC5, hD5⟩
        case round =>
          obtain ⟨i, X, hi, rfl, HX, hu, hA, hB, hC, hD⟩ := hrel
          obtain ⟨wo, rfl⟩ : ∃ wo, wo = wr := ⟨_, rfl⟩
          have a0 := hA.cell 0 rfl
          have a1 := hA.cell 1 rfl
          by_cases hlt : i < 32
          · by_cases hbA : P.testBit i = true
            · have hbit : (P ||| Q).testBit i = true := by rw [Nat.testBit_or, hbA, Bool.true_or]
              have hX2 : X + 2 ^ i = (P ||| Q) % 2 ^ (i + 1) := by rw [mod_two_succ, hbit, HX.out]; simp
              have hXT : X < 2 ^ i := by rw [HX.out]; exact Nat.mod_lt _ (Nat.two_pow_pos i)
              have hT32 : 2 ^ i ≤ 2147483648 := Nat.pow_le_pow_right (by decide : 0 < 2) (by omega : i ≤ 31)
              have H5 : Hid (((X : Int) + 2 ^ i) % 4294967296 = ((X + 2 ^ i : Nat) : Int)) := Lib.hid (by rw [Int.natCast_add, show ((2 ^ i : Nat) : Int) = (2 : Int) ^ i by norm_cast]; (have h9 : ((2 ^ i : Nat) : Int) = (2 : Int) ^ i := by norm_cast); exact Int.emod_eq_of_lt (by omega) (by omega))
              generalize 2 ^ i = T at hX2 hXT hT32 H5
              have HX2 := Lib.hid hX2
              clear hX2 hbit
              go_wp2_with (go_at_call_of 30 (Value.agg #[.int .i64 lv, .int .u32 P]); refine (rbit lv P i ha hlt _).mono ?_; rw [hbA]; rintro e w3 ⟨rfl, hu3⟩; have hA3 := hA.upd_nil hu3; have hB3 := hB.upd_nil hu3; have hC3 := hC.upd_nil hu3; have hD3 := hD.upd_nil hu3; have hs3 := hu.trans_nil hu3; have r0 := hB3.cell 0 rfl; have r1 := hB3.cell 1 rfl; have d0 := hD3.cell 0 rfl; have d1 := hD3.cell 1 rfl; have f1 := hD3.free 1)
              go_region
              go_wp2_with fail
              have hD5 := (hD3.set 1 (.int .u32 (((X : Int) + 2 ^ i) % 4294967296))).drew
              rw [show ([.int .i64 lv, .int .u32 X] : List Value).set 1 (.int .u32 (((X : Int) + 2 ^ i) % 4294967296)) = [.int .i64 lv, .int .u32 ((X + T : Nat) : Int)] by rw [H5.out]; rfl] at hD5
              exact ⟨⟨i + 1, X + T, by omega, by go_num, Lib.hid HX2.out, (hs3.setCell (Or.inr (by show w.heap.size ≤ t5; omega)) _).drew, (hA3.set_ne _ (by show t2 ≠ t5; omega) _).drew, (hB3.set_ne _ (by show t2 + 1 ≠ t5; omega) _).drew, (hC3.set_ne _ (by show t2 + 2 ≠ t5; omega) _).drew, hD5⟩, by simp [intOf]; omega⟩
            · have hbA' : P.testBit i = false := by simpa using hbA
              by_cases hbB : Q.testBit i = true
              · have hbit : (P ||| Q).testBit i = true := by rw [Nat.testBit_or, hbA', hbB, Bool.false_or]
                have hX2 : X + 2 ^ i = (P ||| Q) % 2 ^ (i + 1) := by rw [mod_two_succ, hbit, HX.out]; simp
                have hXT : X < 2 ^ i := by rw [HX.out]; exact Nat.mod_lt _ (Nat.two_pow_pos i)
                have hT32 : 2 ^ i ≤ 2147483648 := Nat.pow_le_pow_right (by decide : 0 < 2) (by omega : i ≤ 31)
                have H5 : Hid (((X : Int) + 2 ^ i) % 4294967296 = ((X + 2 ^ i : Nat) : Int)) := Lib.hid (by rw [Int.natCast_add, show ((2 ^ i : Nat) : Int) = (2 : Int) ^ i by norm_cast]; (have h9 : ((2 ^ i : Nat) : Int) = (2 : Int) ^ i := by norm_cast); exact Int.emod_eq_of_lt (by omega) (by omega))
                generalize 2 ^ i = T at hX2 hXT hT32 H5
                have HX2 := Lib.hid hX2
                clear hX2 hbit
                go_wp2_with (first | (go_at_call_of 30 (Value.agg #[.int .i64 lv, .int .u32 P]); refine (rbit lv P i ha hlt _).mono ?_; rw [hbA']; rintro e w3 ⟨rfl, hu3⟩; have hA3 := hA.upd_nil hu3; have hB3 := hB.upd_nil hu3; have hC3 := hC.upd_nil hu3; have hD3 := hD.upd_nil hu3; have hs3 := hu.trans_nil hu3; have r0 := hB3.cell 0 rfl; have r1 := hB3.cell 1 rfl; have d0 := hD3.cell 0 rfl; have d1 := hD3.cell 1 rfl; have f1 := hD3.free 1) | (go_at_call_of 30 (Value.agg #[.int .i64 M, .int .u32 Q]); refine (rbit M Q i hb hlt _).mono ?_; rw [hbB]; rintro e w4 ⟨rfl, hu4⟩; have hA4 := hA3.upd_nil hu4; have hB4 := hB3.upd_nil hu4; have hC4 := hC3.upd_nil hu4; have hD4 := hD3.upd_nil hu4; have hs4 := hs3.trans_nil hu4; have k0 := hD4.cell 0 rfl; have k1 := hD4.cell 1 rfl; have h1 := hD4.free 1))
                go_region
                go_wp2_with fail
                have hD5 := (hD4.set 1 (.int .u32 (((X : Int) + 2 ^ i) % 4294967296))).drew
                rw [show ([.int .i64 lv, .int .u32 X] : List Value).set 1 (.int .u32 (((X : Int) + 2 ^ i) % 4294967296)) = [.int .i64 lv, .int .u32 ((X + T : Nat) : Int)] by rw [H5.out]; rfl] at hD5
                exact ⟨⟨i + 1, X + T, by omega, by go_num, Lib.hid HX2.out, (hs4.setCell (Or.inr (by show w.heap.size ≤ t5; omega)) _).drew, (hA4.set_ne _ (by show t2 ≠ t5; omega) _).drew, (hB4.set_ne _ (by show t2 + 1 ≠ t5; omega) _).drew, (hC4.set_ne _ (by show t2 + 2 ≠ t5; omega) _).drew, hD5⟩, by simp [intOf]; omega⟩
              · have hbB' : Q.testBit i = false := by simpa using hbB
                have hbit : (P ||| Q).testBit i = false := by rw [Nat.testBit_or, hbA', hbB', Bool.false_or]
                have hX2 : X = (P ||| Q) % 2 ^ (i + 1) := by rw [mod_two_succ, hbit, HX.out]; simp
                have HX2 := Lib.hid hX2
                clear hX2 hbit
                go_wp2_with (first | (go_at_call_of 30 (Value.agg #[.int .i64 lv, .int .u32 P]); refine (rbit lv P i ha hlt _).mono ?_; rw [hbA']; rintro e w3 ⟨rfl, hu3⟩; have hA3 := hA.upd_nil hu3; have hB3 := hB.upd_nil hu3; have hC3 := hC.upd_nil hu3; have hD3 := hD.upd_nil hu3; have hs3 := hu.trans_nil hu3; have r0 := hB3.cell 0 rfl; have r1 := hB3.cell 1 rfl; have d0 := hD3.cell 0 rfl; have d1 := hD3.cell 1 rfl; have f1 := hD3.free 1) | (go_at_call_of 30 (Value.agg #[.int .i64 M, .int .u32 Q]); refine (rbit M Q i hb hlt _).mono ?_; rw [hbB']; rintro e w4 ⟨rfl, hu4⟩; have hA4 := hA3.upd_nil hu4; have hB4 := hB3.upd_nil hu4; have hC4 := hC3.upd_nil hu4; have hD4 := hD3.upd_nil hu4; have hs4 := hs3.trans_nil hu4; have k0 := hD4.cell 0 rfl; have k1 := hD4.cell 1 rfl; have h1 := hD4.free 1))
                exact ⟨⟨i + 1, X, by omega, by go_num, HX2, hs4, hA4, hB4, hC4, hD4⟩, by simp [intOf]; omega⟩
          · obtain rfl : i = 32 := by omega
            have hX3 : X = P ||| Q := by rw [HX.out]; exact Nat.mod_eq_of_lt (or_lt ha hb)
            have d0 := hD.cell 0 rfl
            have d1 := hD.cell 1 rfl
            have c0 := hC.cell 0 rfl
            have c1 := hC.cell 1 rfl
            have f0 := hC.free 0
            have f1 := hC.free 1
            have HX3 := Lib.hid hX3
            clear hX3
            go_wp2_with fail
            have hN := (hC.set 0 (.int .i64 lv)).set 1 (.int .u32 X)
            have hU := (hu.setCell (p := ⟨t2 + 2, 0, none⟩) (Or.inr ht2) (.int .i64 lv)).setCell (p := ⟨t2 + 2, 1, none⟩) (Or.inr ht2) (.int .u32 X)
            generalize (wo.setCell ⟨t2 + 2, 0, none⟩ (.int .i64 lv)).setCell ⟨t2 + 2, 1, none⟩ (.int .u32 X) = W at hN hU ⊢
            have z0 := hN.cell 0 rfl
            have z1 := hN.cell 1 rfl
            exact bodyPost_ret (v := labV (lv, X)) (by simp [results, Tryd.results31, go_sem, z0, z1, labV]) rfl ⟨by rw [Hr.out, HX3.out, Hlv.out]; rfl, hU⟩
    · have hmB' : mayL (M, Q) = false := by simpa using hmB
      have hr : join2 (L, P) (M, Q) = (0, 0) := by unfold join2; rw [if_neg (fun h => hmB h.2)]
      go_wp2_with (first
        | (go_at_call_of 28 (Value.agg #[.int .i64 L, .int .u32 P]); refine (rmay L P _).mono ?_; rw [hmA]; rintro e w3 ⟨rfl, hu3⟩; have hA3 := hA0.upd_nil hu3; have hB3 := hB0.upd_nil hu3; have hC3 := hC0.upd_nil hu3; have p0 := hA3.cell 0 rfl; have p1 := hA3.cell 1 rfl; have r0 := hB3.cell 0 rfl; have r1 := hB3.cell 1 rfl; have q0 := hC3.cell 0 rfl; have q1 := hC3.cell 1 rfl; have f0 := hC3.free 0; have f1 := hC3.free 1)
        | (go_at_call_of 28 (Value.agg #[.int .i64 M, .int .u32 Q]); refine (rmay M Q _).mono ?_; rw [hmB']; rintro e w4 ⟨rfl, hu4⟩; have hA4 := hA3.upd_nil hu4; have hB4 := hB3.upd_nil hu4; have hC4 := hC3.upd_nil hu4; have s0 := hA4.cell 0 rfl; have s1 := hB4.cell 0 rfl; have s2 := hC4.cell 0 rfl; have s3 := hC4.cell 1 rfl; have g0 := hC4.free 0; have g1 := hC4.free 1))
      have hN := (hC4.set 0 (.int .i64 0)).set 1 (.int .u32 0)
      have hU := (((u2.trans_nil hu3).trans_nil hu4).setCell (p := ⟨t2 + 2, 0, none⟩) (Or.inr ht2) (.int .i64 0)).setCell (p := ⟨t2 + 2, 1, none⟩) (Or.inr ht2) (.int .u32 0)
      generalize (w4.setCell ⟨t2 + 2, 0, none⟩ (.int .i64 0)).setCell ⟨t2 + 2, 1, none⟩ (.int .u32 0) = W at hN hU ⊢
      have z0 := hN.cell 0 rfl
      have z1 := hN.cell 1 rfl
      exact bodyPost_ret (v := labV (0, 0)) (by simp [results, Tryd.results31, go_sem, z0, z1, labV]) rfl ⟨by rw [hr]; rfl, hU⟩
  · have hmA' : mayL (L, P) = false := by simpa using hmA
    have hr : join2 (L, P) (M, Q) = (0, 0) := by unfold join2; rw [if_neg (fun h => hmA h.1)]
    go_wp2_with (go_at_call_of 28 (Value.agg #[.int .i64 L, .int .u32 P]); refine (rmay L P _).mono ?_; rw [hmA']; rintro e w3 ⟨rfl, hu3⟩; have hA3 := hA0.upd_nil hu3; have hB3 := hB0.upd_nil hu3; have hC3 := hC0.upd_nil hu3; have p0 := hA3.cell 0 rfl; have p1 := hA3.cell 1 rfl; have r0 := hB3.cell 0 rfl; have r1 := hB3.cell 1 rfl; have q0 := hC3.cell 0 rfl; have q1 := hC3.cell 1 rfl; have f0 := hC3.free 0; have f1 := hC3.free 1)
    have hN := (hC3.set 0 (.int .i64 0)).set 1 (.int .u32 0)
    have hU := ((u2.trans_nil hu3).setCell (p := ⟨t2 + 2, 0, none⟩) (Or.inr ht2) (.int .i64 0)).setCell (p := ⟨t2 + 2, 1, none⟩) (Or.inr ht2) (.int .u32 0)
    generalize (w3.setCell ⟨t2 + 2, 0, none⟩ (.int .i64 0)).setCell ⟨t2 + 2, 1, none⟩ (.int .u32 0) = W at hN hU ⊢
    have z0 := hN.cell 0 rfl
    have z1 := hN.cell 1 rfl
    exact bodyPost_ret (v := labV (0, 0)) (by simp [results, Tryd.results31, go_sem, z0, z1, labV]) rfl ⟨by rw [hr]; rfl, hU⟩

set_option maxHeartbeats 2000000 in
set_option maxRecDepth 100000 in
theorem rmeet (a b : Lab) (ha : a.2 < 4294967296) (hb : b.2 < 4294967296) (w : World) :
    Calls Tryd.prog 16 #[labV a, labV b] w fun e w' => e = .returned (labV (meetL a b)) ∧ Upd [] w w' := by
  obtain ⟨L, P⟩ := a
  obtain ⟨M, Q⟩ := b
  dsimp only at ha hb
  have u2 := (((Upd.refl [] w).alloc (.cells #[.int .i64 L, .int .u32 P] 24)).alloc (.cells #[.int .i64 M, .int .u32 Q] 24)).alloc (.cells #[.int .i64 0, .int .u32 0] 24)
  have hA0 := ((Blk.new w #[.int .i64 L, .int .u32 P] 24).alloc (.cells #[.int .i64 M, .int .u32 Q] 24)).alloc (.cells #[.int .i64 0, .int .u32 0] 24)
  have hB0 := (Blk.new_at (w := w.alloc (.cells #[.int .i64 L, .int .u32 P] 24)) (cs := #[.int .i64 M, .int .u32 Q]) (l := [.int .i64 M, .int .u32 Q]) (T := 24) (n := w.heap.size + 1) (by simp) rfl).alloc (.cells #[.int .i64 0, .int .u32 0] 24)
  have hC0 := Blk.new_at (w := (w.alloc (.cells #[.int .i64 L, .int .u32 P] 24)).alloc (.cells #[.int .i64 M, .int .u32 Q] 24)) (cs := #[.int .i64 0, .int .u32 0]) (l := [.int .i64 0, .int .u32 0]) (T := 24) (n := w.heap.size + 2) (by simp) rfl
  generalize hW : ((w.alloc (.cells #[.int .i64 L, .int .u32 P] 24)).alloc (.cells #[.int .i64 M, .int .u32 Q] 24)).alloc (.cells #[.int .i64 0, .int .u32 0] 24) = W2 at *
  go_enter Tryd.func16, Tryd.ntmps16
  unfold labV
  go_upto_region 1 with fail
  try rw [hW]
  have a0 := hA0.cell 0 rfl
  have a1 := hA0.cell 1 rfl
  have b0 := hB0.cell 0 rfl
  have b1 := hB0.cell 1 rfl
  generalize hg : w.heap.size = t2 at *
  have ht2 : w.heap.size ≤ t2 + 2 := by omega
  clear hW
  by_cases hmA : mayL (L, P) = true
  · by_cases hmB : mayL (M, Q) = true
    · have hr : meetL (L, P) (M, Q) = (min L M, P &&& Q) := by unfold meetL; rw [if_pos ⟨hmA, hmB⟩]
      have Hr := Lib.hid hr
      clear hr
      by_cases hML : M < L
      · have hML2 : ¬ L ≤ M := by omega
        obtain ⟨lv, rfl⟩ : ∃ lv, lv = M := ⟨_, rfl⟩
        have Hlv : Hid (min L lv = lv) := Lib.hid (by omega)
        go_wp2_with (first
          | (go_at_call_of 28 (Value.agg #[.int .i64 L, .int .u32 P]); refine (rmay L P _).mono ?_; rw [hmA]; rintro e w3 ⟨rfl, hu3⟩; have hA3 := hA0.upd_nil hu3; have hB3 := hB0.upd_nil hu3; have hC3 := hC0.upd_nil hu3; have p0 := hA3.cell 0 rfl; have p1 := hA3.cell 1 rfl; have r0 := hB3.cell 0 rfl; have r1 := hB3.cell 1 rfl; have q0 := hC3.cell 0 rfl; have q1 := hC3.cell 1 rfl; have f0 := hC3.free 0; have f1 := hC3.free 1)
          | (go_at_call_of 28 (Value.agg #[.int .i64 lv, .int .u32 Q]); refine (rmay lv Q _).mono ?_; rw [hmB]; rintro e w4 ⟨rfl, hu4⟩; have hA4 := hA3.upd_nil hu4; have hB4 := hB3.upd_nil hu4; have hC4 := hC3.upd_nil hu4; have s0 := hA4.cell 0 rfl; have s1 := hB4.cell 0 rfl; have s2 := hC4.cell 0 rfl; have s3 := hC4.cell 1 rfl; have g0 := hC4.free 0; have g1 := hC4.free 1))
        have u4 := (u2.trans_nil hu3).trans_nil hu4
        have hA5 := hA4.alloc (.cells #[.int .i64 lv, .int .u32 0] 24)
        have hB5 := hB4.alloc (.cells #[.int .i64 lv, .int .u32 0] 24)
        have hC5 := hC4.alloc (.cells #[.int .i64 lv, .int .u32 0] 24)
        have hD5 := Blk.new w4 #[.int .i64 lv, .int .u32 0] 24
        have u5 := u4.alloc (.cells #[.int .i64 lv, .int .u32 0] 24)
        have hl4 := hC4.lt
        have hs4 := u4.size
        generalize w4.alloc (.cells #[.int .i64 lv, .int .u32 0] 24) = W5 at hA5 hB5 hC5 hD5 u5 ⊢
        generalize w4.heap.size = t5 at hD5 hl4 hs4 ⊢
        clear hu3 hu4 hA0 hB0 hC0 a0 a1 b0 b1 hA3 hB3 hC3 p0 p1 r0 r1 q0 q1 f0 f1 s0 s1 s2 s3 g0 g1 hA4 hB4 hC4 u2
        go_loopw [6] (fun iv wr => ∃ i X : Nat, i ≤ 32 ∧ iv = .int .i64 i ∧ Hid (X = (P &&& Q) % 2 ^ i) ∧ Upd [] w wr ∧ Blk wr t2 [.int .i64 L, .int .u32 P] 24 ∧ Blk wr (t2 + 1) [.int .i64 lv, .int .u32 Q] 24 ∧ Blk wr (t2 + 2) [.int .i64 0, .int .u32 0] 24 ∧ Blk wr t5 [.int .i64 lv, .int .u32 X] 24) (fun iv _ => 32 - (intOf iv).toNat)
        case atStart => exact ⟨0, 0, by omega, rfl, Lib.hid (by simp [Nat.mod_one]), u5, hA5, hB5, hC5, hD5⟩
        case round =>
          obtain ⟨i, X, hi, rfl, HX, hu, hA, hB, hC, hD⟩ := hrel
          obtain ⟨wo, rfl⟩ : ∃ wo, wo = wr := ⟨_, rfl⟩
          have a0 := hA.cell 0 rfl
          have a1 := hA.cell 1 rfl
          by_cases hlt : i < 32
          · by_cases hbA : P.testBit i = true
            · by_cases hbB : Q.testBit i = true
              · have hbit : (P &&& Q).testBit i = true := by rw [Nat.testBit_and, hbA, hbB, Bool.true_and]
                have hX2 : X + 2 ^ i = (P &&& Q) % 2 ^ (i + 1) := by rw [mod_two_succ, hbit, HX.out]; simp
                have hXT : X < 2 ^ i := by rw [HX.out]; exact Nat.mod_lt _ (Nat.two_pow_pos i)
                have hT32 : 2 ^ i ≤ 2147483648 := Nat.pow_le_pow_right (by decide : 0 < 2) (by omega : i ≤ 31)
                have H5 : Hid (((X : Int) + 2 ^ i) % 4294967296 = ((X + 2 ^ i : Nat) : Int)) := Lib.hid (by rw [Int.natCast_add, show ((2 ^ i : Nat) : Int) = (2 : Int) ^ i by norm_cast]; (have h9 : ((2 ^ i : Nat) : Int) = (2 : Int) ^ i := by norm_cast); exact Int.emod_eq_of_lt (by omega) (by omega))
                generalize 2 ^ i = T at hX2 hXT hT32 H5
                have HX2 := Lib.hid hX2
                clear hX2 hbit
                go_wp2_with (first | (go_at_call_of 30 (Value.agg #[.int .i64 L, .int .u32 P]); refine (rbit L P i ha hlt _).mono ?_; rw [hbA]; rintro e w3 ⟨rfl, hu3⟩; have hA3 := hA.upd_nil hu3; have hB3 := hB.upd_nil hu3; have hC3 := hC.upd_nil hu3; have hD3 := hD.upd_nil hu3; have hs3 := hu.trans_nil hu3; have r0 := hB3.cell 0 rfl; have r1 := hB3.cell 1 rfl; have d0 := hD3.cell 0 rfl; have d1 := hD3.cell 1 rfl; have f1 := hD3.free 1) | (go_at_call_of 30 (Value.agg #[.int .i64 lv, .int .u32 Q]); refine (rbit lv Q i hb hlt _).mono ?_; rw [hbB]; rintro e w4 ⟨rfl, hu4⟩; have hA4 := hA3.upd_nil hu4; have hB4 := hB3.upd_nil hu4; have hC4 := hC3.upd_nil hu4; have hD4 := hD3.upd_nil hu4; have hs4 := hs3.trans_nil hu4; have k0 := hD4.cell 0 rfl; have k1 := hD4.cell 1 rfl; have h1 := hD4.free 1))
                go_region
                go_wp2_with fail
                have hD5 := (hD4.set 1 (.int .u32 (((X : Int) + 2 ^ i) % 4294967296))).drew
                rw [show ([.int .i64 lv, .int .u32 X] : List Value).set 1 (.int .u32 (((X : Int) + 2 ^ i) % 4294967296)) = [.int .i64 lv, .int .u32 ((X + T : Nat) : Int)] by rw [H5.out]; rfl] at hD5
                exact ⟨⟨i + 1, X + T, by omega, by go_num, Lib.hid HX2.out, (hs4.setCell (Or.inr (by show w.heap.size ≤ t5; omega)) _).drew, (hA4.set_ne _ (by show t2 ≠ t5; omega) _).drew, (hB4.set_ne _ (by show t2 + 1 ≠ t5; omega) _).drew, (hC4.set_ne _ (by show t2 + 2 ≠ t5; omega) _).drew, hD5⟩, by simp [intOf]; omega⟩
              · have hbB' : Q.testBit i = false := by simpa using hbB
                have hbit : (P &&& Q).testBit i = false := by rw [Nat.testBit_and, hbA, hbB', Bool.true_and]
                have hX2 : X = (P &&& Q) % 2 ^ (i + 1) := by rw [mod_two_succ, hbit, HX.out]; simp
                have HX2 := Lib.hid hX2
                clear hX2 hbit
                go_wp2_with (first | (go_at_call_of 30 (Value.agg #[.int .i64 L, .int .u32 P]); refine (rbit L P i ha hlt _).mono ?_; rw [hbA]; rintro e w3 ⟨rfl, hu3⟩; have hA3 := hA.upd_nil hu3; have hB3 := hB.upd_nil hu3; have hC3 := hC.upd_nil hu3; have hD3 := hD.upd_nil hu3; have hs3 := hu.trans_nil hu3; have r0 := hB3.cell 0 rfl; have r1 := hB3.cell 1 rfl; have d0 := hD3.cell 0 rfl; have d1 := hD3.cell 1 rfl; have f1 := hD3.free 1) | (go_at_call_of 30 (Value.agg #[.int .i64 lv, .int .u32 Q]); refine (rbit lv Q i hb hlt _).mono ?_; rw [hbB']; rintro e w4 ⟨rfl, hu4⟩; have hA4 := hA3.upd_nil hu4; have hB4 := hB3.upd_nil hu4; have hC4 := hC3.upd_nil hu4; have hD4 := hD3.upd_nil hu4; have hs4 := hs3.trans_nil hu4; have k0 := hD4.cell 0 rfl; have k1 := hD4.cell 1 rfl; have h1 := hD4.free 1))
                exact ⟨⟨i + 1, X, by omega, by go_num, HX2, hs4, hA4, hB4, hC4, hD4⟩, by simp [intOf]; omega⟩
            · have hbA' : P.testBit i = false := by simpa using hbA
              have hbit : (P &&& Q).testBit i = false := by rw [Nat.testBit_and, hbA', Bool.false_and]
              have hX2 : X = (P &&& Q) % 2 ^ (i + 1) := by rw [mod_two_succ, hbit, HX.out]; simp
              have HX2 := Lib.hid hX2
              clear hX2 hbit
              go_wp2_with (go_at_call_of 30 (Value.agg #[.int .i64 L, .int .u32 P]); refine (rbit L P i ha hlt _).mono ?_; rw [hbA']; rintro e w3 ⟨rfl, hu3⟩; have hA3 := hA.upd_nil hu3; have hB3 := hB.upd_nil hu3; have hC3 := hC.upd_nil hu3; have hD3 := hD.upd_nil hu3; have hs3 := hu.trans_nil hu3; have r0 := hB3.cell 0 rfl; have r1 := hB3.cell 1 rfl; have d0 := hD3.cell 0 rfl; have d1 := hD3.cell 1 rfl; have f1 := hD3.free 1)
              exact ⟨⟨i + 1, X, by omega, by go_num, HX2, hs3, hA3, hB3, hC3, hD3⟩, by simp [intOf]; omega⟩
          · obtain rfl : i = 32 := by omega
            have hX3 : X = P &&& Q := by rw [HX.out]; exact Nat.mod_eq_of_lt (and_lt ha)
            have d0 := hD.cell 0 rfl
            have d1 := hD.cell 1 rfl
            have c0 := hC.cell 0 rfl
            have c1 := hC.cell 1 rfl
            have f0 := hC.free 0
            have f1 := hC.free 1
            have HX3 := Lib.hid hX3
            clear hX3
            go_wp2_with fail
            have hN := (hC.set 0 (.int .i64 lv)).set 1 (.int .u32 X)
            have hU := (hu.setCell (p := ⟨t2 + 2, 0, none⟩) (Or.inr ht2) (.int .i64 lv)).setCell (p := ⟨t2 + 2, 1, none⟩) (Or.inr ht2) (.int .u32 X)
            generalize (wo.setCell ⟨t2 + 2, 0, none⟩ (.int .i64 lv)).setCell ⟨t2 + 2, 1, none⟩ (.int .u32 X) = W at hN hU ⊢
            have z0 := hN.cell 0 rfl
            have z1 := hN.cell 1 rfl
            exact bodyPost_ret (v := labV (lv, X)) (by simp [results, Tryd.results16, go_sem, z0, z1, labV]) rfl ⟨by rw [Hr.out, HX3.out, Hlv.out]; rfl, hU⟩
      · have hML2 : L ≤ M := by omega
        obtain ⟨lv, rfl⟩ : ∃ lv, lv = L := ⟨_, rfl⟩
        have Hlv : Hid (min lv M = lv) := Lib.hid (by omega)
        go_wp2_with (first
          | (go_at_call_of 28 (Value.agg #[.int .i64 lv, .int .u32 P]); refine (rmay lv P _).mono ?_; rw [hmA]; rintro e w3 ⟨rfl, hu3⟩; have hA3 := hA0.upd_nil hu3; have hB3 := hB0.upd_nil hu3; have hC3 := hC0.upd_nil hu3; have p0 := hA3.cell 0 rfl; have p1 := hA3.cell 1 rfl; have r0 := hB3.cell 0 rfl; have r1 := hB3.cell 1 rfl; have q0 := hC3.cell 0 rfl; have q1 := hC3.cell 1 rfl; have f0 := hC3.free 0; have f1 := hC3.free 1)
          | (go_at_call_of 28 (Value.agg #[.int .i64 M, .int .u32 Q]); refine (rmay M Q _).mono ?_; rw [hmB]; rintro e w4 ⟨rfl, hu4⟩; have hA4 := hA3.upd_nil hu4; have hB4 := hB3.upd_nil hu4; have hC4 := hC3.upd_nil hu4; have s0 := hA4.cell 0 rfl; have s1 := hB4.cell 0 rfl; have s2 := hC4.cell 0 rfl; have s3 := hC4.cell 1 rfl; have g0 := hC4.free 0; have g1 := hC4.free 1))
        have u4 := (u2.trans_nil hu3).trans_nil hu4
        have hA5 := hA4.alloc (.cells #[.int .i64 lv, .int .u32 0] 24)
        have hB5 := hB4.alloc (.cells #[.int .i64 lv, .int .u32 0] 24)
        have hC5 := hC4.alloc (.cells #[.int .i64 lv, .int .u32 0] 24)
        have hD5 := Blk.new w4 #[.int .i64 lv, .int .u32 0] 24
        have u5 := u4.alloc (.cells #[.int .i64 lv, .int .u32 0] 24)
        have hl4 := hC4.lt
        have hs4 := u4.size
        generalize w4.alloc (.cells #[.int .i64 lv, .int .u32 0] 24) = W5 at hA5 hB5 hC5 hD5 u5 ⊢
        generalize w4.heap.size = t5 at hD5 hl4 hs4 ⊢
        clear hu3 hu4 hA0 hB0 hC0 a0 a1 b0 b1 hA3 hB3 hC3 p0 p1 r0 r1 q0 q1 f0 f1 s0 s1 s2 s3 g0 g1 hA4 hB4 hC4 u2
        go_loopw [6] (fun iv wr => ∃ i X : Nat, i ≤ 32 ∧ iv = .int .i64 i ∧ Hid (X = (P &&& Q) % 2 ^ i) ∧ Upd [] w wr ∧ Blk wr t2 [.int .i64 lv, .int .u32 P] 24 ∧ Blk wr (t2 + 1) [.int .i64 M, .int .u32 Q] 24 ∧ Blk wr (t2 + 2) [.int .i64 0, .int .u32 0] 24 ∧ Blk wr t5 [.int .i64 lv, .int .u32 X] 24) (fun iv _ => 32 - (intOf iv).toNat)
        case atStart => exact ⟨0, 0, by omega, rfl, Lib.hid (by simp [Nat.mod_one]), u5, hA5, hB5, hC5, hD5⟩
        case round =>
          obtain ⟨i, X, hi, rfl, HX, hu, hA, hB, hC, hD⟩ := hrel
          obtain ⟨wo, rfl⟩ : ∃ wo, wo = wr := ⟨_, rfl⟩
          have a0 := hA.cell 0 rfl
          have a1 := hA.cell 1 rfl
          by_cases hlt : i < 32
          · by_cases hbA : P.testBit i = true
            · by_cases hbB : Q.testBit i = true
              · have hbit : (P &&& Q).testBit i = true := by rw [Nat.testBit_and, hbA, hbB, Bool.true_and]
                have hX2 : X + 2 ^ i = (P &&& Q) % 2 ^ (i + 1) := by rw [mod_two_succ, hbit, HX.out]; simp
                have hXT : X < 2 ^ i := by rw [HX.out]; exact Nat.mod_lt _ (Nat.two_pow_pos i)
                have hT32 : 2 ^ i ≤ 2147483648 := Nat.pow_le_pow_right (by decide : 0 < 2) (by omega : i ≤ 31)
                have H5 : Hid (((X : Int) + 2 ^ i) % 4294967296 = ((X + 2 ^ i : Nat) : Int)) := Lib.hid (by rw [Int.natCast_add, show ((2 ^ i : Nat) : Int) = (2 : Int) ^ i by norm_cast]; (have h9 : ((2 ^ i : Nat) : Int) = (2 : Int) ^ i := by norm_cast); exact Int.emod_eq_of_lt (by omega) (by omega))
                generalize 2 ^ i = T at hX2 hXT hT32 H5
                have HX2 := Lib.hid hX2
                clear hX2 hbit
                go_wp2_with (first | (go_at_call_of 30 (Value.agg #[.int .i64 lv, .int .u32 P]); refine (rbit lv P i ha hlt _).mono ?_; rw [hbA]; rintro e w3 ⟨rfl, hu3⟩; have hA3 := hA.upd_nil hu3; have hB3 := hB.upd_nil hu3; have hC3 := hC.upd_nil hu3; have hD3 := hD.upd_nil hu3; have hs3 := hu.trans_nil hu3; have r0 := hB3.cell 0 rfl; have r1 := hB3.cell 1 rfl; have d0 := hD3.cell 0 rfl; have d1 := hD3.cell 1 rfl; have f1 := hD3.free 1) | (go_at_call_of 30 (Value.agg #[.int .i64 M, .int .u32 Q]); refine (rbit M Q i hb hlt _).mono ?_; rw [hbB]; rintro e w4 ⟨rfl, hu4⟩; have hA4 := hA3.upd_nil hu4; have hB4 := hB3.upd_nil hu4; have hC4 := hC3.upd_nil hu4; have hD4 := hD3.upd_nil hu4; have hs4 := hs3.trans_nil hu4; have k0 := hD4.cell 0 rfl; have k1 := hD4.cell 1 rfl; have h1 := hD4.free 1))
                go_region
                go_wp2_with fail
                have hD5 := (hD4.set 1 (.int .u32 (((X : Int) + 2 ^ i) % 4294967296))).drew
                rw [show ([.int .i64 lv, .int .u32 X] : List Value).set 1 (.int .u32 (((X : Int) + 2 ^ i) % 4294967296)) = [.int .i64 lv, .int .u32 ((X + T : Nat) : Int)] by rw [H5.out]; rfl] at hD5
                exact ⟨⟨i + 1, X + T, by omega, by go_num, Lib.hid HX2.out, (hs4.setCell (Or.inr (by show w.heap.size ≤ t5; omega)) _).drew, (hA4.set_ne _ (by show t2 ≠ t5; omega) _).drew, (hB4.set_ne _ (by show t2 + 1 ≠ t5; omega) _).drew, (hC4.set_ne _ (by show t2 + 2 ≠ t5; omega) _).drew, hD5⟩, by simp [intOf]; omega⟩
              · have hbB' : Q.testBit i = false := by simpa using hbB
                have hbit : (P &&& Q).testBit i = false := by rw [Nat.testBit_and, hbA, hbB', Bool.true_and]
                have hX2 : X = (P &&& Q) % 2 ^ (i + 1) := by rw [mod_two_succ, hbit, HX.out]; simp
                have HX2 := Lib.hid hX2
                clear hX2 hbit
                go_wp2_with (first | (go_at_call_of 30 (Value.agg #[.int .i64 lv, .int .u32 P]); refine (rbit lv P i ha hlt _).mono ?_; rw [hbA]; rintro e w3 ⟨rfl, hu3⟩; have hA3 := hA.upd_nil hu3; have hB3 := hB.upd_nil hu3; have hC3 := hC.upd_nil hu3; have hD3 := hD.upd_nil hu3; have hs3 := hu.trans_nil hu3; have r0 := hB3.cell 0 rfl; have r1 := hB3.cell 1 rfl; have d0 := hD3.cell 0 rfl; have d1 := hD3.cell 1 rfl; have f1 := hD3.free 1) | (go_at_call_of 30 (Value.agg #[.int .i64 M, .int .u32 Q]); refine (rbit M Q i hb hlt _).mono ?_; rw [hbB']; rintro e w4 ⟨rfl, hu4⟩; have hA4 := hA3.upd_nil hu4; have hB4 := hB3.upd_nil hu4; have hC4 := hC3.upd_nil hu4; have hD4 := hD3.upd_nil hu4; have hs4 := hs3.trans_nil hu4; have k0 := hD4.cell 0 rfl; have k1 := hD4.cell 1 rfl; have h1 := hD4.free 1))
                exact ⟨⟨i + 1, X, by omega, by go_num, HX2, hs4, hA4, hB4, hC4, hD4⟩, by simp [intOf]; omega⟩
            · have hbA' : P.testBit i = false := by simpa using hbA
              have hbit : (P &&& Q).testBit i = false := by rw [Nat.testBit_and, hbA', Bool.false_and]
              have hX2 : X = (P &&& Q) % 2 ^ (i + 1) := by rw [mod_two_succ, hbit, HX.out]; simp
              have HX2 := Lib.hid hX2
              clear hX2 hbit
              go_wp2_with (go_at_call_of 30 (Value.agg #[.int .i64 lv, .int .u32 P]); refine (rbit lv P i ha hlt _).mono ?_; rw [hbA']; rintro e w3 ⟨rfl, hu3⟩; have hA3 := hA.upd_nil hu3; have hB3 := hB.upd_nil hu3; have hC3 := hC.upd_nil hu3; have hD3 := hD.upd_nil hu3; have hs3 := hu.trans_nil hu3; have r0 := hB3.cell 0 rfl; have r1 := hB3.cell 1 rfl; have d0 := hD3.cell 0 rfl; have d1 := hD3.cell 1 rfl; have f1 := hD3.free 1)
              exact ⟨⟨i + 1, X, by omega, by go_num, HX2, hs3, hA3, hB3, hC3, hD3⟩, by simp [intOf]; omega⟩
          · obtain rfl : i = 32 := by omega
            have hX3 : X = P &&& Q := by rw [HX.out]; exact Nat.mod_eq_of_lt (and_lt ha)
            have d0 := hD.cell 0 rfl
            have d1 := hD.cell 1 rfl
            have c0 := hC.cell 0 rfl
            have c1 := hC.cell 1 rfl
            have f0 := hC.free 0
            have f1 := hC.free 1
            have HX3 := Lib.hid hX3
            clear hX3
            go_wp2_with fail
            have hN := (hC.set 0 (.int .i64 lv)).set 1 (.int .u32 X)
            have hU := (hu.setCell (p := ⟨t2 + 2, 0, none⟩) (Or.inr ht2) (.int .i64 lv)).setCell (p := ⟨t2 + 2, 1, none⟩) (Or.inr ht2) (.int .u32 X)
            generalize (wo.setCell ⟨t2 + 2, 0, none⟩ (.int .i64 lv)).setCell ⟨t2 + 2, 1, none⟩ (.int .u32 X) = W at hN hU ⊢
            have z0 := hN.cell 0 rfl
            have z1 := hN.cell 1 rfl
            exact bodyPost_ret (v := labV (lv, X)) (by simp [results, Tryd.results16, go_sem, z0, z1, labV]) rfl ⟨by rw [Hr.out, HX3.out, Hlv.out]; rfl, hU⟩
    · have hmB' : mayL (M, Q) = false := by simpa using hmB
      have hr : meetL (L, P) (M, Q) = (0, 0) := by unfold meetL; rw [if_neg (fun h => hmB h.2)]
      go_wp2_with (first
        | (go_at_call_of 28 (Value.agg #[.int .i64 L, .int .u32 P]); refine (rmay L P _).mono ?_; rw [hmA]; rintro e w3 ⟨rfl, hu3⟩; have hA3 := hA0.upd_nil hu3; have hB3 := hB0.upd_nil hu3; have hC3 := hC0.upd_nil hu3; have p0 := hA3.cell 0 rfl; have p1 := hA3.cell 1 rfl; have r0 := hB3.cell 0 rfl; have r1 := hB3.cell 1 rfl; have q0 := hC3.cell 0 rfl; have q1 := hC3.cell 1 rfl; have f0 := hC3.free 0; have f1 := hC3.free 1)
        | (go_at_call_of 28 (Value.agg #[.int .i64 M, .int .u32 Q]); refine (rmay M Q _).mono ?_; rw [hmB']; rintro e w4 ⟨rfl, hu4⟩; have hA4 := hA3.upd_nil hu4; have hB4 := hB3.upd_nil hu4; have hC4 := hC3.upd_nil hu4; have s0 := hA4.cell 0 rfl; have s1 := hB4.cell 0 rfl; have s2 := hC4.cell 0 rfl; have s3 := hC4.cell 1 rfl; have g0 := hC4.free 0; have g1 := hC4.free 1))
      have hN := (hC4.set 0 (.int .i64 0)).set 1 (.int .u32 0)
      have hU := (((u2.trans_nil hu3).trans_nil hu4).setCell (p := ⟨t2 + 2, 0, none⟩) (Or.inr ht2) (.int .i64 0)).setCell (p := ⟨t2 + 2, 1, none⟩) (Or.inr ht2) (.int .u32 0)
      generalize (w4.setCell ⟨t2 + 2, 0, none⟩ (.int .i64 0)).setCell ⟨t2 + 2, 1, none⟩ (.int .u32 0) = W at hN hU ⊢
      have z0 := hN.cell 0 rfl
      have z1 := hN.cell 1 rfl
      exact bodyPost_ret (v := labV (0, 0)) (by simp [results, Tryd.results16, go_sem, z0, z1, labV]) rfl ⟨by rw [hr]; rfl, hU⟩
  · have hmA' : mayL (L, P) = false := by simpa using hmA
    have hr : meetL (L, P) (M, Q) = (0, 0) := by unfold meetL; rw [if_neg (fun h => hmA h.1)]
    go_wp2_with (go_at_call_of 28 (Value.agg #[.int .i64 L, .int .u32 P]); refine (rmay L P _).mono ?_; rw [hmA']; rintro e w3 ⟨rfl, hu3⟩; have hA3 := hA0.upd_nil hu3; have hB3 := hB0.upd_nil hu3; have hC3 := hC0.upd_nil hu3; have p0 := hA3.cell 0 rfl; have p1 := hA3.cell 1 rfl; have r0 := hB3.cell 0 rfl; have r1 := hB3.cell 1 rfl; have q0 := hC3.cell 0 rfl; have q1 := hC3.cell 1 rfl; have f0 := hC3.free 0; have f1 := hC3.free 1)
    have hN := (hC3.set 0 (.int .i64 0)).set 1 (.int .u32 0)
    have hU := ((u2.trans_nil hu3).setCell (p := ⟨t2 + 2, 0, none⟩) (Or.inr ht2) (.int .i64 0)).setCell (p := ⟨t2 + 2, 1, none⟩) (Or.inr ht2) (.int .u32 0)
    generalize (w3.setCell ⟨t2 + 2, 0, none⟩ (.int .i64 0)).setCell ⟨t2 + 2, 1, none⟩ (.int .u32 0) = W at hN hU ⊢
    have z0 := hN.cell 0 rfl
    have z1 := hN.cell 1 rfl
    exact bodyPost_ret (v := labV (0, 0)) (by simp [results, Tryd.results16, go_sem, z0, z1, labV]) rfl ⟨by rw [hr]; rfl, hU⟩

end Go.Proofs.YtpkllbnaoiggkaaDoor
