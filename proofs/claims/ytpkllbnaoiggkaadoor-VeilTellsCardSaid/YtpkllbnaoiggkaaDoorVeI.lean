/- The document's labels: contracts of may, Check, bit, Flows. -/
import Derived.Test.YtpkllbnaoiggkaaDoorVeB
namespace Go.Proofs.YtpkllbnaoiggkaaDoor
open Go.RowKit

theorem rmay (L : Int) (P : Nat) (w : World) :
    Calls Tryd.prog 28 #[.agg #[.int .i64 L, .int .u32 P]] w fun e w' => e = .returned (.bool (mayL (L, P))) ∧ Upd [] w w' := by
  have ub := (Upd.refl [] w).alloc (.cells #[.int .i64 L, .int .u32 P] 24)
  by_cases h0 : L < 0
  · go_enter Tryd.func28, Tryd.ntmps28
    go_wp2_with fail
    go_ret
    exact ⟨ret_bool (by unfold mayL; symm; simp; omega), ub⟩
  · by_cases h7 : 7 < L
    · go_enter Tryd.func28, Tryd.ntmps28
      go_wp2_with fail
      go_ret
      exact ⟨ret_bool (by unfold mayL; symm; simp; omega), ub⟩
    · go_enter Tryd.func28, Tryd.ntmps28
      go_wp2_with fail
      go_ret
      exact ⟨ret_bool (by unfold mayL; symm; simp; omega), ub⟩

theorem rcheck (L : Int) (P : Nat) (w : World) :
    Calls Tryd.prog 10 #[.agg #[.int .i64 L, .int .u32 P]] w fun e w' => e = .returned (.int .i64 (chkL (L, P))) ∧ Upd [] w w' := by
  have ub := (Upd.refl [] w).alloc (.cells #[.int .i64 L, .int .u32 P] 24)
  by_cases hm : mayL (L, P) = true
  · rw [chkL_yes hm]
    go_enter Tryd.func10, Tryd.ntmps10
    go_wp2_with (go_at_call 28; refine (rmay L P _).mono ?_; rw [hm]; rintro e w3 ⟨rfl, hu3⟩)
    go_ret
    exact ⟨rfl, ub.trans_nil hu3⟩
  · rw [chkL_no hm]
    have hm' : mayL (L, P) = false := by simpa using hm
    go_enter Tryd.func10, Tryd.ntmps10
    go_wp2_with (go_at_call 28; refine (rmay L P _).mono ?_; rw [hm']; rintro e w3 ⟨rfl, hu3⟩)
    go_ret
    exact ⟨rfl, ub.trans_nil hu3⟩

theorem bit_fact (P i : Nat) (hP : P < 4294967296) : bits BinOp.and IntKind.u32 ((P : Int) / 2 ^ i) 1 = ((P.testBit i).toNat : Int) := by
  have h1 : ((P : Int) / 2 ^ i) = ((P / 2 ^ i : Nat) : Int) := by
    rw [Int.natCast_ediv]; norm_cast
  have hlt : P / 2 ^ i < 4294967296 := Nat.lt_of_le_of_lt (Nat.div_le_self _ _) hP
  rw [h1, show (1 : Int) = ((1 : Nat) : Int) by rfl, u32_and_nat _ _ hlt (by decide)]
  congr 1
  rw [Nat.and_one_is_mod, Nat.testBit_eq_decide_div_mod_eq]
  rcases Nat.mod_two_eq_zero_or_one (P / 2 ^ i) with h | h <;> rw [h] <;> rfl

theorem rbit (L : Int) (P i : Nat) (hP : P < 4294967296) (hi : i < 32) (w : World) :
    Calls Tryd.prog 30 #[.agg #[.int .i64 L, .int .u32 P], .int .i64 i] w fun e w' => e = .returned (.bool (P.testBit i)) ∧ Upd [] w w' := by
  have ub := (Upd.refl [] w).alloc (.cells #[.int .i64 L, .int .u32 P] 24)
  go_enter Tryd.func30, Tryd.ntmps30
  go_wp2_with fail
  go_ret
  exact ⟨ret_bool (by rw [bit_fact P i hP]; cases P.testBit i <;> rfl), ub⟩


/-- Flows of the bits below i. -/
def subTo (a b i : Nat) : Prop := ∀ j, j < i → a.testBit j = true → b.testBit j = true
theorem subTo_all {a b : Nat} (ha : a < 4294967296) : subTo a b 32 ↔ subN a b :=
  ⟨fun h j hj => h j (bit_lt ha hj) hj, fun h j _ hj => h j hj⟩

set_option maxRecDepth 100000 in
theorem rflows (a b : Lab) (ha : a.2 < 4294967296) (hb : b.2 < 4294967296) (w : World) :
    Calls Tryd.prog 12 #[labV a, labV b] w fun e w' => e = .returned (.bool (flowsL a b)) ∧ Upd [] w w' := by
  obtain ⟨L, P⟩ := a
  obtain ⟨M, Q⟩ := b
  dsimp only at ha hb
  have u2 := ((Upd.refl [] w).alloc (.cells #[.int .i64 L, .int .u32 P] 24)).alloc (.cells #[.int .i64 M, .int .u32 Q] 24)
  have hA0 := (Blk.new w #[.int .i64 L, .int .u32 P] 24).alloc (.cells #[.int .i64 M, .int .u32 Q] 24)
  have hB0 := Blk.new_at (w := w.alloc (.cells #[.int .i64 L, .int .u32 P] 24)) (cs := #[.int .i64 M, .int .u32 Q]) (l := [.int .i64 M, .int .u32 Q]) (T := 24) (n := w.heap.size + 1) (by simp) rfl
  generalize hW : (w.alloc (.cells #[.int .i64 L, .int .u32 P] 24)).alloc (.cells #[.int .i64 M, .int .u32 Q] 24) = W2 at *
  go_enter Tryd.func12, Tryd.ntmps12
  unfold labV
  go_upto_region 1 with fail
  try rw [hW]
  have a0 := hA0.cell 0 rfl
  have a1 := hA0.cell 1 rfl
  have b0 := hB0.cell 0 rfl
  have b1 := hB0.cell 1 rfl
  have hfl := flowsL_iff (L, P) (M, Q)
  dsimp only at hfl
  generalize hg : w.heap.size = t2 at *
  clear hW
  by_cases hmA : mayL (L, P) = true
  · by_cases hmB : mayL (M, Q) = true
    · by_cases hLM : M < L
      · have hr : flowsL (L, P) (M, Q) = false := by rw [← Bool.not_eq_true]; intro h; have := (hfl.1 h).2.2.1; omega
        clear hfl
        go_wp2_with (first
          | (go_at_call_of 28 (Value.agg #[.int .i64 L, .int .u32 P]); refine (rmay L P _).mono ?_; rw [hmA]; rintro e w3 ⟨rfl, hu3⟩; have hA3 := hA0.upd_nil hu3; have hB3 := hB0.upd_nil hu3; have p0 := hA3.cell 0 rfl; have p1 := hA3.cell 1 rfl; have r0 := hB3.cell 0 rfl; have r1 := hB3.cell 1 rfl)
          | (go_at_call_of 28 (Value.agg #[.int .i64 M, .int .u32 Q]); refine (rmay M Q _).mono ?_; rw [hmB]; rintro e w4 ⟨rfl, hu4⟩; have hA4 := hA3.upd_nil hu4; have hB4 := hB3.upd_nil hu4; have s0 := hA4.cell 0 rfl; have s1 := hB4.cell 0 rfl))
        go_ret
        exact ⟨ret_bool hr.symm, (u2.trans_nil hu3).trans_nil hu4⟩
      · have hfl2 : flowsL (L, P) (M, Q) = true ↔ subTo P Q 32 := by rw [hfl, subTo_all ha]; simp [hmA, hmB]; omega
        have Hfl := Lib.hid hfl2
        clear hfl hfl2
        go_wp2_with (first
          | (go_at_call_of 28 (Value.agg #[.int .i64 L, .int .u32 P]); refine (rmay L P _).mono ?_; rw [hmA]; rintro e w3 ⟨rfl, hu3⟩; have hA3 := hA0.upd_nil hu3; have hB3 := hB0.upd_nil hu3; have p0 := hA3.cell 0 rfl; have p1 := hA3.cell 1 rfl; have r0 := hB3.cell 0 rfl; have r1 := hB3.cell 1 rfl)
          | (go_at_call_of 28 (Value.agg #[.int .i64 M, .int .u32 Q]); refine (rmay M Q _).mono ?_; rw [hmB]; rintro e w4 ⟨rfl, hu4⟩; have hA4 := hA3.upd_nil hu4; have hB4 := hB3.upd_nil hu4; have s0 := hA4.cell 0 rfl; have s1 := hB4.cell 0 rfl))
        have u4 := (u2.trans_nil hu3).trans_nil hu4
        clear hu3 hu4 hA0 hB0 a0 a1 b0 b1 hA3 hB3 p0 p1 r0 r1 s0 s1
        go_loopw [5] (fun iv wr => ∃ i : Nat, i ≤ 32 ∧ iv = .int .i64 i ∧ Hid (subTo P Q i) ∧ Upd [] w wr ∧ Blk wr t2 [.int .i64 L, .int .u32 P] 24 ∧ Blk wr (t2 + 1) [.int .i64 M, .int .u32 Q] 24) (fun iv _ => 32 - (intOf iv).toNat)
        case atStart => exact ⟨0, by omega, rfl, Lib.hid (fun j hj => absurd hj (by omega)), u4, hA4, hB4⟩
        case round =>
          obtain ⟨i, hi, rfl, hsub, hu, hA, hB⟩ := hrel
          obtain ⟨wo, rfl⟩ : ∃ wo, wo = wr := ⟨_, rfl⟩
          have a0 := hA.cell 0 rfl
          have a1 := hA.cell 1 rfl
          by_cases hlt : i < 32
          · by_cases hbA : P.testBit i = true
            · by_cases hbB : Q.testBit i = true
              · go_wp2_with (first
                  | (go_at_call_of 30 (Value.agg #[.int .i64 L, .int .u32 P]); refine (rbit L P i ha hlt _).mono ?_; rw [hbA]; rintro e w3 ⟨rfl, hu3⟩; have hB3 := hB.upd_nil hu3; have r0 := hB3.cell 0 rfl; have r1 := hB3.cell 1 rfl)
                  | (go_at_call_of 30 (Value.agg #[.int .i64 M, .int .u32 Q]); refine (rbit M Q i hb hlt _).mono ?_; rw [hbB]; rintro e w4 ⟨rfl, hu4⟩))
                exact ⟨⟨i + 1, by omega, by go_num, Lib.hid (fun j hj h => by
                  rcases Nat.lt_or_ge j i with h1 | h1
                  · exact hsub.out j h1 h
                  · obtain rfl : j = i := by omega
                    exact hbB), (hu.trans_nil hu3).trans_nil hu4, (hA.upd_nil hu3).upd_nil hu4, hB3.upd_nil hu4⟩, by simp [intOf]; omega⟩
              · have hbB' : Q.testBit i = false := by simpa using hbB
                go_wp2_with (first
                  | (go_at_call_of 30 (Value.agg #[.int .i64 L, .int .u32 P]); refine (rbit L P i ha hlt _).mono ?_; rw [hbA]; rintro e w3 ⟨rfl, hu3⟩; have hB3 := hB.upd_nil hu3; have r0 := hB3.cell 0 rfl; have r1 := hB3.cell 1 rfl)
                  | (go_at_call_of 30 (Value.agg #[.int .i64 M, .int .u32 Q]); refine (rbit M Q i hb hlt _).mono ?_; rw [hbB']; rintro e w4 ⟨rfl, hu4⟩))
                go_ret
                refine ⟨ret_bool ?_, (hu.trans_nil hu3).trans_nil hu4⟩
                symm
                rw [← Bool.not_eq_true]
                exact fun h => hbB (Hfl.out.1 h i hlt hbA)
            · have hbA' : P.testBit i = false := by simpa using hbA
              go_wp2_with (go_at_call_of 30 (Value.agg #[.int .i64 L, .int .u32 P]); refine (rbit L P i ha hlt _).mono ?_; rw [hbA']; rintro e w3 ⟨rfl, hu3⟩)
              exact ⟨⟨i + 1, by omega, by go_num, Lib.hid (fun j hj h => by
                rcases Nat.lt_or_ge j i with h1 | h1
                · exact hsub.out j h1 h
                · obtain rfl : j = i := by omega
                  exact absurd h hbA), hu.trans_nil hu3, hA.upd_nil hu3, hB.upd_nil hu3⟩, by simp [intOf]; omega⟩
          · obtain rfl : i = 32 := by omega
            go_wp2_with fail
            go_ret
            exact ⟨ret_bool (Hfl.out.2 hsub.out).symm, hu⟩
    · have hmB' : mayL (M, Q) = false := by simpa using hmB
      have hr : flowsL (L, P) (M, Q) = false := by rw [← Bool.not_eq_true]; exact fun h => hmB (hfl.1 h).2.1
      clear hfl
      go_wp2_with (first
        | (go_at_call_of 28 (Value.agg #[.int .i64 L, .int .u32 P]); refine (rmay L P _).mono ?_; rw [hmA]; rintro e w3 ⟨rfl, hu3⟩; have hA3 := hA0.upd_nil hu3; have hB3 := hB0.upd_nil hu3; have p0 := hA3.cell 0 rfl; have p1 := hA3.cell 1 rfl; have r0 := hB3.cell 0 rfl; have r1 := hB3.cell 1 rfl)
        | (go_at_call_of 28 (Value.agg #[.int .i64 M, .int .u32 Q]); refine (rmay M Q _).mono ?_; rw [hmB']; rintro e w4 ⟨rfl, hu4⟩; have hA4 := hA3.upd_nil hu4; have hB4 := hB3.upd_nil hu4; have s0 := hA4.cell 0 rfl; have s1 := hB4.cell 0 rfl))
      go_ret
      exact ⟨ret_bool hr.symm, (u2.trans_nil hu3).trans_nil hu4⟩
  · have hmA' : mayL (L, P) = false := by simpa using hmA
    have hr : flowsL (L, P) (M, Q) = false := by rw [← Bool.not_eq_true]; exact fun h => hmA (hfl.1 h).1
    clear hfl
    go_wp2_with (go_at_call_of 28 (Value.agg #[.int .i64 L, .int .u32 P]); refine (rmay L P _).mono ?_; rw [hmA']; rintro e w3 ⟨rfl, hu3⟩; have hA3 := hA0.upd_nil hu3; have hB3 := hB0.upd_nil hu3; have p0 := hA3.cell 0 rfl; have p1 := hA3.cell 1 rfl; have r0 := hB3.cell 0 rfl; have r1 := hB3.cell 1 rfl)
    go_ret
    exact ⟨ret_bool hr.symm, u2.trans_nil hu3⟩

end Go.Proofs.YtpkllbnaoiggkaaDoor
