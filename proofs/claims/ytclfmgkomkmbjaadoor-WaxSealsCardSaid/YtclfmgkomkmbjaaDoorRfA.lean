/- The document's SHA-256: a word turned; a number a prime. -/
import Derived.Test.YtclfmgkomkmbjaaDoorKnD
import Derived.Test.YtclfmgkomkmbjaaDoorBit
namespace Go.Proofs.YtclfmgkomkmbjaaDoor
open Go.RowKit

set_option maxRecDepth 100000 in
theorem rturn (x : Int) (n : Nat) (c : Int) (hc : c = n) (h0 : 0 ≤ x) (h1 : x < 4294967296) (hn : 1 ≤ n) (hn2 : n ≤ 31) (w : World) :
    Calls Tryd.prog 47 #[.int .u32 x, .int .i64 c] w fun e w' => e = .returned (.int .u32 (rotr x n)) ∧ Upd [] w w' := by
  subst hc
  obtain ⟨m, hm⟩ : ∃ m : Nat, (32 : Int) - n = m := ⟨32 - n, by omega⟩
  have Hm := Lib.hid hm
  have hm1 : m ≤ 31 := by omega
  have hwm : IntKind.i64.wrap (m : Int) = m := by rw [IntKind.wrap_i64]; omega
  have he : Hid (bits BinOp.or IntKind.u32 (x / 2 ^ n) (IntKind.u32.wrap (x * 2 ^ m)) = rotr x n) := Lib.hid (by
    unfold rotr shl32
    rw [or_comm32, hm, Int.toNat_natCast, Nat.min_eq_left (by omega)])
  clear hm
  go_enter Tryd.func47, Tryd.ntmps47
  go_upto_region 1 with fail
  refine wp_region_spec [(.eq (.int .u32 x)), (.eq (.int .i64 (n : Int))), (.eq (.int .u32 (x / 2 ^ n))), (.eq (.int .u32 x)), (.eq (.int .i64 (n : Int))), (.eq (.int .i64 (m : Int))), (.eq (.int .u32 (IntKind.u32.wrap (x * 2 ^ m)))), (.eq (.int .u32 (rotr x n))), (.eq (.int .u32 (rotr x n)))] (by kernel_rfl) (by kernel_rfl) rfl ?step ?fin
  case step =>
    intro i o ho a w' hS hold hneed K' hK
    match i, ho with
    | 0, ho =>
      obtain rfl := Option.some.inj ho
      have d0 := hold 0 _ (by kernel_rfl) rfl
      clear hold hneed ho
      (go_simp; exact hK _ _ rfl (Upd.refl [] _))
    | 1, ho =>
      obtain rfl := Option.some.inj ho
      have d1 := hold 1 _ (by kernel_rfl) rfl
      clear hold hneed ho
      (go_simp; exact hK _ _ rfl (Upd.refl [] _))
    | 2, ho =>
      obtain rfl := Option.some.inj ho
      have d5 := get_of_at (hneed 0 (of_decide_eq_true (by kernel_rfl)) 5 rfl) (by simp [undef])
      have d6 := get_of_at (hneed 1 (of_decide_eq_true (by kernel_rfl)) 6 rfl) (by simp [undef])
      clear hold hneed ho
      (go_simp; exact hK _ _ rfl (Upd.refl [] _))
    | 3, ho =>
      obtain rfl := Option.some.inj ho
      have d0 := hold 0 _ (by kernel_rfl) rfl
      clear hold hneed ho
      (go_simp; exact hK _ _ rfl (Upd.refl [] _))
    | 4, ho =>
      obtain rfl := Option.some.inj ho
      have d1 := hold 1 _ (by kernel_rfl) rfl
      clear hold hneed ho
      (go_simp; exact hK _ _ rfl (Upd.refl [] _))
    | 5, ho =>
      obtain rfl := Option.some.inj ho
      have d9 := get_of_at (hneed 4 (of_decide_eq_true (by kernel_rfl)) 9 rfl) (by simp [undef])
      clear hold hneed ho
      (go_simp; rw [Hm.out, hwm]; exact hK _ _ rfl (Upd.refl [] _))
    | 6, ho =>
      obtain rfl := Option.some.inj ho
      have d8 := get_of_at (hneed 3 (of_decide_eq_true (by kernel_rfl)) 8 rfl) (by simp [undef])
      have d10 := get_of_at (hneed 5 (of_decide_eq_true (by kernel_rfl)) 10 rfl) (by simp [undef])
      clear hold hneed ho
      (go_simp; exact hK _ _ rfl (Upd.refl [] _))
    | 7, ho =>
      obtain rfl := Option.some.inj ho
      have d7 := get_of_at (hneed 2 (of_decide_eq_true (by kernel_rfl)) 7 rfl) (by simp [undef])
      have d11 := get_of_at (hneed 6 (of_decide_eq_true (by kernel_rfl)) 11 rfl) (by simp [undef])
      clear hold hneed ho
      (go_simp; rw [he.out]; exact hK _ _ rfl (Upd.refl [] _))
    | 8, ho =>
      obtain rfl := Option.some.inj ho
      have d12 := get_of_at (hneed 7 (of_decide_eq_true (by kernel_rfl)) 12 rfl) (by simp [undef])
      clear hold hneed ho
      (go_simp; exact hK _ _ rfl (Upd.refl [] _))
    | _ + 9, ho => exact absurd ho (by simp)
  case fin =>
    intro a w' hS hsz hdf hold hvals
    have ha := act_lit hsz hdf (RowIs.cons (at_of_get (hold 0 _ (by kernel_rfl) rfl)) (RowIs.cons (at_of_get (hold 1 _ (by kernel_rfl) rfl)) (RowIs.cons (at_of_get (hold 2 _ (by kernel_rfl) rfl)) (RowIs.cons (at_of_get (hold 3 _ (by kernel_rfl) rfl)) (RowIs.cons (hvals 8 4 rfl) (RowIs.cons (hvals 0 5 rfl) (RowIs.cons (hvals 1 6 rfl) (RowIs.cons (hvals 2 7 rfl) (RowIs.cons (hvals 3 8 rfl) (RowIs.cons (hvals 4 9 rfl) (RowIs.cons (hvals 5 10 rfl) (RowIs.cons (hvals 6 11 rfl) (RowIs.cons (hvals 7 12 rfl) (RowIs.nil _ _)))))))))))))) rfl
    clear hsz hdf hold hvals
    subst ha
    try simp only [List.getElem_toArray, List.getElem_cons_succ, List.getElem_cons_zero]
    go_wp2_with fail
    go_ret
    exact ⟨rfl, hS⟩

set_option maxRecDepth 100000 in
theorem rprime (p : Nat) (hp : p < 312) (hp2 : 2 ≤ p) (w : World) :
    Calls Tryd.prog 45 #[.int .u64 p] w fun e w' => e = .returned (.bool (isP p)) ∧ w = w' := by
  go_enter Tryd.func45, Tryd.ntmps45
  go_wp2_with fail
  go_loop [3] (fun qv => ∃ q : Nat, qv = .int .u64 q ∧ 2 ≤ q ∧ q ≤ 18 ∧ Hid (∀ x, 2 ≤ x → x < q → x * x ≤ p → p % x ≠ 0)) (fun qv => 18 - (intOf qv).toNat)
  case atStart => exact ⟨2, rfl, by omega, by omega, Lib.hid (fun x h1 h2 => by omega)⟩
  case round =>
    obtain ⟨q, rfl, hq2, hq18, Hq⟩ := hrel
    have hqq : q * q ≤ 18 * 18 := Nat.mul_le_mul hq18 hq18
    have e0 : (q : Int) * (q : Int) = ((q * q : Nat) : Int) := by rw [Int.natCast_mul]
    have b0 : 0 ≤ (q : Int) * (q : Int) := by rw [e0]; omega
    have b1 : (q : Int) * (q : Int) ≤ 324 := by rw [e0]; omega
    have em : (p : Int) % (q : Int) = ((p % q : Nat) : Int) := by rw [Int.natCast_emod]
    by_cases hle : q * q ≤ p
    · have t1 : (q : Int) * (q : Int) ≤ (p : Int) := by rw [e0]; omega
      have hq17 : q < 18 := by
        rcases Nat.lt_or_ge q 18 with h | h
        · exact h
        · have : 18 * 18 ≤ q * q := Nat.mul_le_mul h h
          omega
      by_cases hdv : p % q = 0
      · have t2 : (((p : Int) % (q : Int)) == 0) = true := by rw [em, hdv]; rfl
        have hnp : isP p = false := by
          rw [← Bool.not_eq_true]; exact fun h => pl_2 p hp h q hq17 hq2 hle hdv
        have Hnp := Lib.hid hnp
        clear hnp hdv e0 em hle hqq
        go_wp2_with fail
        go_ret
        exact ⟨ret_bool Hnp.out.symm, rfl⟩
      · have t2 : (((p : Int) % (q : Int)) == 0) = false := by rw [em, beq_eq_false_iff_ne]; omega
        clear e0 em hle hqq
        go_wp2_with fail
        go_round
        case rel => exact ⟨q + 1, by go_num, by omega, by omega, Lib.hid (fun x h1 h2 h3 => by
          rcases Nat.lt_or_ge x q with h | h
          · exact Hq.out x h1 h h3
          · obtain rfl : x = q := by omega
            exact hdv)⟩
        case measure => simp [intOf]; omega
    · have t1 : ¬ (q : Int) * (q : Int) ≤ (p : Int) := by rw [e0]; omega
      have hpp : isP p = true := by
        cases h : isP p with
        | true => rfl
        | false =>
          obtain ⟨x, hx1, hx2, hx3, hx4⟩ := pl_1 p hp hp2 h
          exfalso
          have hxq : x < q := by
            rcases Nat.lt_or_ge x q with h | h
            · exact h
            · have : q * q ≤ x * x := Nat.mul_le_mul h h
              omega
          exact Hq.out x hx2 hxq hx3 hx4
      have Hpp := Lib.hid hpp
      clear hpp e0 em hle hqq Hq
      go_wp2_with fail
      go_ret
      exact ⟨ret_bool Hpp.out.symm, rfl⟩

end Go.Proofs.YtclfmgkomkmbjaaDoor
