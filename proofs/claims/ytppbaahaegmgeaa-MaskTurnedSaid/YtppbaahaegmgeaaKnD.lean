/- SHA-256's tables: made. -/
import Derived.Test.YtppbaahaegmgeaaKnT
import Derived.Test.YtppbaahaegmgeaaRew
namespace Go.Proofs.Ytppbaahaegmgeaa
open Go.RowKit

theorem zero_rows (w : World) : (zeroValue 85).run Try.prog w = .ok (.agg (zrow 72)) w := by kernel_rfl

theorem wrow72_zero : (zrow 72).toList = wrow 72 (mk 0 0) := by rw [mk_zero]; rfl

theorem Upd.trans_nil' {bs : List Nat} {a b c : World} (h : Upd [] a b) (k : Upd bs b c) (hc : ∀ x ∈ bs, a.heap.size ≤ x) : Upd [] a c := h.trans k (fun x hx => Or.inr (hc x hx))

theorem pl_at {p n : Nat} (h : PL[n]? = some p) : PL.getD n 0 = p := by rw [List.getD_eq_getElem?_getD, h]; rfl
theorem pl_lt {p n : Nat} (h : PL[n]? = some p) : n < 64 := by have := (List.getElem?_eq_some_iff.1 h).1; exact this

theorem root_h {p n : Nat} (h : PL[n]? = some p) (hp : p < 4096) (hn : n < 8) (w : World) :
    Calls Try.prog 59 #[.int .u64 p, .int .i64 2] w fun e w' => e = .returned (.int .u32 (H0 n)) ∧ w = w' := by
  obtain ⟨h1, h2, h3⟩ := rt2_ok n hn
  rw [pl_at h] at h2 h3
  exact root_any 2 p _ (.inl rfl) hp h1 h2 h3 w
theorem root_k {p n : Nat} (h : PL[n]? = some p) (hp : p < 4096) (w : World) :
    Calls Try.prog 59 #[.int .u64 p, .int .i64 3] w fun e w' => e = .returned (.int .u32 (K0 n)) ∧ w = w' := by
  obtain ⟨h1, h2, h3⟩ := rt3_ok n (pl_lt h)
  rw [pl_at h] at h2 h3
  exact root_any 3 p _ (.inr rfl) hp h1 h2 h3 w

set_option maxHeartbeats 4000000 in
set_option maxRecDepth 100000 in
theorem made_walk (w : World) :
    Calls Try.prog 52 #[] w fun e w' => e = .returned (.pointer (some ⟨w.heap.size, 0, none⟩)) ∧ Upd [] w w' ∧ Blk w' w.heap.size (wrow 72 rowsF) 85 := by
  have hz := zero_rows
  go_enter Try.func52, Try.ntmps52
  go_wp2_with fail
  go_step3
  go_wp2_with fail
  go_step3
  go_wp2_with fail
  have u1 := (Upd.refl [] w).alloc (.cells (zrow 72) 85)
  have hB := Blk.new w (zrow 72) 85
  rw [wrow72_zero] at hB
  clear hz
  generalize w.alloc (.cells (zrow 72) 85) = W1 at u1 hB ⊢
  generalize hg : w.heap.size = rb at hB ⊢
  have hrb : w.heap.size ≤ rb := by omega
  go_loopw [3, 4, 5] (fun nv pv _ wr => ∃ n p : Nat, nv = .int .i64 n ∧ pv = .int .u64 p ∧ 2 ≤ p ∧ p ≤ 312 ∧ n ≤ 64 ∧ Hid (n = cnt p) ∧ Blk wr rb (wrow 72 (mk n n)) 85 ∧ Upd [] w wr) (fun _ pv _ _ => 312 - (intOf pv).toNat)
  case atStart => exact ⟨0, 2, rfl, rfl, by omega, by omega, by omega, Lib.hid (by decide), hB, u1⟩
  case round =>
    obtain ⟨n, p, rfl, rfl, hp2, hp312, hn64, Hn, hB, hu⟩ := hrel
    clear u1
    obtain ⟨wo, rfl⟩ : ∃ wo, wo = wr := ⟨_, rfl⟩
    by_cases hn : n < 64
    · have hp : p < 312 := by
        rcases Nat.lt_or_ge p 312 with h | h
        · exact h
        · have := cnt_big h; have := Hn.out; omega
      go_wp2_with fail
      go_loop [5] (fun qv => ∃ q : Nat, qv = .int .u64 q ∧ 2 ≤ q ∧ q ≤ 18 ∧ Hid (∀ x, 2 ≤ x → x < q → p % x ≠ 0)) (fun qv => 18 - (intOf qv).toNat)
      case atStart => exact ⟨2, rfl, by omega, by omega, Lib.hid (fun x h1 h2 => by omega)⟩
      case round =>
        obtain ⟨q, rfl, hq2, hq18, Hq⟩ := hrel
        have hqq : q * q ≤ 18 * 18 := Nat.mul_le_mul hq18 hq18
        have e0 : (q : Int) * (q : Int) = ((q * q : Nat) : Int) := by rw [Int.natCast_mul]
        have b0 : 0 ≤ (q : Int) * (q : Int) := by rw [e0]; omega
        have b1 : (q : Int) * (q : Int) ≤ 324 := by rw [e0]; omega
        have em : (p : Int) % (q : Int) = ((p % q : Nat) : Int) := by rw [Int.natCast_emod]
        by_cases hle : q * q ≤ p
        · have t1 : (q : Int) * (q : Int) ≤ (p : Int) := by rw [e0]; omega
          have hq17 : q < 18 := by
            rcases Nat.lt_or_ge q 18 with h | h
            · exact h
            · have : 18 * 18 ≤ q * q := Nat.mul_le_mul h h
              omega
          by_cases hdv : p % q = 0
          · have t2 : (((p : Int) % (q : Int)) == 0) = true := by rw [em, hdv]; rfl
            have hnp : isP p = false := by
              rw [← Bool.not_eq_true]; exact fun h => pl_2 p hp h q hq17 hq2 hle hdv
            have Hc := Lib.hid (pl_4 p hp hnp)
            clear hnp hdv e0 em hle hqq
            go_wp2_with fail
            exact ⟨⟨n, p + 1, rfl, by go_num, by omega, by omega, hn64, Lib.hid (by rw [Hc.out]; exact Hn.out), hB, hu⟩, by simp [intOf]; omega⟩
          · have t2 : (((p : Int) % (q : Int)) == 0) = false := by rw [em, beq_eq_false_iff_ne]; omega
            clear e0 em hle hqq
            go_wp2_with fail
            go_round
            case rel => exact ⟨q + 1, by go_num, by omega, by omega, Lib.hid (fun x h1 h2 => by
              rcases Nat.lt_or_ge x q with h | h
              · exact Hq.out x h1 h
              · obtain rfl : x = q := by omega
                exact hdv)⟩
            case measure => simp [intOf]; omega
        · have t1 : ¬ (q : Int) * (q : Int) ≤ (p : Int) := by rw [e0]; omega
          have hpp : isP p = true := by
            cases h : isP p with
            | true => rfl
            | false =>
              obtain ⟨x, hx1, hx2, hx3, hx4⟩ := pl_1 p hp hp2 h
              exfalso
              have hxq : x < q := by
                rcases Nat.lt_or_ge x q with h | h
                · exact h
                · have : q * q ≤ x * x := Nat.mul_le_mul h h
                  omega
              exact Hq.out x hx2 hxq hx4
          obtain ⟨hpl, hc1⟩ := pl_3 p hp hpp
          rw [← Hn.out] at hpl hc1
          have Hpl := Lib.hid hpl
          have Hc := Lib.hid hc1
          clear hpl hc1 hpp e0 em hle hqq Hq Hn
          have hni : (n : Int) < 64 := by omega
          by_cases hn8 : n < 8
          · have hn8i : (n : Int) < 8 := by omega
            go_upto_region 12 with fail
            refine wp_region_blk [(.eq (.pointer (some ⟨rb, 0, none⟩))), (.eq (.int .i64 n)), (.eq (.func (.func 59) #[] #[])), (.eq (.int .u64 p)), (.eq (.int .u32 (H0 n))), (.eq (.pointer (some ⟨rb, 0, none⟩))), (.eq (.pointer (some ⟨rb, 0, none⟩))), (.eq (.pointer (some ⟨rb, n, none⟩))), .any] [⟨8, (rb), (wrow 72 (mk n n)), (wrow 72 (mk (n + 1) n)), (85)⟩] (by kernel_rfl) (by kernel_rfl) rfl ?ne ?pre ?step ?fin
            case ne => intro x hx y hy hxy; simp only [List.mem_cons, List.not_mem_nil, or_false] at hx hy; rcases hx with rfl <;> rcases hy with rfl <;> first | (exact absurd rfl hxy) | (dsimp only; omega)
            case pre => intro x hx; simp only [List.mem_cons, List.not_mem_nil, or_false] at hx; rcases hx with rfl <;> assumption
            case step =>
              intro i o ho a w' hS hold hneed hun K' hK
              match i, ho with
              | 0, ho =>
                obtain rfl := Option.some.inj ho
                have q8 := hun 8 (.inr (by kernel_rfl))
                replace hneed := fun j hj => (hneed j hj).2
                replace hK := fun v w1 h u => hK v w1 h trivial u
                clear hun
                have d2 := hold 2 _ (by kernel_rfl) rfl
                clear hold hneed ho
                (go_simp; exact hK _ _ rfl (Upd.refl [] _))
              | 1, ho =>
                obtain rfl := Option.some.inj ho
                have q8 := hun 8 (.inr (by kernel_rfl))
                replace hneed := fun j hj => (hneed j hj).2
                replace hK := fun v w1 h u => hK v w1 h trivial u
                clear hun
                have d3 := hold 3 _ (by kernel_rfl) rfl
                clear hold hneed ho
                (go_simp; exact hK _ _ rfl (Upd.refl [] _))
              | 2, ho =>
                obtain rfl := Option.some.inj ho
                have q8 := hun 8 (.inr (by kernel_rfl))
                replace hneed := fun j hj => (hneed j hj).2
                replace hK := fun v w1 h u => hK v w1 h trivial u
                clear hun
                have d1 := hold 1 _ (by kernel_rfl) rfl
                clear hold hneed ho
                (go_simp; exact hK _ _ rfl (Upd.refl [] _))
              | 3, ho =>
                obtain rfl := Option.some.inj ho
                have q8 := hun 8 (.inr (by kernel_rfl))
                replace hneed := fun j hj => (hneed j hj).2
                replace hK := fun v w1 h u => hK v w1 h trivial u
                clear hun
                have d4 := hold 4 _ (by kernel_rfl) rfl
                clear hold hneed ho
                (go_simp; exact hK _ _ rfl (Upd.refl [] _))
              | 4, ho =>
                obtain rfl := Option.some.inj ho
                have q8 := hun 8 (.inr (by kernel_rfl))
                replace hneed := fun j hj => (hneed j hj).2
                replace hK := fun v w1 h u => hK v w1 h trivial u
                clear hun
                have d27 := get_of_at (hneed 2 (of_decide_eq_true (by kernel_rfl)) 27 rfl) (by simp [undef])
                have d28 := get_of_at (hneed 3 (of_decide_eq_true (by kernel_rfl)) 28 rfl) (by simp [undef])
                clear hold hneed ho
                (go_simp; go_at_call 59; refine (root_h Hpl.out (by omega) hn8 _).mono ?_; rintro e w3 ⟨rfl, rfl⟩; exact hK _ _ rfl (Upd.refl [] _))
              | 5, ho =>
                obtain rfl := Option.some.inj ho
                have q8 := hun 8 (.inr (by kernel_rfl))
                replace hneed := fun j hj => (hneed j hj).2
                replace hK := fun v w1 h u => hK v w1 h trivial u
                clear hun
                have d25 := get_of_at (hneed 0 (of_decide_eq_true (by kernel_rfl)) 25 rfl) (by simp [undef])
                clear hold hneed ho
                (go_simp; exact hK _ _ rfl (Upd.refl [] _))
              | 6, ho =>
                obtain rfl := Option.some.inj ho
                have q8 := hun 8 (.inr (by kernel_rfl))
                replace hneed := fun j hj => (hneed j hj).2
                replace hK := fun v w1 h u => hK v w1 h trivial u
                clear hun
                have d30 := get_of_at (hneed 5 (of_decide_eq_true (by kernel_rfl)) 30 rfl) (by simp [undef])
                clear hold hneed ho
                (go_simp; exact hK _ _ rfl (Upd.refl [] _))
              | 7, ho =>
                obtain rfl := Option.some.inj ho
                have q8 := hun 8 (.inr (by kernel_rfl))
                replace hneed := fun j hj => (hneed j hj).2
                replace hK := fun v w1 h u => hK v w1 h trivial u
                clear hun
                have d31 := get_of_at (hneed 6 (of_decide_eq_true (by kernel_rfl)) 31 rfl) (by simp [undef])
                have d26 := get_of_at (hneed 1 (of_decide_eq_true (by kernel_rfl)) 26 rfl) (by simp [undef])
                clear hold hneed ho
                (go_simp; exact hK _ _ rfl (Upd.refl [] _))
              | 8, ho =>
                obtain rfl := Option.some.inj ho
                have q8 := hun 8 (.inl rfl)
                change Blk _ _ _ _ at q8
                replace hneed := fun j hj => (hneed j hj).2
                clear hun
                have d32 := get_of_at (hneed 7 (of_decide_eq_true (by kernel_rfl)) 32 rfl) (by simp [undef])
                have d29 := get_of_at (hneed 4 (of_decide_eq_true (by kernel_rfl)) 29 rfl) (by simp [undef])
                clear hold hneed ho
                (have p0 := q8.cell n (wrow_get _ (by omega)); have f0 := q8.free n; have hq := q8.set n (.int .u32 (H0 n)); rw [wrow_set, mk_h hn8] at hq; go_simp; exact hK undef _ trivial hq ((Upd.refl _ _).setCell (Or.inl (by simp [effOf, BE.eff])) _))
              | _ + 9, ho => exact absurd ho (by simp)
            case fin =>
              intro a w' hS hsz hdf hold hvals hposts
              have hP8 : Blk w' (rb) (wrow 72 (mk (n + 1) n)) (85) := hposts 8 (of_decide_eq_true (by kernel_rfl))
              have ha := act_lit hsz hdf (RowIs.cons (at_of_get (hold 0 _ (by kernel_rfl) rfl)) (RowIs.cons (at_of_get (hold 1 _ (by kernel_rfl) rfl)) (RowIs.cons (at_of_get (hold 2 _ (by kernel_rfl) rfl)) (RowIs.cons (at_of_get (hold 3 _ (by kernel_rfl) rfl)) (RowIs.cons (at_of_get (hold 4 _ (by kernel_rfl) rfl)) (RowIs.cons (at_of_get (hold 5 _ (by kernel_rfl) rfl)) (RowIs.cons (at_of_get (hold 6 _ (by kernel_rfl) rfl)) (RowIs.cons (at_of_get (hold 7 _ (by kernel_rfl) rfl)) (RowIs.cons (at_of_get (hold 8 _ (by kernel_rfl) rfl)) (RowIs.cons (at_of_get (hold 9 _ (by kernel_rfl) rfl)) (RowIs.cons (at_of_get (hold 10 _ (by kernel_rfl) rfl)) (RowIs.cons (at_of_get (hold 11 _ (by kernel_rfl) rfl)) (RowIs.cons (at_of_get (hold 12 _ (by kernel_rfl) rfl)) (RowIs.cons (at_of_get (hold 13 _ (by kernel_rfl) rfl)) (RowIs.cons (at_of_get (hold 14 _ (by kernel_rfl) rfl)) (RowIs.cons (at_of_get (hold 15 _ (by kernel_rfl) rfl)) (RowIs.cons (at_of_get (hold 16 _ (by kernel_rfl) rfl)) (RowIs.cons (at_of_get (hold 17 _ (by kernel_rfl) rfl)) (RowIs.cons (at_of_get (hold 18 _ (by kernel_rfl) rfl)) (RowIs.cons (at_of_get (hold 19 _ (by kernel_rfl) rfl)) (RowIs.cons (at_of_get (hold 20 _ (by kernel_rfl) rfl)) (RowIs.cons (at_of_get (hold 21 _ (by kernel_rfl) rfl)) (RowIs.cons (at_of_get (hold 22 _ (by kernel_rfl) rfl)) (RowIs.cons (at_of_get (hold 23 _ (by kernel_rfl) rfl)) (RowIs.cons (at_of_get (hold 24 _ (by kernel_rfl) rfl)) (RowIs.cons (hvals 0 25 rfl) (RowIs.cons (hvals 1 26 rfl) (RowIs.cons (hvals 2 27 rfl) (RowIs.cons (hvals 3 28 rfl) (RowIs.cons (hvals 4 29 rfl) (RowIs.cons (hvals 5 30 rfl) (RowIs.cons (hvals 6 31 rfl) (RowIs.cons (hvals 7 32 rfl) (RowIs.cons (at_of_get (hold 33 _ (by kernel_rfl) rfl)) (RowIs.cons (at_of_get (hold 34 _ (by kernel_rfl) rfl)) (RowIs.cons (at_of_get (hold 35 _ (by kernel_rfl) rfl)) (RowIs.cons (at_of_get (hold 36 _ (by kernel_rfl) rfl)) (RowIs.cons (at_of_get (hold 37 _ (by kernel_rfl) rfl)) (RowIs.cons (at_of_get (hold 38 _ (by kernel_rfl) rfl)) (RowIs.cons (at_of_get (hold 39 _ (by kernel_rfl) rfl)) (RowIs.cons (at_of_get (hold 40 _ (by kernel_rfl) rfl)) (RowIs.cons (at_of_get (hold 41 _ (by kernel_rfl) rfl)) (RowIs.cons (at_of_get (hold 42 _ (by kernel_rfl) rfl)) (RowIs.cons (at_of_get (hold 43 _ (by kernel_rfl) rfl)) (RowIs.nil _ _))))))))))))))))))))))))))))))))))))))))))))) rfl
              clear hsz hdf hold hvals hposts
              subst ha
              try simp only [List.getElem_toArray, List.getElem_cons_succ, List.getElem_cons_zero]
              replace hu := hu.trans_nil' hS (by simp; omega)
              clear hS hB
              have hB := hP8
              clear hP8
              obtain ⟨wq, rfl⟩ : ∃ wq, wq = w' := ⟨_, rfl⟩
              go_upto_region 13 with fail
              refine wp_region_blk [(.eq (.pointer (some ⟨rb, 0, none⟩))), (.eq (.int .i64 n)), (.eq (.func (.func 59) #[] #[])), (.eq (.int .u64 p)), (.eq (.int .u32 (K0 n))), (.eq (.pointer (some ⟨rb, 0, none⟩))), (.eq (.pointer (some ⟨rb, 8, none⟩))), (.eq (.pointer (some ⟨rb, 8 + n, none⟩))), .any] [⟨8, (rb), (wrow 72 (mk (n + 1) n)), (wrow 72 (mk (n + 1) (n + 1))), (85)⟩] (by kernel_rfl) (by kernel_rfl) rfl ?ne ?pre ?step ?fin
              case ne => intro x hx y hy hxy; simp only [List.mem_cons, List.not_mem_nil, or_false] at hx hy; rcases hx with rfl <;> rcases hy with rfl <;> first | (exact absurd rfl hxy) | (dsimp only; omega)
              case pre => intro x hx; simp only [List.mem_cons, List.not_mem_nil, or_false] at hx; rcases hx with rfl <;> assumption
              case step =>
                intro i o ho a w' hS hold hneed hun K' hK
                match i, ho with
                | 0, ho =>
                  obtain rfl := Option.some.inj ho
                  have q8 := hun 8 (.inr (by kernel_rfl))
                  replace hneed := fun j hj => (hneed j hj).2
                  replace hK := fun v w1 h u => hK v w1 h trivial u
                  clear hun
                  have d2 := hold 2 _ (by kernel_rfl) rfl
                  clear hold hneed ho
                  (go_simp; exact hK _ _ rfl (Upd.refl [] _))
                | 1, ho =>
                  obtain rfl := Option.some.inj ho
                  have q8 := hun 8 (.inr (by kernel_rfl))
                  replace hneed := fun j hj => (hneed j hj).2
                  replace hK := fun v w1 h u => hK v w1 h trivial u
                  clear hun
                  have d3 := hold 3 _ (by kernel_rfl) rfl
                  clear hold hneed ho
                  (go_simp; exact hK _ _ rfl (Upd.refl [] _))
                | 2, ho =>
                  obtain rfl := Option.some.inj ho
                  have q8 := hun 8 (.inr (by kernel_rfl))
                  replace hneed := fun j hj => (hneed j hj).2
                  replace hK := fun v w1 h u => hK v w1 h trivial u
                  clear hun
                  have d1 := hold 1 _ (by kernel_rfl) rfl
                  clear hold hneed ho
                  (go_simp; exact hK _ _ rfl (Upd.refl [] _))
                | 3, ho =>
                  obtain rfl := Option.some.inj ho
                  have q8 := hun 8 (.inr (by kernel_rfl))
                  replace hneed := fun j hj => (hneed j hj).2
                  replace hK := fun v w1 h u => hK v w1 h trivial u
                  clear hun
                  have d4 := hold 4 _ (by kernel_rfl) rfl
                  clear hold hneed ho
                  (go_simp; exact hK _ _ rfl (Upd.refl [] _))
                | 4, ho =>
                  obtain rfl := Option.some.inj ho
                  have q8 := hun 8 (.inr (by kernel_rfl))
                  replace hneed := fun j hj => (hneed j hj).2
                  replace hK := fun v w1 h u => hK v w1 h trivial u
                  clear hun
                  have d35 := get_of_at (hneed 2 (of_decide_eq_true (by kernel_rfl)) 35 rfl) (by simp [undef])
                  have d36 := get_of_at (hneed 3 (of_decide_eq_true (by kernel_rfl)) 36 rfl) (by simp [undef])
                  clear hold hneed ho
                  (go_simp; go_at_call 59; refine (root_k Hpl.out (by omega) _).mono ?_; rintro e w3 ⟨rfl, rfl⟩; exact hK _ _ rfl (Upd.refl [] _))
                | 5, ho =>
                  obtain rfl := Option.some.inj ho
                  have q8 := hun 8 (.inr (by kernel_rfl))
                  replace hneed := fun j hj => (hneed j hj).2
                  replace hK := fun v w1 h u => hK v w1 h trivial u
                  clear hun
                  have d33 := get_of_at (hneed 0 (of_decide_eq_true (by kernel_rfl)) 33 rfl) (by simp [undef])
                  clear hold hneed ho
                  (go_simp; exact hK _ _ rfl (Upd.refl [] _))
                | 6, ho =>
                  obtain rfl := Option.some.inj ho
                  have q8 := hun 8 (.inr (by kernel_rfl))
                  replace hneed := fun j hj => (hneed j hj).2
                  replace hK := fun v w1 h u => hK v w1 h trivial u
                  clear hun
                  have d38 := get_of_at (hneed 5 (of_decide_eq_true (by kernel_rfl)) 38 rfl) (by simp [undef])
                  clear hold hneed ho
                  (go_simp; exact hK _ _ rfl (Upd.refl [] _))
                | 7, ho =>
                  obtain rfl := Option.some.inj ho
                  have q8 := hun 8 (.inr (by kernel_rfl))
                  replace hneed := fun j hj => (hneed j hj).2
                  replace hK := fun v w1 h u => hK v w1 h trivial u
                  clear hun
                  have d39 := get_of_at (hneed 6 (of_decide_eq_true (by kernel_rfl)) 39 rfl) (by simp [undef])
                  have d34 := get_of_at (hneed 1 (of_decide_eq_true (by kernel_rfl)) 34 rfl) (by simp [undef])
                  clear hold hneed ho
                  (go_simp; exact hK _ _ rfl (Upd.refl [] _))
                | 8, ho =>
                  obtain rfl := Option.some.inj ho
                  have q8 := hun 8 (.inl rfl)
                  change Blk _ _ _ _ at q8
                  replace hneed := fun j hj => (hneed j hj).2
                  clear hun
                  have d40 := get_of_at (hneed 7 (of_decide_eq_true (by kernel_rfl)) 40 rfl) (by simp [undef])
                  have d37 := get_of_at (hneed 4 (of_decide_eq_true (by kernel_rfl)) 37 rfl) (by simp [undef])
                  clear hold hneed ho
                  (have p0 := q8.cell (8 + n) (wrow_get _ (by omega)); have f0 := q8.free (8 + n); have hq := q8.set (8 + n) (.int .u32 (K0 n)); rw [wrow_set, mk_k] at hq; go_simp; exact hK undef _ trivial hq ((Upd.refl _ _).setCell (Or.inl (by simp [effOf, BE.eff])) _))
                | _ + 9, ho => exact absurd ho (by simp)
              case fin =>
                intro a w' hS hsz hdf hold hvals hposts
                have hP8 : Blk w' (rb) (wrow 72 (mk (n + 1) (n + 1))) (85) := hposts 8 (of_decide_eq_true (by kernel_rfl))
                have ha := act_lit hsz hdf (RowIs.cons (at_of_get (hold 0 _ (by kernel_rfl) rfl)) (RowIs.cons (at_of_get (hold 1 _ (by kernel_rfl) rfl)) (RowIs.cons (at_of_get (hold 2 _ (by kernel_rfl) rfl)) (RowIs.cons (at_of_get (hold 3 _ (by kernel_rfl) rfl)) (RowIs.cons (at_of_get (hold 4 _ (by kernel_rfl) rfl)) (RowIs.cons (at_of_get (hold 5 _ (by kernel_rfl) rfl)) (RowIs.cons (at_of_get (hold 6 _ (by kernel_rfl) rfl)) (RowIs.cons (at_of_get (hold 7 _ (by kernel_rfl) rfl)) (RowIs.cons (at_of_get (hold 8 _ (by kernel_rfl) rfl)) (RowIs.cons (at_of_get (hold 9 _ (by kernel_rfl) rfl)) (RowIs.cons (at_of_get (hold 10 _ (by kernel_rfl) rfl)) (RowIs.cons (at_of_get (hold 11 _ (by kernel_rfl) rfl)) (RowIs.cons (at_of_get (hold 12 _ (by kernel_rfl) rfl)) (RowIs.cons (at_of_get (hold 13 _ (by kernel_rfl) rfl)) (RowIs.cons (at_of_get (hold 14 _ (by kernel_rfl) rfl)) (RowIs.cons (at_of_get (hold 15 _ (by kernel_rfl) rfl)) (RowIs.cons (at_of_get (hold 16 _ (by kernel_rfl) rfl)) (RowIs.cons (at_of_get (hold 17 _ (by kernel_rfl) rfl)) (RowIs.cons (at_of_get (hold 18 _ (by kernel_rfl) rfl)) (RowIs.cons (at_of_get (hold 19 _ (by kernel_rfl) rfl)) (RowIs.cons (at_of_get (hold 20 _ (by kernel_rfl) rfl)) (RowIs.cons (at_of_get (hold 21 _ (by kernel_rfl) rfl)) (RowIs.cons (at_of_get (hold 22 _ (by kernel_rfl) rfl)) (RowIs.cons (at_of_get (hold 23 _ (by kernel_rfl) rfl)) (RowIs.cons (at_of_get (hold 24 _ (by kernel_rfl) rfl)) (RowIs.cons (at_of_get (hold 25 _ (by kernel_rfl) rfl)) (RowIs.cons (at_of_get (hold 26 _ (by kernel_rfl) rfl)) (RowIs.cons (at_of_get (hold 27 _ (by kernel_rfl) rfl)) (RowIs.cons (at_of_get (hold 28 _ (by kernel_rfl) rfl)) (RowIs.cons (at_of_get (hold 29 _ (by kernel_rfl) rfl)) (RowIs.cons (at_of_get (hold 30 _ (by kernel_rfl) rfl)) (RowIs.cons (at_of_get (hold 31 _ (by kernel_rfl) rfl)) (RowIs.cons (at_of_get (hold 32 _ (by kernel_rfl) rfl)) (RowIs.cons (hvals 0 33 rfl) (RowIs.cons (hvals 1 34 rfl) (RowIs.cons (hvals 2 35 rfl) (RowIs.cons (hvals 3 36 rfl) (RowIs.cons (hvals 4 37 rfl) (RowIs.cons (hvals 5 38 rfl) (RowIs.cons (hvals 6 39 rfl) (RowIs.cons (hvals 7 40 rfl) (RowIs.cons (at_of_get (hold 41 _ (by kernel_rfl) rfl)) (RowIs.cons (at_of_get (hold 42 _ (by kernel_rfl) rfl)) (RowIs.cons (at_of_get (hold 43 _ (by kernel_rfl) rfl)) (RowIs.nil _ _))))))))))))))))))))))))))))))))))))))))))))) rfl
                clear hsz hdf hold hvals hposts
                subst ha
                try simp only [List.getElem_toArray, List.getElem_cons_succ, List.getElem_cons_zero]
                replace hu := hu.trans_nil' hS (by simp; omega)
                clear hS hB
                go_wp2_with fail
                exact ⟨⟨n + 1, p + 1, by go_num, by go_num, by omega, by omega, by omega, Lib.hid (by rw [Hc.out]), hP8, hu⟩, by simp [intOf]; omega⟩
          · rw [mk_big (by omega : 8 ≤ n)] at hB
            go_upto_region 13 with fail
            refine wp_region_blk [(.eq (.pointer (some ⟨rb, 0, none⟩))), (.eq (.int .i64 n)), (.eq (.func (.func 59) #[] #[])), (.eq (.int .u64 p)), (.eq (.int .u32 (K0 n))), (.eq (.pointer (some ⟨rb, 0, none⟩))), (.eq (.pointer (some ⟨rb, 8, none⟩))), (.eq (.pointer (some ⟨rb, 8 + n, none⟩))), .any] [⟨8, (rb), (wrow 72 (mk (n + 1) n)), (wrow 72 (mk (n + 1) (n + 1))), (85)⟩] (by kernel_rfl) (by kernel_rfl) rfl ?ne ?pre ?step ?fin
            case ne => intro x hx y hy hxy; simp only [List.mem_cons, List.not_mem_nil, or_false] at hx hy; rcases hx with rfl <;> rcases hy with rfl <;> first | (exact absurd rfl hxy) | (dsimp only; omega)
            case pre => intro x hx; simp only [List.mem_cons, List.not_mem_nil, or_false] at hx; rcases hx with rfl <;> assumption
            case step =>
              intro i o ho a w' hS hold hneed hun K' hK
              match i, ho with
              | 0, ho =>
                obtain rfl := Option.some.inj ho
                have q8 := hun 8 (.inr (by kernel_rfl))
                replace hneed := fun j hj => (hneed j hj).2
                replace hK := fun v w1 h u => hK v w1 h trivial u
                clear hun
                have d2 := hold 2 _ (by kernel_rfl) rfl
                clear hold hneed ho
                (go_simp; exact hK _ _ rfl (Upd.refl [] _))
              | 1, ho =>
                obtain rfl := Option.some.inj ho
                have q8 := hun 8 (.inr (by kernel_rfl))
                replace hneed := fun j hj => (hneed j hj).2
                replace hK := fun v w1 h u => hK v w1 h trivial u
                clear hun
                have d3 := hold 3 _ (by kernel_rfl) rfl
                clear hold hneed ho
                (go_simp; exact hK _ _ rfl (Upd.refl [] _))
              | 2, ho =>
                obtain rfl := Option.some.inj ho
                have q8 := hun 8 (.inr (by kernel_rfl))
                replace hneed := fun j hj => (hneed j hj).2
                replace hK := fun v w1 h u => hK v w1 h trivial u
                clear hun
                have d1 := hold 1 _ (by kernel_rfl) rfl
                clear hold hneed ho
                (go_simp; exact hK _ _ rfl (Upd.refl [] _))
              | 3, ho =>
                obtain rfl := Option.some.inj ho
                have q8 := hun 8 (.inr (by kernel_rfl))
                replace hneed := fun j hj => (hneed j hj).2
                replace hK := fun v w1 h u => hK v w1 h trivial u
                clear hun
                have d4 := hold 4 _ (by kernel_rfl) rfl
                clear hold hneed ho
                (go_simp; exact hK _ _ rfl (Upd.refl [] _))
              | 4, ho =>
                obtain rfl := Option.some.inj ho
                have q8 := hun 8 (.inr (by kernel_rfl))
                replace hneed := fun j hj => (hneed j hj).2
                replace hK := fun v w1 h u => hK v w1 h trivial u
                clear hun
                have d35 := get_of_at (hneed 2 (of_decide_eq_true (by kernel_rfl)) 35 rfl) (by simp [undef])
                have d36 := get_of_at (hneed 3 (of_decide_eq_true (by kernel_rfl)) 36 rfl) (by simp [undef])
                clear hold hneed ho
                (go_simp; go_at_call 59; refine (root_k Hpl.out (by omega) _).mono ?_; rintro e w3 ⟨rfl, rfl⟩; exact hK _ _ rfl (Upd.refl [] _))
              | 5, ho =>
                obtain rfl := Option.some.inj ho
                have q8 := hun 8 (.inr (by kernel_rfl))
                replace hneed := fun j hj => (hneed j hj).2
                replace hK := fun v w1 h u => hK v w1 h trivial u
                clear hun
                have d33 := get_of_at (hneed 0 (of_decide_eq_true (by kernel_rfl)) 33 rfl) (by simp [undef])
                clear hold hneed ho
                (go_simp; exact hK _ _ rfl (Upd.refl [] _))
              | 6, ho =>
                obtain rfl := Option.some.inj ho
                have q8 := hun 8 (.inr (by kernel_rfl))
                replace hneed := fun j hj => (hneed j hj).2
                replace hK := fun v w1 h u => hK v w1 h trivial u
                clear hun
                have d38 := get_of_at (hneed 5 (of_decide_eq_true (by kernel_rfl)) 38 rfl) (by simp [undef])
                clear hold hneed ho
                (go_simp; exact hK _ _ rfl (Upd.refl [] _))
              | 7, ho =>
                obtain rfl := Option.some.inj ho
                have q8 := hun 8 (.inr (by kernel_rfl))
                replace hneed := fun j hj => (hneed j hj).2
                replace hK := fun v w1 h u => hK v w1 h trivial u
                clear hun
                have d39 := get_of_at (hneed 6 (of_decide_eq_true (by kernel_rfl)) 39 rfl) (by simp [undef])
                have d34 := get_of_at (hneed 1 (of_decide_eq_true (by kernel_rfl)) 34 rfl) (by simp [undef])
                clear hold hneed ho
                (go_simp; exact hK _ _ rfl (Upd.refl [] _))
              | 8, ho =>
                obtain rfl := Option.some.inj ho
                have q8 := hun 8 (.inl rfl)
                change Blk _ _ _ _ at q8
                replace hneed := fun j hj => (hneed j hj).2
                clear hun
                have d40 := get_of_at (hneed 7 (of_decide_eq_true (by kernel_rfl)) 40 rfl) (by simp [undef])
                have d37 := get_of_at (hneed 4 (of_decide_eq_true (by kernel_rfl)) 37 rfl) (by simp [undef])
                clear hold hneed ho
                (have p0 := q8.cell (8 + n) (wrow_get _ (by omega)); have f0 := q8.free (8 + n); have hq := q8.set (8 + n) (.int .u32 (K0 n)); rw [wrow_set, mk_k] at hq; go_simp; exact hK undef _ trivial hq ((Upd.refl _ _).setCell (Or.inl (by simp [effOf, BE.eff])) _))
              | _ + 9, ho => exact absurd ho (by simp)
            case fin =>
              intro a w' hS hsz hdf hold hvals hposts
              have hP8 : Blk w' (rb) (wrow 72 (mk (n + 1) (n + 1))) (85) := hposts 8 (of_decide_eq_true (by kernel_rfl))
              have ha := act_lit hsz hdf (RowIs.cons (at_of_get (hold 0 _ (by kernel_rfl) rfl)) (RowIs.cons (at_of_get (hold 1 _ (by kernel_rfl) rfl)) (RowIs.cons (at_of_get (hold 2 _ (by kernel_rfl) rfl)) (RowIs.cons (at_of_get (hold 3 _ (by kernel_rfl) rfl)) (RowIs.cons (at_of_get (hold 4 _ (by kernel_rfl) rfl)) (RowIs.cons (at_of_get (hold 5 _ (by kernel_rfl) rfl)) (RowIs.cons (at_of_get (hold 6 _ (by kernel_rfl) rfl)) (RowIs.cons (at_of_get (hold 7 _ (by kernel_rfl) rfl)) (RowIs.cons (at_of_get (hold 8 _ (by kernel_rfl) rfl)) (RowIs.cons (at_of_get (hold 9 _ (by kernel_rfl) rfl)) (RowIs.cons (at_of_get (hold 10 _ (by kernel_rfl) rfl)) (RowIs.cons (at_of_get (hold 11 _ (by kernel_rfl) rfl)) (RowIs.cons (at_of_get (hold 12 _ (by kernel_rfl) rfl)) (RowIs.cons (at_of_get (hold 13 _ (by kernel_rfl) rfl)) (RowIs.cons (at_of_get (hold 14 _ (by kernel_rfl) rfl)) (RowIs.cons (at_of_get (hold 15 _ (by kernel_rfl) rfl)) (RowIs.cons (at_of_get (hold 16 _ (by kernel_rfl) rfl)) (RowIs.cons (at_of_get (hold 17 _ (by kernel_rfl) rfl)) (RowIs.cons (at_of_get (hold 18 _ (by kernel_rfl) rfl)) (RowIs.cons (at_of_get (hold 19 _ (by kernel_rfl) rfl)) (RowIs.cons (at_of_get (hold 20 _ (by kernel_rfl) rfl)) (RowIs.cons (at_of_get (hold 21 _ (by kernel_rfl) rfl)) (RowIs.cons (at_of_get (hold 22 _ (by kernel_rfl) rfl)) (RowIs.cons (at_of_get (hold 23 _ (by kernel_rfl) rfl)) (RowIs.cons (at_of_get (hold 24 _ (by kernel_rfl) rfl)) (RowIs.cons (at_of_get (hold 25 _ (by kernel_rfl) rfl)) (RowIs.cons (at_of_get (hold 26 _ (by kernel_rfl) rfl)) (RowIs.cons (at_of_get (hold 27 _ (by kernel_rfl) rfl)) (RowIs.cons (at_of_get (hold 28 _ (by kernel_rfl) rfl)) (RowIs.cons (at_of_get (hold 29 _ (by kernel_rfl) rfl)) (RowIs.cons (at_of_get (hold 30 _ (by kernel_rfl) rfl)) (RowIs.cons (at_of_get (hold 31 _ (by kernel_rfl) rfl)) (RowIs.cons (at_of_get (hold 32 _ (by kernel_rfl) rfl)) (RowIs.cons (hvals 0 33 rfl) (RowIs.cons (hvals 1 34 rfl) (RowIs.cons (hvals 2 35 rfl) (RowIs.cons (hvals 3 36 rfl) (RowIs.cons (hvals 4 37 rfl) (RowIs.cons (hvals 5 38 rfl) (RowIs.cons (hvals 6 39 rfl) (RowIs.cons (hvals 7 40 rfl) (RowIs.cons (at_of_get (hold 41 _ (by kernel_rfl) rfl)) (RowIs.cons (at_of_get (hold 42 _ (by kernel_rfl) rfl)) (RowIs.cons (at_of_get (hold 43 _ (by kernel_rfl) rfl)) (RowIs.nil _ _))))))))))))))))))))))))))))))))))))))))))))) rfl
              clear hsz hdf hold hvals hposts
              subst ha
              try simp only [List.getElem_toArray, List.getElem_cons_succ, List.getElem_cons_zero]
              replace hu := hu.trans_nil' hS (by simp; omega)
              clear hS hB
              go_wp2_with fail
              exact ⟨⟨n + 1, p + 1, by go_num, by go_num, by omega, by omega, by omega, Lib.hid (by rw [Hc.out]), hP8, hu⟩, by simp [intOf]; omega⟩
    · obtain rfl : n = 64 := by omega
      subst hg
      go_wp2_with fail
      rw [Exit.noGoto_ret]
      go_ret
      exact ⟨rfl, hu, hB⟩

end Go.Proofs.Ytppbaahaegmgeaa
