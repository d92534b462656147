/- The document's SHA-256: the words of a block. -/
import Derived.Test.YtclfmgkomkmbjaaDoorRfA
import Derived.Test.YtclfmgkomkmbjaaDoorKnF
import Derived.Test.YtclfmgkomkmbjaaDoorKnN
import Derived.Test.YtclfmgkomkmbjaaDoorRew
namespace Go.Proofs.YtclfmgkomkmbjaaDoor
open Go.RowKit

theorem word_add (x b : Int) (hx : 0 ≤ x) (hb : 0 ≤ b ∧ b < 256) : (x * 256 % 4294967296 + b) % 4294967296 = bits BinOp.or IntKind.u32 (x * 256 % 4294967296) b := by
  obtain ⟨n, rfl⟩ := Int.eq_ofNat_of_zero_le hx
  obtain ⟨m, rfl⟩ := Int.eq_ofNat_of_zero_le hb.1
  have e : (n : Int) * 256 % 4294967296 = ((n % 16777216 : Nat) : Int) * 256 % 4294967296 := by omega
  rw [e, or_byte (n % 16777216) m (by omega) (by omega)]
  omega

theorem wIn_step (B : Nat → Int) (q i : Nat) (hi : q / 4 = i) (nv : Int) (h : (wIn B q i * 256 % 4294967296 + B q) % 4294967296 = nv) (hb : 0 ≤ B q ∧ B q < 256) : upd1 (wIn B q) i nv = wIn B (q + 1) := by
  subst hi
  subst h
  rw [word_add _ _ (wIn_bd B q _).1 hb]
  rfl

theorem wExt_bd (f : Nat → Int) (h : ∀ j, 0 ≤ f j ∧ f j < 4294967296) (k j : Nat) : 0 ≤ wExt f k j ∧ wExt f k j < 4294967296 := by
  induction k with
  | zero => exact h j
  | succ k ih =>
    unfold wExt upd1
    split
    · exact newW_bd _ _
    · exact ih

/-- The words, i of them made. -/
def wAt (B : Nat → Int) (i : Nat) : Nat → Int := if i < 16 then wIn B (4 * i) else wExt (wIn B 64) (i - 16)
theorem wAt_lo {B : Nat → Int} {i : Nat} (h : i ≤ 16) : wAt B i = wIn B (4 * i) := by
  unfold wAt
  by_cases h1 : i < 16
  · rw [if_pos h1]
  · obtain rfl : i = 16 := by omega
    rfl
theorem wAt_hi {B : Nat → Int} {j : Nat} : wAt B (j + 16) = wExt (wIn B 64) j := by
  unfold wAt
  rw [if_neg (by omega), Nat.add_sub_cancel]
theorem wAt_bd (B : Nat → Int) (i j : Nat) : 0 ≤ wAt B i j ∧ wAt B i j < 4294967296 := by
  unfold wAt
  split
  · exact wIn_bd B _ j
  · exact wExt_bd _ (fun j => wIn_bd B 64 j) _ j

set_option maxRecDepth 100000 in
set_option maxHeartbeats 8000000 in
theorem rwords (bb bo len cap : Nat) (B : Nat → Int) (w : World) (hBq : ∀ i, i < 64 → w.cell? ⟨bb, bo + i, none⟩ = some (.int .u8 (B i))) (hbd : ∀ i, 0 ≤ B i ∧ B i < 256) (hlen : 64 ≤ len) (hlen2 : len ≤ 9223372036854775807) :
    Calls Tryd.prog 35 #[.slice (some ⟨bb, bo, none⟩) len cap] w fun e w' => e = .returned (.agg (wrow 64 (wExt (wIn B 64) 48)).toArray) ∧ Upd [] w w' := by
  have hz : ∀ w : World, (zeroValue 64).run Tryd.prog w = .ok (.agg (wrow 64 fun _ => 0).toArray) w := fun w => by kernel_rfl
  go_enter Tryd.func35, Tryd.ntmps35
  go_upto_region 1 with fail
  have u0 := (Upd.refl [] w).alloc (.cells (wrow 64 fun _ => 0).toArray 64)
  have hR0 := Blk.new w (wrow 64 fun _ => 0).toArray 64
  generalize w.alloc (.cells (wrow 64 fun _ => 0).toArray 64) = W0 at *
  obtain ⟨N0, hN0⟩ : ∃ N0, w.heap.size = N0 := ⟨_, rfl⟩
  rw [hN0] at hR0 ⊢
  have HN0 := Lib.hid hN0
  have hN0l := hR0.lt
  have hbw : bb < w.heap.size := lt_of_cell (hBq 0 (by omega))
  clear hN0
  go_upto_region 2 with fail
  have u1 := u0.alloc (.cells (wrow 64 fun _ => 0).toArray 64)
  have hR1 := hR0.alloc (.cells (wrow 64 fun _ => 0).toArray 64)
  have hT1 := Blk.new W0 (wrow 64 fun _ => 0).toArray 64
  generalize W0.alloc (.cells (wrow 64 fun _ => 0).toArray 64) = W1 at *
  have hs0 := u0.size
  obtain ⟨N1, hN1⟩ : ∃ N1, W0.heap.size = N1 := ⟨_, rfl⟩
  rw [hN1] at hT1 hN0l hs0 ⊢
  have hN01 : N0 ≠ N1 := by omega
  have hbN : bb ≠ N1 := by omega
  have hb0 : w.heap.size ≤ N1 := hs0
  clear hN1 hz u0 hR0 hN0l
  go_wp2_with fail
  go_loopw [4] (fun iv wr => ∃ ni : Nat, ni ≤ 64 ∧ iv = .int .i64 ni ∧ Blk wr N1 (wrow 64 (wAt B ni)) 64 ∧ Blk wr N0 (wrow 64 fun _ => 0) 64 ∧ Upd [] w wr) (fun iv _ => 64 - (intOf iv).toNat)
  case atStart => exact ⟨0, by omega, rfl, hT1, hR1, u1⟩
  case round =>
    obtain ⟨ni, hi, rfl, hT, hR, hu⟩ := hrel
    clear hT1 hR1 u1
    obtain ⟨wo, rfl⟩ : ∃ wo, wo = wr := ⟨_, rfl⟩
    by_cases h64 : ni < 64
    · by_cases h16 : ni < 16
      · rw [wAt_lo (by omega)] at hT
        go_wp2_with fail
        go_loopw [5] (fun kv wr => ∃ nk : Nat, nk ≤ 4 ∧ kv = .int .i64 nk ∧ Blk wr N1 (wrow 64 (wIn B (4 * ni + nk))) 64 ∧ Blk wr N0 (wrow 64 fun _ => 0) 64 ∧ Upd [] w wr) (fun kv _ => 4 - (intOf kv).toNat)
        case atStart => exact ⟨0, by omega, rfl, hT, hR, hu⟩
        case round =>
          clear hT hR hu
          obtain ⟨nk, hk, rfl, hT, hR, hu⟩ := hrel
          obtain ⟨wo, rfl⟩ : ∃ wo, wo = wr := ⟨_, rfl⟩
          by_cases h4 : nk < 4
          · obtain ⟨q, hq⟩ : ∃ q, 4 * ni + nk = q := ⟨_, rfl⟩
            have Hq : Hid (4 * (ni : Int) + (nk : Int) = (q : Int)) := Lib.hid (by omega)
            have hq64 : q < 64 := by omega
            have hqi : q / 4 = ni := by omega
            rw [hq] at hT
            have Hqk := Lib.hid hq
            obtain ⟨nv, hnv⟩ : ∃ nv, (wIn B q ni * 256 % 4294967296 + B q) % 4294967296 = nv := ⟨_, rfl⟩
            have Hst := Lib.hid (wIn_step B q ni hqi nv hnv (hbd q))
            have Hnv := Lib.hid hnv
            have hf := wIn_bd B q ni
            obtain ⟨b1, b2⟩ := hbd q
            have g1 : (0 : Int) ≤ ni := by omega
            have g2 : (ni : Int) < 64 := by omega
            have g3 : (0 : Int) ≤ nk := by omega
            have g4 : (nk : Int) < 4 := by omega
            have g5 : (0 : Int) ≤ q := by omega
            have g6 : (q : Int) < 64 := by omega
            have W25 : Hid (IntKind.i64.wrap (4 * (ni : Int)) = 4 * (ni : Int)) := Lib.hid (by rw [IntKind.wrap_i64]; omega)
            have Wq : Hid (IntKind.i64.wrap (q : Int) = (q : Int)) := Lib.hid (by rw [IntKind.wrap_i64]; omega)
            have W30 : Hid (IntKind.u32.wrap (B q) = B q) := Lib.hid (by rw [IntKind.wrap_u32']; omega)
            have g7 : (q : Int) < len := by omega
            clear hq hqi hnv
            generalize wIn B q = f at *
            have hbl : bb < wo.heap.size := Nat.lt_of_lt_of_le hbw hu.size
            have hBo : ∀ ni, ni < 64 → wo.cell? ⟨bb, bo + ni, none⟩ = some (.int .u8 (B ni)) := fun ni hi => (hu.cell (a := ⟨bb, bo + ni, none⟩) hbw (by simp)).trans (hBq ni hi)
            have hBq := hBo
            clear hBo
            go_upto_region 9 with fail
            refine wp_region_blk [(.eq (.int .i64 (ni : Int))), (.eq (.int .i64 (ni : Int))), (.eq (.pointer (some ⟨N1, ni, none⟩))), (.eq (.int .u32 (f ni))), (.eq (.int .u32 (f ni * 256 % 4294967296))), (.eq (.slice (some ⟨bb, bo, none⟩) len cap)), (.eq (.int .i64 (ni : Int))), (.eq (.int .i64 (4 * (ni : Int)))), (.eq (.int .i64 (nk : Int))), (.eq (.int .i64 (q : Int))), (.eq (.pointer (some ⟨bb, bo + q, none⟩))), (.eq (.int .u8 (B q))), (.eq (.int .u32 (B q))), (.eq (.int .u32 nv)), (.eq (.pointer (some ⟨N1, ni, none⟩))), .any] [⟨15, (N1), (wrow 64 f), (wrow 64 (upd1 f ni nv)), (64)⟩] (by kernel_rfl) (by kernel_rfl) rfl ?ne ?pre ?step ?fin
            case ne => intro x hx y hy hxy; simp only [List.mem_cons, List.not_mem_nil, or_false] at hx hy; rcases hx with rfl <;> rcases hy with rfl <;> first | (exact absurd rfl hxy) | (dsimp only; omega)
            case pre => intro x hx; simp only [List.mem_cons, List.not_mem_nil, or_false] at hx; rcases hx with rfl <;> assumption
            case step =>
              intro i o ho a w' hS hold hneed hun K' hK
              match i, ho with
              | 0, ho =>
                obtain rfl := Option.some.inj ho
                have q15 := hun 15 (.inr (by kernel_rfl))
                replace hneed := fun j hj => (hneed j hj).2
                replace hK := fun v w1 h u => hK v w1 h trivial u
                clear hun
                have d4 := hold 4 _ (by kernel_rfl) rfl
                clear hold hneed ho
                (go_simp; (try rw [IntKind.wrap_u32']); exact hK _ _ rfl (Upd.refl [] _))
              | 1, ho =>
                obtain rfl := Option.some.inj ho
                have q15 := hun 15 (.inr (by kernel_rfl))
                replace hneed := fun j hj => (hneed j hj).2
                replace hK := fun v w1 h u => hK v w1 h trivial u
                clear hun
                have d4 := hold 4 _ (by kernel_rfl) rfl
                clear hold hneed ho
                (go_simp; (try rw [IntKind.wrap_u32']); exact hK _ _ rfl (Upd.refl [] _))
              | 2, ho =>
                obtain rfl := Option.some.inj ho
                have q15 := hun 15 (.inr (by kernel_rfl))
                replace hneed := fun j hj => (hneed j hj).2
                replace hK := fun v w1 h u => hK v w1 h trivial u
                clear hun
                have d3 := hold 3 _ (by kernel_rfl) rfl
                have d19 := get_of_at (hneed 1 (of_decide_eq_true (by kernel_rfl)) 19 rfl) (by simp [undef])
                clear hold hneed ho
                (go_simp; (try rw [IntKind.wrap_u32']); exact hK _ _ rfl (Upd.refl [] _))
              | 3, ho =>
                obtain rfl := Option.some.inj ho
                have q15 := hun 15 (.inr (by kernel_rfl))
                replace hneed := fun j hj => (hneed j hj).2
                replace hK := fun v w1 h u => hK v w1 h trivial u
                clear hun
                have d20 := get_of_at (hneed 2 (of_decide_eq_true (by kernel_rfl)) 20 rfl) (by simp [undef])
                clear hold hneed ho
                (have p0 := q15.cell ni (wrow_get _ (by omega)); go_simp; exact hK _ _ rfl (Upd.refl [] _))
              | 4, ho =>
                obtain rfl := Option.some.inj ho
                have q15 := hun 15 (.inr (by kernel_rfl))
                replace hneed := fun j hj => (hneed j hj).2
                replace hK := fun v w1 h u => hK v w1 h trivial u
                clear hun
                have d21 := get_of_at (hneed 3 (of_decide_eq_true (by kernel_rfl)) 21 rfl) (by simp [undef])
                clear hold hneed ho
                (go_simp; (try rw [IntKind.wrap_u32']); exact hK _ _ rfl (Upd.refl [] _))
              | 5, ho =>
                obtain rfl := Option.some.inj ho
                have q15 := hun 15 (.inr (by kernel_rfl))
                replace hneed := fun j hj => (hneed j hj).2
                replace hK := fun v w1 h u => hK v w1 h trivial u
                clear hun
                have d0 := hold 0 _ (by kernel_rfl) rfl
                clear hold hneed ho
                (go_simp; (try rw [IntKind.wrap_u32']); exact hK _ _ rfl (Upd.refl [] _))
              | 6, ho =>
                obtain rfl := Option.some.inj ho
                have q15 := hun 15 (.inr (by kernel_rfl))
                replace hneed := fun j hj => (hneed j hj).2
                replace hK := fun v w1 h u => hK v w1 h trivial u
                clear hun
                have d4 := hold 4 _ (by kernel_rfl) rfl
                clear hold hneed ho
                (go_simp; (try rw [IntKind.wrap_u32']); exact hK _ _ rfl (Upd.refl [] _))
              | 7, ho =>
                obtain rfl := Option.some.inj ho
                have q15 := hun 15 (.inr (by kernel_rfl))
                replace hneed := fun j hj => (hneed j hj).2
                replace hK := fun v w1 h u => hK v w1 h trivial u
                clear hun
                have d24 := get_of_at (hneed 6 (of_decide_eq_true (by kernel_rfl)) 24 rfl) (by simp [undef])
                clear hold hneed ho
                (go_simp; rw [W25.out]; exact hK _ _ rfl (Upd.refl [] _))
              | 8, ho =>
                obtain rfl := Option.some.inj ho
                have q15 := hun 15 (.inr (by kernel_rfl))
                replace hneed := fun j hj => (hneed j hj).2
                replace hK := fun v w1 h u => hK v w1 h trivial u
                clear hun
                have d5 := hold 5 _ (by kernel_rfl) rfl
                clear hold hneed ho
                (go_simp; (try rw [IntKind.wrap_u32']); exact hK _ _ rfl (Upd.refl [] _))
              | 9, ho =>
                obtain rfl := Option.some.inj ho
                have q15 := hun 15 (.inr (by kernel_rfl))
                replace hneed := fun j hj => (hneed j hj).2
                replace hK := fun v w1 h u => hK v w1 h trivial u
                clear hun
                have d25 := get_of_at (hneed 7 (of_decide_eq_true (by kernel_rfl)) 25 rfl) (by simp [undef])
                have d26 := get_of_at (hneed 8 (of_decide_eq_true (by kernel_rfl)) 26 rfl) (by simp [undef])
                clear hold hneed ho
                (go_simp; rw [Hq.out, Wq.out]; exact hK _ _ rfl (Upd.refl [] _))
              | 10, ho =>
                obtain rfl := Option.some.inj ho
                have q15 := hun 15 (.inr (by kernel_rfl))
                replace hneed := fun j hj => (hneed j hj).2
                replace hK := fun v w1 h u => hK v w1 h trivial u
                clear hun
                have d23 := get_of_at (hneed 5 (of_decide_eq_true (by kernel_rfl)) 23 rfl) (by simp [undef])
                have d27 := get_of_at (hneed 9 (of_decide_eq_true (by kernel_rfl)) 27 rfl) (by simp [undef])
                clear hold hneed ho
                (go_simp; (try rw [IntKind.wrap_u32']); exact hK _ _ rfl (Upd.refl [] _))
              | 11, ho =>
                obtain rfl := Option.some.inj ho
                have q15 := hun 15 (.inr (by kernel_rfl))
                replace hneed := fun j hj => (hneed j hj).2
                replace hK := fun v w1 h u => hK v w1 h trivial u
                clear hun
                have d28 := get_of_at (hneed 10 (of_decide_eq_true (by kernel_rfl)) 28 rfl) (by simp [undef])
                clear hold hneed ho
                (have p0 := (hS.cell (a := ⟨bb, bo + q, none⟩) hbl (by simpa using hbN)).trans (hBq q hq64); go_simp; exact hK _ _ rfl (Upd.refl [] _))
              | 12, ho =>
                obtain rfl := Option.some.inj ho
                have q15 := hun 15 (.inr (by kernel_rfl))
                replace hneed := fun j hj => (hneed j hj).2
                replace hK := fun v w1 h u => hK v w1 h trivial u
                clear hun
                have d29 := get_of_at (hneed 11 (of_decide_eq_true (by kernel_rfl)) 29 rfl) (by simp [undef])
                clear hold hneed ho
                (go_simp; rw [W30.out]; exact hK _ _ rfl (Upd.refl [] _))
              | 13, ho =>
                obtain rfl := Option.some.inj ho
                have q15 := hun 15 (.inr (by kernel_rfl))
                replace hneed := fun j hj => (hneed j hj).2
                replace hK := fun v w1 h u => hK v w1 h trivial u
                clear hun
                have d22 := get_of_at (hneed 4 (of_decide_eq_true (by kernel_rfl)) 22 rfl) (by simp [undef])
                have d30 := get_of_at (hneed 12 (of_decide_eq_true (by kernel_rfl)) 30 rfl) (by simp [undef])
                clear hold hneed ho
                (go_simp; rw [IntKind.wrap_u32', Hnv.out]; exact hK _ _ rfl (Upd.refl [] _))
              | 14, ho =>
                obtain rfl := Option.some.inj ho
                have q15 := hun 15 (.inr (by kernel_rfl))
                replace hneed := fun j hj => (hneed j hj).2
                replace hK := fun v w1 h u => hK v w1 h trivial u
                clear hun
                have d3 := hold 3 _ (by kernel_rfl) rfl
                have d18 := get_of_at (hneed 0 (of_decide_eq_true (by kernel_rfl)) 18 rfl) (by simp [undef])
                clear hold hneed ho
                (go_simp; (try rw [IntKind.wrap_u32']); exact hK _ _ rfl (Upd.refl [] _))
              | 15, ho =>
                obtain rfl := Option.some.inj ho
                have q15 := hun 15 (.inl rfl)
                change Blk _ _ _ _ at q15
                replace hneed := fun j hj => (hneed j hj).2
                clear hun
                have d32 := get_of_at (hneed 14 (of_decide_eq_true (by kernel_rfl)) 32 rfl) (by simp [undef])
                have d31 := get_of_at (hneed 13 (of_decide_eq_true (by kernel_rfl)) 31 rfl) (by simp [undef])
                clear hold hneed ho
                (have p0 := q15.cell ni (wrow_get _ (by omega)); have f0 := q15.free ni; have hq := q15.set ni (.int .u32 nv); rw [wrow_set] at hq; go_simp; exact hK undef _ trivial hq ((Upd.refl _ _).setCell (Or.inl (by simp [effOf, BE.eff])) _))
              | _ + 16, ho => exact absurd ho (by simp)
            case fin =>
              intro a w' hS hsz hdf hold hvals hposts
              have hP15 : Blk w' (N1) (wrow 64 (upd1 f ni nv)) (64) := hposts 15 (of_decide_eq_true (by kernel_rfl))
              have ha := act_lit hsz hdf (RowIs.cons (at_of_get (hold 0 _ (by kernel_rfl) rfl)) (RowIs.cons (at_of_get (hold 1 _ (by kernel_rfl) rfl)) (RowIs.cons (at_of_get (hold 2 _ (by kernel_rfl) rfl)) (RowIs.cons (at_of_get (hold 3 _ (by kernel_rfl) rfl)) (RowIs.cons (at_of_get (hold 4 _ (by kernel_rfl) rfl)) (RowIs.cons (at_of_get (hold 5 _ (by kernel_rfl) rfl)) (RowIs.cons (at_of_get (hold 6 _ (by kernel_rfl) rfl)) (RowIs.cons (at_of_get (hold 7 _ (by kernel_rfl) rfl)) (RowIs.cons (at_of_get (hold 8 _ (by kernel_rfl) rfl)) (RowIs.cons (at_of_get (hold 9 _ (by kernel_rfl) rfl)) (RowIs.cons (at_of_get (hold 10 _ (by kernel_rfl) rfl)) (RowIs.cons (at_of_get (hold 11 _ (by kernel_rfl) rfl)) (RowIs.cons (at_of_get (hold 12 _ (by kernel_rfl) rfl)) (RowIs.cons (at_of_get (hold 13 _ (by kernel_rfl) rfl)) (RowIs.cons (at_of_get (hold 14 _ (by kernel_rfl) rfl)) (RowIs.cons (at_of_get (hold 15 _ (by kernel_rfl) rfl)) (RowIs.cons (at_of_get (hold 16 _ (by kernel_rfl) rfl)) (RowIs.cons (at_of_get (hold 17 _ (by kernel_rfl) rfl)) (RowIs.cons (hvals 0 18 rfl) (RowIs.cons (hvals 1 19 rfl) (RowIs.cons (hvals 2 20 rfl) (RowIs.cons (hvals 3 21 rfl) (RowIs.cons (hvals 4 22 rfl) (RowIs.cons (hvals 5 23 rfl) (RowIs.cons (hvals 6 24 rfl) (RowIs.cons (hvals 7 25 rfl) (RowIs.cons (hvals 8 26 rfl) (RowIs.cons (hvals 9 27 rfl) (RowIs.cons (hvals 10 28 rfl) (RowIs.cons (hvals 11 29 rfl) (RowIs.cons (hvals 12 30 rfl) (RowIs.cons (hvals 13 31 rfl) (RowIs.cons (hvals 14 32 rfl) (RowIs.cons (at_of_get (hold 33 _ (by kernel_rfl) rfl)) (RowIs.cons (at_of_get (hold 34 _ (by kernel_rfl) rfl)) (RowIs.cons (at_of_get (hold 35 _ (by kernel_rfl) rfl)) (RowIs.cons (at_of_get (hold 36 _ (by kernel_rfl) rfl)) (RowIs.cons (at_of_get (hold 37 _ (by kernel_rfl) rfl)) (RowIs.cons (at_of_get (hold 38 _ (by kernel_rfl) rfl)) (RowIs.cons (at_of_get (hold 39 _ (by kernel_rfl) rfl)) (RowIs.cons (at_of_get (hold 40 _ (by kernel_rfl) rfl)) (RowIs.cons (at_of_get (hold 41 _ (by kernel_rfl) rfl)) (RowIs.cons (at_of_get (hold 42 _ (by kernel_rfl) rfl)) (RowIs.cons (at_of_get (hold 43 _ (by kernel_rfl) rfl)) (RowIs.cons (at_of_get (hold 44 _ (by kernel_rfl) rfl)) (RowIs.cons (at_of_get (hold 45 _ (by kernel_rfl) rfl)) (RowIs.cons (at_of_get (hold 46 _ (by kernel_rfl) rfl)) (RowIs.cons (at_of_get (hold 47 _ (by kernel_rfl) rfl)) (RowIs.cons (at_of_get (hold 48 _ (by kernel_rfl) rfl)) (RowIs.cons (at_of_get (hold 49 _ (by kernel_rfl) rfl)) (RowIs.cons (at_of_get (hold 50 _ (by kernel_rfl) rfl)) (RowIs.cons (at_of_get (hold 51 _ (by kernel_rfl) rfl)) (RowIs.cons (at_of_get (hold 52 _ (by kernel_rfl) rfl)) (RowIs.cons (at_of_get (hold 53 _ (by kernel_rfl) rfl)) (RowIs.cons (at_of_get (hold 54 _ (by kernel_rfl) rfl)) (RowIs.cons (at_of_get (hold 55 _ (by kernel_rfl) rfl)) (RowIs.cons (at_of_get (hold 56 _ (by kernel_rfl) rfl)) (RowIs.cons (at_of_get (hold 57 _ (by kernel_rfl) rfl)) (RowIs.cons (at_of_get (hold 58 _ (by kernel_rfl) rfl)) (RowIs.cons (at_of_get (hold 59 _ (by kernel_rfl) rfl)) (RowIs.cons (at_of_get (hold 60 _ (by kernel_rfl) rfl)) (RowIs.cons (at_of_get (hold 61 _ (by kernel_rfl) rfl)) (RowIs.cons (at_of_get (hold 62 _ (by kernel_rfl) rfl)) (RowIs.cons (at_of_get (hold 63 _ (by kernel_rfl) rfl)) (RowIs.cons (at_of_get (hold 64 _ (by kernel_rfl) rfl)) (RowIs.cons (at_of_get (hold 65 _ (by kernel_rfl) rfl)) (RowIs.cons (at_of_get (hold 66 _ (by kernel_rfl) rfl)) (RowIs.cons (at_of_get (hold 67 _ (by kernel_rfl) rfl)) (RowIs.cons (at_of_get (hold 68 _ (by kernel_rfl) rfl)) (RowIs.cons (at_of_get (hold 69 _ (by kernel_rfl) rfl)) (RowIs.cons (at_of_get (hold 70 _ (by kernel_rfl) rfl)) (RowIs.nil _ _)))))))))))))))))))))))))))))))))))))))))))))))))))))))))))))))))))))))) rfl
              clear hsz hdf hold hvals hposts
              subst ha
              try simp only [List.getElem_toArray, List.getElem_cons_succ, List.getElem_cons_zero]
              have hu2 := hu.trans_nil' hS (by simpa using hb0)
              have hR2 := hR.upd hS (by simpa using hN01)
              have hT2 := hP15
              rw [Hst.out] at hT2
              clear hS hP15 hu hR
              go_wp2_with fail
              exact ⟨⟨nk + 1, by omega, by go_num, by rw [← Nat.add_assoc, Hqk.out]; exact hT2, hR2, hu2⟩, by simp [intOf]; omega⟩
          · obtain rfl : nk = 4 := by omega
            go_wp2_with fail
            exact ⟨⟨ni + 1, by omega, by go_num, by rw [wAt_lo (by omega)]; exact hT, hR, hu⟩, by simp [intOf]; omega⟩
      · obtain ⟨j0, hj0⟩ : ∃ j0, ni = j0 + 16 := ⟨ni - 16, by omega⟩
        have Hw : Hid (wAt B (ni + 1) = upd1 (wAt B ni) ni (newW (wAt B ni) j0)) := Lib.hid (by subst hj0; rw [show j0 + 16 + 1 = (j0 + 1) + 16 by omega, wAt_hi, wAt_hi]; rfl)
        have hfb := wAt_bd B ni
        generalize wAt B ni = f at *
        obtain ⟨j1, hj1⟩ : ∃ j1, j1 = j0 + 1 := ⟨_, rfl⟩
        obtain ⟨j9, hj9⟩ : ∃ j9, j9 = j0 + 9 := ⟨_, rfl⟩
        obtain ⟨j14, hj14⟩ : ∃ j14, j14 = j0 + 14 := ⟨_, rfl⟩
        obtain ⟨nw, hnw⟩ : ∃ nw, newW f j0 = nw := ⟨_, rfl⟩
        rw [hnw] at Hw
        unfold newW at hnw
        rw [← hj1, ← hj9, ← hj14] at hnw
        have Hnw := Lib.hid hnw
        have E15 : Hid ((ni : Int) - 15 = (j1 : Int)) := Lib.hid (by omega)
        have E2 : Hid ((ni : Int) - 2 = (j14 : Int)) := Lib.hid (by omega)
        have E16 : Hid ((ni : Int) - 16 = (j0 : Int)) := Lib.hid (by omega)
        have E7 : Hid ((ni : Int) - 7 = (j9 : Int)) := Lib.hid (by omega)
        have l0 : j0 < 64 := by omega
        have l1 : j1 < 64 := by omega
        have l9 : j9 < 64 := by omega
        have l14 : j14 < 64 := by omega
        have g1 : (16 : Int) ≤ ni := by omega
        have g2 : (ni : Int) < 64 := by omega
        have g3 : (0 : Int) ≤ j0 := by omega
        have g4 : (j0 : Int) < 64 := by omega
        have g5 : (0 : Int) ≤ j1 := by omega
        have g6 : (j1 : Int) < 64 := by omega
        have g7 : (0 : Int) ≤ j9 := by omega
        have g8 : (j9 : Int) < 64 := by omega
        have g9 : (0 : Int) ≤ j14 := by omega
        have g10 : (j14 : Int) < 64 := by omega
        have b0 := hfb j0
        have b1 := hfb j1
        have b9 := hfb j9
        have b14 := hfb j14
        have Wj0 : Hid (IntKind.i64.wrap (j0 : Int) = (j0 : Int)) := Lib.hid (by rw [IntKind.wrap_i64]; omega)
        have Wj1 : Hid (IntKind.i64.wrap (j1 : Int) = (j1 : Int)) := Lib.hid (by rw [IntKind.wrap_i64]; omega)
        have Wj9 : Hid (IntKind.i64.wrap (j9 : Int) = (j9 : Int)) := Lib.hid (by rw [IntKind.wrap_i64]; omega)
        have Wj14 : Hid (IntKind.i64.wrap (j14 : Int) = (j14 : Int)) := Lib.hid (by rw [IntKind.wrap_i64]; omega)
        clear hnw hj1 hj9 hj14 hj0
        have c1 := hT.cell j1 (wrow_get _ l1)
        have c14 := hT.cell j14 (wrow_get _ l14)
        have hNl := hT.lt
        go_upto_region 10 with fail
        refine wp_region_spec [(.eq (.int .i64 (ni : Int))), (.eq (.int .i64 (j1 : Int))), (.eq (.pointer (some ⟨N1, j1, none⟩))), (.eq (.int .u32 (f j1))), (.eq (.int .i64 (ni : Int))), (.eq (.int .i64 (j14 : Int))), (.eq (.pointer (some ⟨N1, j14, none⟩))), (.eq (.int .u32 (f j14))), (.eq (.int .u32 (f j1))), (.eq (.int .u32 (f j14)))] (by kernel_rfl) (by kernel_rfl) rfl ?step ?fin
        case step =>
          intro i o ho a w' hS hold hneed K' hK
          match i, ho with
          | 0, ho =>
            obtain rfl := Option.some.inj ho
            have d4 := hold 4 _ (by kernel_rfl) rfl
            clear hold hneed ho
            (go_simp; (try rw [IntKind.wrap_u32']); exact hK _ _ rfl (Upd.refl [] _))
          | 1, ho =>
            obtain rfl := Option.some.inj ho
            have d33 := get_of_at (hneed 0 (of_decide_eq_true (by kernel_rfl)) 33 rfl) (by simp [undef])
            clear hold hneed ho
            (go_simp; rw [E15.out, Wj1.out]; exact hK _ _ rfl (Upd.refl [] _))
          | 2, ho =>
            obtain rfl := Option.some.inj ho
            have d3 := hold 3 _ (by kernel_rfl) rfl
            have d34 := get_of_at (hneed 1 (of_decide_eq_true (by kernel_rfl)) 34 rfl) (by simp [undef])
            clear hold hneed ho
            (go_simp; (try rw [IntKind.wrap_u32']); exact hK _ _ rfl (Upd.refl [] _))
          | 3, ho =>
            obtain rfl := Option.some.inj ho
            have d35 := get_of_at (hneed 2 (of_decide_eq_true (by kernel_rfl)) 35 rfl) (by simp [undef])
            clear hold hneed ho
            (have p0 := (hS.cell (a := ⟨N1, j1, none⟩) hNl (by simp)).trans c1; go_simp; exact hK _ _ rfl (Upd.refl [] _))
          | 4, ho =>
            obtain rfl := Option.some.inj ho
            have d4 := hold 4 _ (by kernel_rfl) rfl
            clear hold hneed ho
            (go_simp; (try rw [IntKind.wrap_u32']); exact hK _ _ rfl (Upd.refl [] _))
          | 5, ho =>
            obtain rfl := Option.some.inj ho
            have d37 := get_of_at (hneed 4 (of_decide_eq_true (by kernel_rfl)) 37 rfl) (by simp [undef])
            clear hold hneed ho
            (go_simp; rw [E2.out, Wj14.out]; exact hK _ _ rfl (Upd.refl [] _))
          | 6, ho =>
            obtain rfl := Option.some.inj ho
            have d3 := hold 3 _ (by kernel_rfl) rfl
            have d38 := get_of_at (hneed 5 (of_decide_eq_true (by kernel_rfl)) 38 rfl) (by simp [undef])
            clear hold hneed ho
            (go_simp; (try rw [IntKind.wrap_u32']); exact hK _ _ rfl (Upd.refl [] _))
          | 7, ho =>
            obtain rfl := Option.some.inj ho
            have d39 := get_of_at (hneed 6 (of_decide_eq_true (by kernel_rfl)) 39 rfl) (by simp [undef])
            clear hold hneed ho
            (have p0 := (hS.cell (a := ⟨N1, j14, none⟩) hNl (by simp)).trans c14; go_simp; exact hK _ _ rfl (Upd.refl [] _))
          | 8, ho =>
            obtain rfl := Option.some.inj ho
            have d36 := get_of_at (hneed 3 (of_decide_eq_true (by kernel_rfl)) 36 rfl) (by simp [undef])
            clear hold hneed ho
            (go_simp; (try rw [IntKind.wrap_u32']); exact hK _ _ rfl (Upd.refl [] _))
          | 9, ho =>
            obtain rfl := Option.some.inj ho
            have d40 := get_of_at (hneed 7 (of_decide_eq_true (by kernel_rfl)) 40 rfl) (by simp [undef])
            clear hold hneed ho
            (go_simp; (try rw [IntKind.wrap_u32']); exact hK _ _ rfl (Upd.refl [] _))
          | _ + 10, ho => exact absurd ho (by simp)
        case fin =>
          intro a w' hS hsz hdf hold hvals
          have ha := act_lit hsz hdf (RowIs.cons (at_of_get (hold 0 _ (by kernel_rfl) rfl)) (RowIs.cons (at_of_get (hold 1 _ (by kernel_rfl) rfl)) (RowIs.cons (at_of_get (hold 2 _ (by kernel_rfl) rfl)) (RowIs.cons (at_of_get (hold 3 _ (by kernel_rfl) rfl)) (RowIs.cons (at_of_get (hold 4 _ (by kernel_rfl) rfl)) (RowIs.cons (at_of_get (hold 5 _ (by kernel_rfl) rfl)) (RowIs.cons (hvals 8 6 rfl) (RowIs.cons (hvals 9 7 rfl) (RowIs.cons (at_of_get (hold 8 _ (by kernel_rfl) rfl)) (RowIs.cons (at_of_get (hold 9 _ (by kernel_rfl) rfl)) (RowIs.cons (at_of_get (hold 10 _ (by kernel_rfl) rfl)) (RowIs.cons (at_of_get (hold 11 _ (by kernel_rfl) rfl)) (RowIs.cons (at_of_get (hold 12 _ (by kernel_rfl) rfl)) (RowIs.cons (at_of_get (hold 13 _ (by kernel_rfl) rfl)) (RowIs.cons (at_of_get (hold 14 _ (by kernel_rfl) rfl)) (RowIs.cons (at_of_get (hold 15 _ (by kernel_rfl) rfl)) (RowIs.cons (at_of_get (hold 16 _ (by kernel_rfl) rfl)) (RowIs.cons (at_of_get (hold 17 _ (by kernel_rfl) rfl)) (RowIs.cons (at_of_get (hold 18 _ (by kernel_rfl) rfl)) (RowIs.cons (at_of_get (hold 19 _ (by kernel_rfl) rfl)) (RowIs.cons (at_of_get (hold 20 _ (by kernel_rfl) rfl)) (RowIs.cons (at_of_get (hold 21 _ (by kernel_rfl) rfl)) (RowIs.cons (at_of_get (hold 22 _ (by kernel_rfl) rfl)) (RowIs.cons (at_of_get (hold 23 _ (by kernel_rfl) rfl)) (RowIs.cons (at_of_get (hold 24 _ (by kernel_rfl) rfl)) (RowIs.cons (at_of_get (hold 25 _ (by kernel_rfl) rfl)) (RowIs.cons (at_of_get (hold 26 _ (by kernel_rfl) rfl)) (RowIs.cons (at_of_get (hold 27 _ (by kernel_rfl) rfl)) (RowIs.cons (at_of_get (hold 28 _ (by kernel_rfl) rfl)) (RowIs.cons (at_of_get (hold 29 _ (by kernel_rfl) rfl)) (RowIs.cons (at_of_get (hold 30 _ (by kernel_rfl) rfl)) (RowIs.cons (at_of_get (hold 31 _ (by kernel_rfl) rfl)) (RowIs.cons (at_of_get (hold 32 _ (by kernel_rfl) rfl)) (RowIs.cons (hvals 0 33 rfl) (RowIs.cons (hvals 1 34 rfl) (RowIs.cons (hvals 2 35 rfl) (RowIs.cons (hvals 3 36 rfl) (RowIs.cons (hvals 4 37 rfl) (RowIs.cons (hvals 5 38 rfl) (RowIs.cons (hvals 6 39 rfl) (RowIs.cons (hvals 7 40 rfl) (RowIs.cons (at_of_get (hold 41 _ (by kernel_rfl) rfl)) (RowIs.cons (at_of_get (hold 42 _ (by kernel_rfl) rfl)) (RowIs.cons (at_of_get (hold 43 _ (by kernel_rfl) rfl)) (RowIs.cons (at_of_get (hold 44 _ (by kernel_rfl) rfl)) (RowIs.cons (at_of_get (hold 45 _ (by kernel_rfl) rfl)) (RowIs.cons (at_of_get (hold 46 _ (by kernel_rfl) rfl)) (RowIs.cons (at_of_get (hold 47 _ (by kernel_rfl) rfl)) (RowIs.cons (at_of_get (hold 48 _ (by kernel_rfl) rfl)) (RowIs.cons (at_of_get (hold 49 _ (by kernel_rfl) rfl)) (RowIs.cons (at_of_get (hold 50 _ (by kernel_rfl) rfl)) (RowIs.cons (at_of_get (hold 51 _ (by kernel_rfl) rfl)) (RowIs.cons (at_of_get (hold 52 _ (by kernel_rfl) rfl)) (RowIs.cons (at_of_get (hold 53 _ (by kernel_rfl) rfl)) (RowIs.cons (at_of_get (hold 54 _ (by kernel_rfl) rfl)) (RowIs.cons (at_of_get (hold 55 _ (by kernel_rfl) rfl)) (RowIs.cons (at_of_get (hold 56 _ (by kernel_rfl) rfl)) (RowIs.cons (at_of_get (hold 57 _ (by kernel_rfl) rfl)) (RowIs.cons (at_of_get (hold 58 _ (by kernel_rfl) rfl)) (RowIs.cons (at_of_get (hold 59 _ (by kernel_rfl) rfl)) (RowIs.cons (at_of_get (hold 60 _ (by kernel_rfl) rfl)) (RowIs.cons (at_of_get (hold 61 _ (by kernel_rfl) rfl)) (RowIs.cons (at_of_get (hold 62 _ (by kernel_rfl) rfl)) (RowIs.cons (at_of_get (hold 63 _ (by kernel_rfl) rfl)) (RowIs.cons (at_of_get (hold 64 _ (by kernel_rfl) rfl)) (RowIs.cons (at_of_get (hold 65 _ (by kernel_rfl) rfl)) (RowIs.cons (at_of_get (hold 66 _ (by kernel_rfl) rfl)) (RowIs.cons (at_of_get (hold 67 _ (by kernel_rfl) rfl)) (RowIs.cons (at_of_get (hold 68 _ (by kernel_rfl) rfl)) (RowIs.cons (at_of_get (hold 69 _ (by kernel_rfl) rfl)) (RowIs.cons (at_of_get (hold 70 _ (by kernel_rfl) rfl)) (RowIs.nil _ _)))))))))))))))))))))))))))))))))))))))))))))))))))))))))))))))))))))))) rfl
          clear hsz hdf hold hvals
          subst ha
          try simp only [List.getElem_toArray, List.getElem_cons_succ, List.getElem_cons_zero]
          have hu2 := hu.trans_nil hS
          have hT2 := hT.upd_nil hS
          have hR2 := hR.upd_nil hS
          clear hS hu hT hR c1 c14
          obtain ⟨wq, rfl⟩ : ∃ wq, wq = w' := ⟨_, rfl⟩
          go_upto_region 11 with fail
          refine wp_region_blk [(.eq (.int .i64 (ni : Int))), (.eq (.int .i64 (ni : Int))), (.eq (.int .i64 (j0 : Int))), (.eq (.pointer (some ⟨N1, j0, none⟩))), (.eq (.int .u32 (f j0))), (.eq (.int .i64 (ni : Int))), (.eq (.int .i64 (j9 : Int))), (.eq (.pointer (some ⟨N1, j9, none⟩))), (.eq (.int .u32 (f j9))), (.eq (.int .u32 ((f j0 + f j9) % 4294967296))), (.eq (.int .u32 (f j1))), (.eq (.int .u32 (rotr (f j1) 7))), (.eq (.int .u32 (f j1))), (.eq (.int .u32 (rotr (f j1) 18))), (.eq (.int .u32 (bits BinOp.xor IntKind.u32 (rotr (f j1) 7) (rotr (f j1) 18)))), (.eq (.int .u32 (f j1))), (.eq (.int .u32 (f j1 / 8))), (.eq (.int .u32 (bits BinOp.xor IntKind.u32 (bits BinOp.xor IntKind.u32 (rotr (f j1) 7) (rotr (f j1) 18)) (f j1 / 8)))), (.eq (.int .u32 (((f j0 + f j9) % 4294967296 + bits BinOp.xor IntKind.u32 (bits BinOp.xor IntKind.u32 (rotr (f j1) 7) (rotr (f j1) 18)) (f j1 / 8)) % 4294967296))), (.eq (.int .u32 (f j14))), (.eq (.int .u32 (rotr (f j14) 17))), (.eq (.int .u32 (f j14))), (.eq (.int .u32 (rotr (f j14) 19))), (.eq (.int .u32 (bits BinOp.xor IntKind.u32 (rotr (f j14) 17) (rotr (f j14) 19)))), (.eq (.int .u32 (f j14))), (.eq (.int .u32 (f j14 / 1024))), (.eq (.int .u32 (bits BinOp.xor IntKind.u32 (bits BinOp.xor IntKind.u32 (rotr (f j14) 17) (rotr (f j14) 19)) (f j14 / 1024)))), (.eq (.int .u32 nw)), (.eq (.pointer (some ⟨N1, ni, none⟩))), .any] [⟨29, (N1), (wrow 64 f), (wrow 64 (upd1 f ni nw)), (64)⟩] (by kernel_rfl) (by kernel_rfl) rfl ?ne ?pre ?step ?fin
          case ne => intro x hx y hy hxy; simp only [List.mem_cons, List.not_mem_nil, or_false] at hx hy; rcases hx with rfl <;> rcases hy with rfl <;> first | (exact absurd rfl hxy) | (dsimp only; omega)
          case pre => intro x hx; simp only [List.mem_cons, List.not_mem_nil, or_false] at hx; rcases hx with rfl <;> assumption
          case step =>
            intro i o ho a w' hS hold hneed hun K' hK
            match i, ho with
            | 0, ho =>
              obtain rfl := Option.some.inj ho
              have q29 := hun 29 (.inr (by kernel_rfl))
              replace hneed := fun j hj => (hneed j hj).2
              replace hK := fun v w1 h u => hK v w1 h trivial u
              clear hun
              have d4 := hold 4 _ (by kernel_rfl) rfl
              clear hold hneed ho
              (go_simp; (try rw [IntKind.wrap_u32']); exact hK _ _ rfl (Upd.refl [] _))
            | 1, ho =>
              obtain rfl := Option.some.inj ho
              have q29 := hun 29 (.inr (by kernel_rfl))
              replace hneed := fun j hj => (hneed j hj).2
              replace hK := fun v w1 h u => hK v w1 h trivial u
              clear hun
              have d4 := hold 4 _ (by kernel_rfl) rfl
              clear hold hneed ho
              (go_simp; (try rw [IntKind.wrap_u32']); exact hK _ _ rfl (Upd.refl [] _))
            | 2, ho =>
              obtain rfl := Option.some.inj ho
              have q29 := hun 29 (.inr (by kernel_rfl))
              replace hneed := fun j hj => (hneed j hj).2
              replace hK := fun v w1 h u => hK v w1 h trivial u
              clear hun
              have d42 := get_of_at (hneed 1 (of_decide_eq_true (by kernel_rfl)) 42 rfl) (by simp [undef])
              clear hold hneed ho
              (go_simp; rw [E16.out, Wj0.out]; exact hK _ _ rfl (Upd.refl [] _))
            | 3, ho =>
              obtain rfl := Option.some.inj ho
              have q29 := hun 29 (.inr (by kernel_rfl))
              replace hneed := fun j hj => (hneed j hj).2
              replace hK := fun v w1 h u => hK v w1 h trivial u
              clear hun
              have d3 := hold 3 _ (by kernel_rfl) rfl
              have d43 := get_of_at (hneed 2 (of_decide_eq_true (by kernel_rfl)) 43 rfl) (by simp [undef])
              clear hold hneed ho
              (go_simp; (try rw [IntKind.wrap_u32']); exact hK _ _ rfl (Upd.refl [] _))
            | 4, ho =>
              obtain rfl := Option.some.inj ho
              have q29 := hun 29 (.inr (by kernel_rfl))
              replace hneed := fun j hj => (hneed j hj).2
              replace hK := fun v w1 h u => hK v w1 h trivial u
              clear hun
              have d44 := get_of_at (hneed 3 (of_decide_eq_true (by kernel_rfl)) 44 rfl) (by simp [undef])
              clear hold hneed ho
              (have p0 := q29.cell j0 (wrow_get _ (by omega)); go_simp; exact hK _ _ rfl (Upd.refl [] _))
            | 5, ho =>
              obtain rfl := Option.some.inj ho
              have q29 := hun 29 (.inr (by kernel_rfl))
              replace hneed := fun j hj => (hneed j hj).2
              replace hK := fun v w1 h u => hK v w1 h trivial u
              clear hun
              have d4 := hold 4 _ (by kernel_rfl) rfl
              clear hold hneed ho
              (go_simp; (try rw [IntKind.wrap_u32']); exact hK _ _ rfl (Upd.refl [] _))
            | 6, ho =>
              obtain rfl := Option.some.inj ho
              have q29 := hun 29 (.inr (by kernel_rfl))
              replace hneed := fun j hj => (hneed j hj).2
              replace hK := fun v w1 h u => hK v w1 h trivial u
              clear hun
              have d46 := get_of_at (hneed 5 (of_decide_eq_true (by kernel_rfl)) 46 rfl) (by simp [undef])
              clear hold hneed ho
              (go_simp; rw [E7.out, Wj9.out]; exact hK _ _ rfl (Upd.refl [] _))
            | 7, ho =>
              obtain rfl := Option.some.inj ho
              have q29 := hun 29 (.inr (by kernel_rfl))
              replace hneed := fun j hj => (hneed j hj).2
              replace hK := fun v w1 h u => hK v w1 h trivial u
              clear hun
              have d3 := hold 3 _ (by kernel_rfl) rfl
              have d47 := get_of_at (hneed 6 (of_decide_eq_true (by kernel_rfl)) 47 rfl) (by simp [undef])
              clear hold hneed ho
              (go_simp; (try rw [IntKind.wrap_u32']); exact hK _ _ rfl (Upd.refl [] _))
            | 8, ho =>
              obtain rfl := Option.some.inj ho
              have q29 := hun 29 (.inr (by kernel_rfl))
              replace hneed := fun j hj => (hneed j hj).2
              replace hK := fun v w1 h u => hK v w1 h trivial u
              clear hun
              have d48 := get_of_at (hneed 7 (of_decide_eq_true (by kernel_rfl)) 48 rfl) (by simp [undef])
              clear hold hneed ho
              (have p0 := q29.cell j9 (wrow_get _ (by omega)); go_simp; exact hK _ _ rfl (Upd.refl [] _))
            | 9, ho =>
              obtain rfl := Option.some.inj ho
              have q29 := hun 29 (.inr (by kernel_rfl))
              replace hneed := fun j hj => (hneed j hj).2
              replace hK := fun v w1 h u => hK v w1 h trivial u
              clear hun
              have d45 := get_of_at (hneed 4 (of_decide_eq_true (by kernel_rfl)) 45 rfl) (by simp [undef])
              have d49 := get_of_at (hneed 8 (of_decide_eq_true (by kernel_rfl)) 49 rfl) (by simp [undef])
              clear hold hneed ho
              (go_simp; (try rw [IntKind.wrap_u32']); exact hK _ _ rfl (Upd.refl [] _))
            | 10, ho =>
              obtain rfl := Option.some.inj ho
              have q29 := hun 29 (.inr (by kernel_rfl))
              replace hneed := fun j hj => (hneed j hj).2
              replace hK := fun v w1 h u => hK v w1 h trivial u
              clear hun
              have d6 := hold 6 _ (by kernel_rfl) rfl
              clear hold hneed ho
              (go_simp; (try rw [IntKind.wrap_u32']); exact hK _ _ rfl (Upd.refl [] _))
            | 11, ho =>
              obtain rfl := Option.some.inj ho
              have q29 := hun 29 (.inr (by kernel_rfl))
              replace hneed := fun j hj => (hneed j hj).2
              replace hK := fun v w1 h u => hK v w1 h trivial u
              clear hun
              have d51 := get_of_at (hneed 10 (of_decide_eq_true (by kernel_rfl)) 51 rfl) (by simp [undef])
              clear hold hneed ho
              (go_simp; refine (rturn (f j1) 7 7 rfl b1.1 b1.2 (by decide) (by decide) _).mono ?_; rintro e w3 ⟨rfl, hu3⟩; exact hK _ _ rfl hu3)
            | 12, ho =>
              obtain rfl := Option.some.inj ho
              have q29 := hun 29 (.inr (by kernel_rfl))
              replace hneed := fun j hj => (hneed j hj).2
              replace hK := fun v w1 h u => hK v w1 h trivial u
              clear hun
              have d6 := hold 6 _ (by kernel_rfl) rfl
              clear hold hneed ho
              (go_simp; (try rw [IntKind.wrap_u32']); exact hK _ _ rfl (Upd.refl [] _))
            | 13, ho =>
              obtain rfl := Option.some.inj ho
              have q29 := hun 29 (.inr (by kernel_rfl))
              replace hneed := fun j hj => (hneed j hj).2
              replace hK := fun v w1 h u => hK v w1 h trivial u
              clear hun
              have d53 := get_of_at (hneed 12 (of_decide_eq_true (by kernel_rfl)) 53 rfl) (by simp [undef])
              clear hold hneed ho
              (go_simp; refine (rturn (f j1) 18 18 rfl b1.1 b1.2 (by decide) (by decide) _).mono ?_; rintro e w3 ⟨rfl, hu3⟩; exact hK _ _ rfl hu3)
            | 14, ho =>
              obtain rfl := Option.some.inj ho
              have q29 := hun 29 (.inr (by kernel_rfl))
              replace hneed := fun j hj => (hneed j hj).2
              replace hK := fun v w1 h u => hK v w1 h trivial u
              clear hun
              have d52 := get_of_at (hneed 11 (of_decide_eq_true (by kernel_rfl)) 52 rfl) (by simp [undef])
              have d54 := get_of_at (hneed 13 (of_decide_eq_true (by kernel_rfl)) 54 rfl) (by simp [undef])
              clear hold hneed ho
              (go_simp; (try rw [IntKind.wrap_u32']); exact hK _ _ rfl (Upd.refl [] _))
            | 15, ho =>
              obtain rfl := Option.some.inj ho
              have q29 := hun 29 (.inr (by kernel_rfl))
              replace hneed := fun j hj => (hneed j hj).2
              replace hK := fun v w1 h u => hK v w1 h trivial u
              clear hun
              have d6 := hold 6 _ (by kernel_rfl) rfl
              clear hold hneed ho
              (go_simp; (try rw [IntKind.wrap_u32']); exact hK _ _ rfl (Upd.refl [] _))
            | 16, ho =>
              obtain rfl := Option.some.inj ho
              have q29 := hun 29 (.inr (by kernel_rfl))
              replace hneed := fun j hj => (hneed j hj).2
              replace hK := fun v w1 h u => hK v w1 h trivial u
              clear hun
              have d56 := get_of_at (hneed 15 (of_decide_eq_true (by kernel_rfl)) 56 rfl) (by simp [undef])
              clear hold hneed ho
              (go_simp; (try rw [IntKind.wrap_u32']); exact hK _ _ rfl (Upd.refl [] _))
            | 17, ho =>
              obtain rfl := Option.some.inj ho
              have q29 := hun 29 (.inr (by kernel_rfl))
              replace hneed := fun j hj => (hneed j hj).2
              replace hK := fun v w1 h u => hK v w1 h trivial u
              clear hun
              have d55 := get_of_at (hneed 14 (of_decide_eq_true (by kernel_rfl)) 55 rfl) (by simp [undef])
              have d57 := get_of_at (hneed 16 (of_decide_eq_true (by kernel_rfl)) 57 rfl) (by simp [undef])
              clear hold hneed ho
              (go_simp; (try rw [IntKind.wrap_u32']); exact hK _ _ rfl (Upd.refl [] _))
            | 18, ho =>
              obtain rfl := Option.some.inj ho
              have q29 := hun 29 (.inr (by kernel_rfl))
              replace hneed := fun j hj => (hneed j hj).2
              replace hK := fun v w1 h u => hK v w1 h trivial u
              clear hun
              have d50 := get_of_at (hneed 9 (of_decide_eq_true (by kernel_rfl)) 50 rfl) (by simp [undef])
              have d58 := get_of_at (hneed 17 (of_decide_eq_true (by kernel_rfl)) 58 rfl) (by simp [undef])
              clear hold hneed ho
              (go_simp; (try rw [IntKind.wrap_u32']); exact hK _ _ rfl (Upd.refl [] _))
            | 19, ho =>
              obtain rfl := Option.some.inj ho
              have q29 := hun 29 (.inr (by kernel_rfl))
              replace hneed := fun j hj => (hneed j hj).2
              replace hK := fun v w1 h u => hK v w1 h trivial u
              clear hun
              have d7 := hold 7 _ (by kernel_rfl) rfl
              clear hold hneed ho
              (go_simp; (try rw [IntKind.wrap_u32']); exact hK _ _ rfl (Upd.refl [] _))
            | 20, ho =>
              obtain rfl := Option.some.inj ho
              have q29 := hun 29 (.inr (by kernel_rfl))
              replace hneed := fun j hj => (hneed j hj).2
              replace hK := fun v w1 h u => hK v w1 h trivial u
              clear hun
              have d60 := get_of_at (hneed 19 (of_decide_eq_true (by kernel_rfl)) 60 rfl) (by simp [undef])
              clear hold hneed ho
              (go_simp; refine (rturn (f j14) 17 17 rfl b14.1 b14.2 (by decide) (by decide) _).mono ?_; rintro e w3 ⟨rfl, hu3⟩; exact hK _ _ rfl hu3)
            | 21, ho =>
              obtain rfl := Option.some.inj ho
              have q29 := hun 29 (.inr (by kernel_rfl))
              replace hneed := fun j hj => (hneed j hj).2
              replace hK := fun v w1 h u => hK v w1 h trivial u
              clear hun
              have d7 := hold 7 _ (by kernel_rfl) rfl
              clear hold hneed ho
              (go_simp; (try rw [IntKind.wrap_u32']); exact hK _ _ rfl (Upd.refl [] _))
            | 22, ho =>
              obtain rfl := Option.some.inj ho
              have q29 := hun 29 (.inr (by kernel_rfl))
              replace hneed := fun j hj => (hneed j hj).2
              replace hK := fun v w1 h u => hK v w1 h trivial u
              clear hun
              have d62 := get_of_at (hneed 21 (of_decide_eq_true (by kernel_rfl)) 62 rfl) (by simp [undef])
              clear hold hneed ho
              (go_simp; refine (rturn (f j14) 19 19 rfl b14.1 b14.2 (by decide) (by decide) _).mono ?_; rintro e w3 ⟨rfl, hu3⟩; exact hK _ _ rfl hu3)
            | 23, ho =>
              obtain rfl := Option.some.inj ho
              have q29 := hun 29 (.inr (by kernel_rfl))
              replace hneed := fun j hj => (hneed j hj).2
              replace hK := fun v w1 h u => hK v w1 h trivial u
              clear hun
              have d61 := get_of_at (hneed 20 (of_decide_eq_true (by kernel_rfl)) 61 rfl) (by simp [undef])
              have d63 := get_of_at (hneed 22 (of_decide_eq_true (by kernel_rfl)) 63 rfl) (by simp [undef])
              clear hold hneed ho
              (go_simp; (try rw [IntKind.wrap_u32']); exact hK _ _ rfl (Upd.refl [] _))
            | 24, ho =>
              obtain rfl := Option.some.inj ho
              have q29 := hun 29 (.inr (by kernel_rfl))
              replace hneed := fun j hj => (hneed j hj).2
              replace hK := fun v w1 h u => hK v w1 h trivial u
              clear hun
              have d7 := hold 7 _ (by kernel_rfl) rfl
              clear hold hneed ho
              (go_simp; (try rw [IntKind.wrap_u32']); exact hK _ _ rfl (Upd.refl [] _))
            | 25, ho =>
              obtain rfl := Option.some.inj ho
              have q29 := hun 29 (.inr (by kernel_rfl))
              replace hneed := fun j hj => (hneed j hj).2
              replace hK := fun v w1 h u => hK v w1 h trivial u
              clear hun
              have d65 := get_of_at (hneed 24 (of_decide_eq_true (by kernel_rfl)) 65 rfl) (by simp [undef])
              clear hold hneed ho
              (go_simp; (try rw [IntKind.wrap_u32']); exact hK _ _ rfl (Upd.refl [] _))
            | 26, ho =>
              obtain rfl := Option.some.inj ho
              have q29 := hun 29 (.inr (by kernel_rfl))
              replace hneed := fun j hj => (hneed j hj).2
              replace hK := fun v w1 h u => hK v w1 h trivial u
              clear hun
              have d64 := get_of_at (hneed 23 (of_decide_eq_true (by kernel_rfl)) 64 rfl) (by simp [undef])
              have d66 := get_of_at (hneed 25 (of_decide_eq_true (by kernel_rfl)) 66 rfl) (by simp [undef])
              clear hold hneed ho
              (go_simp; (try rw [IntKind.wrap_u32']); exact hK _ _ rfl (Upd.refl [] _))
            | 27, ho =>
              obtain rfl := Option.some.inj ho
              have q29 := hun 29 (.inr (by kernel_rfl))
              replace hneed := fun j hj => (hneed j hj).2
              replace hK := fun v w1 h u => hK v w1 h trivial u
              clear hun
              have d59 := get_of_at (hneed 18 (of_decide_eq_true (by kernel_rfl)) 59 rfl) (by simp [undef])
              have d67 := get_of_at (hneed 26 (of_decide_eq_true (by kernel_rfl)) 67 rfl) (by simp [undef])
              clear hold hneed ho
              (go_simp; rw [IntKind.wrap_u32', ← Int.emod_add_emod (f j0 + f j9), Hnw.out]; exact hK _ _ rfl (Upd.refl [] _))
            | 28, ho =>
              obtain rfl := Option.some.inj ho
              have q29 := hun 29 (.inr (by kernel_rfl))
              replace hneed := fun j hj => (hneed j hj).2
              replace hK := fun v w1 h u => hK v w1 h trivial u
              clear hun
              have d3 := hold 3 _ (by kernel_rfl) rfl
              have d41 := get_of_at (hneed 0 (of_decide_eq_true (by kernel_rfl)) 41 rfl) (by simp [undef])
              clear hold hneed ho
              (go_simp; (try rw [IntKind.wrap_u32']); exact hK _ _ rfl (Upd.refl [] _))
            | 29, ho =>
              obtain rfl := Option.some.inj ho
              have q29 := hun 29 (.inl rfl)
              change Blk _ _ _ _ at q29
              replace hneed := fun j hj => (hneed j hj).2
              clear hun
              have d69 := get_of_at (hneed 28 (of_decide_eq_true (by kernel_rfl)) 69 rfl) (by simp [undef])
              have d68 := get_of_at (hneed 27 (of_decide_eq_true (by kernel_rfl)) 68 rfl) (by simp [undef])
              clear hold hneed ho
              (have p0 := q29.cell ni (wrow_get _ (by omega)); have f0 := q29.free ni; have hq := q29.set ni (.int .u32 nw); rw [wrow_set] at hq; go_simp; exact hK undef _ trivial hq ((Upd.refl _ _).setCell (Or.inl (by simp [effOf, BE.eff])) _))
            | _ + 30, ho => exact absurd ho (by simp)
          case fin =>
            intro a w' hS hsz hdf hold hvals hposts
            have hP29 : Blk w' (N1) (wrow 64 (upd1 f ni nw)) (64) := hposts 29 (of_decide_eq_true (by kernel_rfl))
            have ha := act_lit hsz hdf (RowIs.cons (at_of_get (hold 0 _ (by kernel_rfl) rfl)) (RowIs.cons (at_of_get (hold 1 _ (by kernel_rfl) rfl)) (RowIs.cons (at_of_get (hold 2 _ (by kernel_rfl) rfl)) (RowIs.cons (at_of_get (hold 3 _ (by kernel_rfl) rfl)) (RowIs.cons (at_of_get (hold 4 _ (by kernel_rfl) rfl)) (RowIs.cons (at_of_get (hold 5 _ (by kernel_rfl) rfl)) (RowIs.cons (at_of_get (hold 6 _ (by kernel_rfl) rfl)) (RowIs.cons (at_of_get (hold 7 _ (by kernel_rfl) rfl)) (RowIs.cons (at_of_get (hold 8 _ (by kernel_rfl) rfl)) (RowIs.cons (at_of_get (hold 9 _ (by kernel_rfl) rfl)) (RowIs.cons (at_of_get (hold 10 _ (by kernel_rfl) rfl)) (RowIs.cons (at_of_get (hold 11 _ (by kernel_rfl) rfl)) (RowIs.cons (at_of_get (hold 12 _ (by kernel_rfl) rfl)) (RowIs.cons (at_of_get (hold 13 _ (by kernel_rfl) rfl)) (RowIs.cons (at_of_get (hold 14 _ (by kernel_rfl) rfl)) (RowIs.cons (at_of_get (hold 15 _ (by kernel_rfl) rfl)) (RowIs.cons (at_of_get (hold 16 _ (by kernel_rfl) rfl)) (RowIs.cons (at_of_get (hold 17 _ (by kernel_rfl) rfl)) (RowIs.cons (at_of_get (hold 18 _ (by kernel_rfl) rfl)) (RowIs.cons (at_of_get (hold 19 _ (by kernel_rfl) rfl)) (RowIs.cons (at_of_get (hold 20 _ (by kernel_rfl) rfl)) (RowIs.cons (at_of_get (hold 21 _ (by kernel_rfl) rfl)) (RowIs.cons (at_of_get (hold 22 _ (by kernel_rfl) rfl)) (RowIs.cons (at_of_get (hold 23 _ (by kernel_rfl) rfl)) (RowIs.cons (at_of_get (hold 24 _ (by kernel_rfl) rfl)) (RowIs.cons (at_of_get (hold 25 _ (by kernel_rfl) rfl)) (RowIs.cons (at_of_get (hold 26 _ (by kernel_rfl) rfl)) (RowIs.cons (at_of_get (hold 27 _ (by kernel_rfl) rfl)) (RowIs.cons (at_of_get (hold 28 _ (by kernel_rfl) rfl)) (RowIs.cons (at_of_get (hold 29 _ (by kernel_rfl) rfl)) (RowIs.cons (at_of_get (hold 30 _ (by kernel_rfl) rfl)) (RowIs.cons (at_of_get (hold 31 _ (by kernel_rfl) rfl)) (RowIs.cons (at_of_get (hold 32 _ (by kernel_rfl) rfl)) (RowIs.cons (at_of_get (hold 33 _ (by kernel_rfl) rfl)) (RowIs.cons (at_of_get (hold 34 _ (by kernel_rfl) rfl)) (RowIs.cons (at_of_get (hold 35 _ (by kernel_rfl) rfl)) (RowIs.cons (at_of_get (hold 36 _ (by kernel_rfl) rfl)) (RowIs.cons (at_of_get (hold 37 _ (by kernel_rfl) rfl)) (RowIs.cons (at_of_get (hold 38 _ (by kernel_rfl) rfl)) (RowIs.cons (at_of_get (hold 39 _ (by kernel_rfl) rfl)) (RowIs.cons (at_of_get (hold 40 _ (by kernel_rfl) rfl)) (RowIs.cons (hvals 0 41 rfl) (RowIs.cons (hvals 1 42 rfl) (RowIs.cons (hvals 2 43 rfl) (RowIs.cons (hvals 3 44 rfl) (RowIs.cons (hvals 4 45 rfl) (RowIs.cons (hvals 5 46 rfl) (RowIs.cons (hvals 6 47 rfl) (RowIs.cons (hvals 7 48 rfl) (RowIs.cons (hvals 8 49 rfl) (RowIs.cons (hvals 9 50 rfl) (RowIs.cons (hvals 10 51 rfl) (RowIs.cons (hvals 11 52 rfl) (RowIs.cons (hvals 12 53 rfl) (RowIs.cons (hvals 13 54 rfl) (RowIs.cons (hvals 14 55 rfl) (RowIs.cons (hvals 15 56 rfl) (RowIs.cons (hvals 16 57 rfl) (RowIs.cons (hvals 17 58 rfl) (RowIs.cons (hvals 18 59 rfl) (RowIs.cons (hvals 19 60 rfl) (RowIs.cons (hvals 20 61 rfl) (RowIs.cons (hvals 21 62 rfl) (RowIs.cons (hvals 22 63 rfl) (RowIs.cons (hvals 23 64 rfl) (RowIs.cons (hvals 24 65 rfl) (RowIs.cons (hvals 25 66 rfl) (RowIs.cons (hvals 26 67 rfl) (RowIs.cons (hvals 27 68 rfl) (RowIs.cons (hvals 28 69 rfl) (RowIs.cons (at_of_get (hold 70 _ (by kernel_rfl) rfl)) (RowIs.nil _ _)))))))))))))))))))))))))))))))))))))))))))))))))))))))))))))))))))))))) rfl
            clear hsz hdf hold hvals hposts
            subst ha
            try simp only [List.getElem_toArray, List.getElem_cons_succ, List.getElem_cons_zero]
            have hu3 := hu2.trans_nil' hS (by simpa using hb0)
            have hR3 := hR2.upd hS (by simpa using hN01)
            have hT3 := hP29
            rw [← Hw.out] at hT3
            clear hS hP29 hu2 hR2 hT2
            go_wp2_with fail
            exact ⟨⟨ni + 1, by omega, by go_num, hT3, hR3, hu3⟩, by simp [intOf]; omega⟩
    · obtain rfl : ni = 64 := by omega
      rw [show wAt B 64 = wExt (wIn B 64) 48 from wAt_hi (j := 48)] at hT
      obtain ⟨G, hG⟩ : ∃ G, wExt (wIn B 64) 48 = G := ⟨_, rfl⟩
      rw [hG] at hT
      have HG := Lib.hid hG
      clear hG
      have hi' : (Tryd.prog.info? 64).map (·.size) = some (wrow 64 G).toArray.size := by kernel_rfl
      go_wp2_with (first
        | (refine wpList_load_row rfl _ _ rfl N1 rfl _ (wrow 64 G).toArray _ _ hT Tryd.underlying64 rfl hi' ?_)
        | (refine wpList_store_rowTo rfl _ _ _ rfl rfl N0 (wrow 64 G).toArray rfl rfl _ (wrow 64 fun _ => 0).toArray hR hi' rfl (by kernel_rfl) ?_))
      have hR2 := hR.setRow (wrow 64 G).toArray
      exact bodyPost_ret (v := .agg (wrow 64 G).toArray) (results_cell_row rfl _ _ N0 _ _ _ _ rfl hR2 Tryd.underlying64 rfl hi') rfl ⟨by rw [HG.out], hu.setRow (Or.inr (by have := HN0.out; omega)) _⟩

end Go.Proofs.YtclfmgkomkmbjaaDoor
