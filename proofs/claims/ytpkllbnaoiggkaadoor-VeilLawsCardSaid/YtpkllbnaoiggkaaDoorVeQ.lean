/- VeilLaws: the walk. -/
import Derived.Test.YtpkllbnaoiggkaaDoorVeM
import Derived.Test.YtpkllbnaoiggkaaDoorVeN
namespace Go.Proofs.YtpkllbnaoiggkaaDoor
open Go.RowKit

theorem bd_1 {a : Lab} (ha : a.2 < 4294967296) : ∀ x ∈ ([a] : List Lab), x.2 < 4294967296 := by
  intro x hx; simp at hx; subst hx; exact ha
theorem bd_2 {a b : Lab} (ha : a.2 < 4294967296) (hb : b.2 < 4294967296) : ∀ x ∈ ([a, b] : List Lab), x.2 < 4294967296 := by
  intro x hx; simp at hx; rcases hx with rfl | rfl <;> assumption
theorem bd_3 {a b c : Lab} (ha : a.2 < 4294967296) (hb : b.2 < 4294967296) (hc : c.2 < 4294967296) : ∀ x ∈ ([a, b, c] : List Lab), x.2 < 4294967296 := by
  intro x hx; simp at hx; rcases hx with rfl | rfl | rfl <;> assumption
theorem joinL_one (a : Lab) (ha : mayL a = true) : joinL [a] = (a.1, a.2) := by
  have h0 : max 0 a.1 = a.1 := by unfold mayL at ha; simp at ha; omega
  unfold joinL
  rw [if_pos (by simp [ha])]
  simp [joinFold, h0]
theorem joinL_three (a b c : Lab) (ha : mayL a = true) (hb : mayL b = true) (hc : mayL c = true) : joinL [a, b, c] = (max (max a.1 b.1) c.1, (a.2 ||| b.2) ||| c.2) := by
  have h0 : max 0 a.1 = a.1 := by unfold mayL at ha; simp at ha; omega
  unfold joinL
  rw [if_pos (by simp [ha, hb, hc])]
  simp [joinFold, h0]
theorem lab_ext {a b : Lab} (h1 : a.1 = b.1) (h2 : ∀ i, a.2.testBit i = b.2.testBit i) : a = b := Prod.ext h1 (Nat.eq_of_testBit_eq h2)

set_option maxHeartbeats 8000000 in
set_option maxRecDepth 100000 in
theorem laws_walk (a b c : Lab) (ha : a.2 < 4294967296) (hb : b.2 < 4294967296) (hc : c.2 < 4294967296) (ha1 : -9223372036854775808 ≤ a.1 ∧ a.1 ≤ 9223372036854775807) (hb1 : -9223372036854775808 ≤ b.1 ∧ b.1 ≤ 9223372036854775807) (hc1 : -9223372036854775808 ≤ c.1 ∧ c.1 ≤ 9223372036854775807) (w : World) (hO : LaidOk w) :
    Calls Tryd.prog 6 #[labV a, labV b, labV c] w fun e w' => e = .returned (.bool true) ∧ Upd [] w w' := by
  obtain ⟨L, P⟩ := a
  obtain ⟨M, Q⟩ := b
  obtain ⟨N, R⟩ := c
  dsimp only at *
  obtain ⟨⟨m, h1⟩, h5⟩ := hO
  have u2 := (((Upd.refl [] w).alloc (.cells #[.int .i64 L, .int .u32 P] 24)).alloc (.cells #[.int .i64 M, .int .u32 Q] 24)).alloc (.cells #[.int .i64 N, .int .u32 R] 24)
  have hA2 := ((Blk.new w #[.int .i64 L, .int .u32 P] 24).alloc (.cells #[.int .i64 M, .int .u32 Q] 24)).alloc (.cells #[.int .i64 N, .int .u32 R] 24)
  have hB2 := (Blk.new_at (w := w.alloc (.cells #[.int .i64 L, .int .u32 P] 24)) (cs := #[.int .i64 M, .int .u32 Q]) (l := [.int .i64 M, .int .u32 Q]) (T := 24) (n := w.heap.size + 1) (by simp) rfl).alloc (.cells #[.int .i64 N, .int .u32 R] 24)
  have hC2 := Blk.new_at (w := (w.alloc (.cells #[.int .i64 L, .int .u32 P] 24)).alloc (.cells #[.int .i64 M, .int .u32 Q] 24)) (cs := #[.int .i64 N, .int .u32 R]) (l := [.int .i64 N, .int .u32 R]) (T := 24) (n := w.heap.size + 2) (by simp) rfl
  go_enter Tryd.func6, Tryd.ntmps6
  unfold labV
  go_upto_region 1 with fail
  generalize ((w.alloc (.cells #[.int .i64 L, .int .u32 P] 24)).alloc (.cells #[.int .i64 M, .int .u32 Q] 24)).alloc (.cells #[.int .i64 N, .int .u32 R] 24) = W at *
  generalize hg : w.heap.size = t2 at *
  have z1 := (u2.cell (lt_of_cell h1) (by simp)).trans h1
  have z5 := (u2.cell (lt_of_cell h5) (by simp)).trans h5
  go_upto_region 3 with (go_at_call 17; refine (works_any _ m z1 z5).mono ?_; rintro e w3 ⟨rfl, hu3⟩)
  have u3 := u2.trans_nil hu3
  have hA3 := hA2.upd_nil hu3
  have hB3 := hB2.upd_nil hu3
  have hC3 := hC2.upd_nil hu3
  clear hA2 hB2 hC2 u2 z1 z5 hu3
  refine wp_region_blk [(.eq (.agg #[.int .i64 L, .int .u32 P])), (.eq (.agg #[.int .i64 (L % 8), .int .u32 P])), (.eq (.agg #[.int .i64 M, .int .u32 Q])), (.eq (.agg #[.int .i64 (M % 8), .int .u32 Q])), (.eq (.agg #[.int .i64 N, .int .u32 R])), (.eq (.agg #[.int .i64 (N % 8), .int .u32 R])), .any, .any, .any] [⟨6, (t2), ([.int .i64 L, .int .u32 P]), ([.int .i64 (L % 8), .int .u32 P]), (24)⟩, ⟨7, (t2 + 1), ([.int .i64 M, .int .u32 Q]), ([.int .i64 (M % 8), .int .u32 Q]), (24)⟩, ⟨8, (t2 + 1 + 1), ([.int .i64 N, .int .u32 R]), ([.int .i64 (N % 8), .int .u32 R]), (24)⟩] (by kernel_rfl) (by kernel_rfl) rfl ?ne ?pre ?step ?fin
  case ne => intro x hx y hy hxy; simp only [List.mem_cons, List.not_mem_nil, or_false] at hx hy; rcases hx with rfl | rfl | rfl <;> rcases hy with rfl | rfl | rfl <;> first | (exact absurd rfl hxy) | (dsimp only; omega)
  case pre => intro x hx; simp only [List.mem_cons, List.not_mem_nil, or_false] at hx; rcases hx with rfl | rfl | rfl <;> assumption
  case step =>
    intro i o ho a w' hS hold hneed hun K' hK
    match i, ho with
    | 0, ho =>
      obtain rfl := Option.some.inj ho
      have q6 := hun 6 (.inr (by kernel_rfl))
      have q7 := hun 7 (.inr (by kernel_rfl))
      have q8 := hun 8 (.inr (by kernel_rfl))
      replace hneed := fun j hj => (hneed j hj).2
      replace hK := fun v w1 h u => hK v w1 h trivial u
      clear hun
      have d3 := hold 3 _ (by kernel_rfl) rfl
      clear hold hneed ho
      (have p0 := q6.cell 0 rfl; have p1 := q6.cell 1 rfl; go_simp; exact hK _ _ rfl (Upd.refl [] _))
    | 1, ho =>
      obtain rfl := Option.some.inj ho
      have q6 := hun 6 (.inr (by kernel_rfl))
      have q7 := hun 7 (.inr (by kernel_rfl))
      have q8 := hun 8 (.inr (by kernel_rfl))
      replace hneed := fun j hj => (hneed j hj).2
      replace hK := fun v w1 h u => hK v w1 h trivial u
      clear hun
      have d12 := get_of_at (hneed 0 (of_decide_eq_true (by kernel_rfl)) 12 rfl) (by simp [undef])
      clear hold hneed ho
      (go_simp; refine (vnear L P _ ha1.1 ha1.2).mono ?_; rintro e w3 ⟨rfl, hu3⟩; exact hK _ _ rfl hu3)
    | 2, ho =>
      obtain rfl := Option.some.inj ho
      have q6 := hun 6 (.inr (by kernel_rfl))
      have q7 := hun 7 (.inr (by kernel_rfl))
      have q8 := hun 8 (.inr (by kernel_rfl))
      replace hneed := fun j hj => (hneed j hj).2
      replace hK := fun v w1 h u => hK v w1 h trivial u
      clear hun
      have d4 := hold 4 _ (by kernel_rfl) rfl
      clear hold hneed ho
      (have p0 := q7.cell 0 rfl; have p1 := q7.cell 1 rfl; go_simp; exact hK _ _ rfl (Upd.refl [] _))
    | 3, ho =>
      obtain rfl := Option.some.inj ho
      have q6 := hun 6 (.inr (by kernel_rfl))
      have q7 := hun 7 (.inr (by kernel_rfl))
      have q8 := hun 8 (.inr (by kernel_rfl))
      replace hneed := fun j hj => (hneed j hj).2
      replace hK := fun v w1 h u => hK v w1 h trivial u
      clear hun
      have d14 := get_of_at (hneed 2 (of_decide_eq_true (by kernel_rfl)) 14 rfl) (by simp [undef])
      clear hold hneed ho
      (go_simp; refine (vnear M Q _ hb1.1 hb1.2).mono ?_; rintro e w3 ⟨rfl, hu3⟩; exact hK _ _ rfl hu3)
    | 4, ho =>
      obtain rfl := Option.some.inj ho
      have q6 := hun 6 (.inr (by kernel_rfl))
      have q7 := hun 7 (.inr (by kernel_rfl))
      have q8 := hun 8 (.inr (by kernel_rfl))
      replace hneed := fun j hj => (hneed j hj).2
      replace hK := fun v w1 h u => hK v w1 h trivial u
      clear hun
      have d5 := hold 5 _ (by kernel_rfl) rfl
      clear hold hneed ho
      (have p0 := q8.cell 0 rfl; have p1 := q8.cell 1 rfl; go_simp; exact hK _ _ rfl (Upd.refl [] _))
    | 5, ho =>
      obtain rfl := Option.some.inj ho
      have q6 := hun 6 (.inr (by kernel_rfl))
      have q7 := hun 7 (.inr (by kernel_rfl))
      have q8 := hun 8 (.inr (by kernel_rfl))
      replace hneed := fun j hj => (hneed j hj).2
      replace hK := fun v w1 h u => hK v w1 h trivial u
      clear hun
      have d16 := get_of_at (hneed 4 (of_decide_eq_true (by kernel_rfl)) 16 rfl) (by simp [undef])
      clear hold hneed ho
      (go_simp; refine (vnear N R _ hc1.1 hc1.2).mono ?_; rintro e w3 ⟨rfl, hu3⟩; exact hK _ _ rfl hu3)
    | 6, ho =>
      obtain rfl := Option.some.inj ho
      have q6 := hun 6 (.inl rfl)
      have q7 := hun 7 (.inr (by kernel_rfl))
      have q8 := hun 8 (.inr (by kernel_rfl))
      change Blk _ _ _ _ at q6
      replace hneed := fun j hj => (hneed j hj).2
      clear hun
      have d3 := hold 3 _ (by kernel_rfl) rfl
      have d13 := get_of_at (hneed 1 (of_decide_eq_true (by kernel_rfl)) 13 rfl) (by simp [undef])
      clear hold hneed ho
      (have p0 := q6.cell 0 rfl; have p1 := q6.cell 1 rfl; have f0 := q6.free 0; have f1 := q6.free 1; go_simp; exact hK undef _ trivial ((q6.set 0 _).set 1 _) (((Upd.refl _ _).setCell (Or.inl (by simp [effOf, BE.eff])) _).setCell (Or.inl (by simp [effOf, BE.eff])) _))
    | 7, ho =>
      obtain rfl := Option.some.inj ho
      have r6 := (hneed 6 (of_decide_eq_true (by kernel_rfl))).1
      have q7 := hun 7 (.inl rfl)
      have q8 := hun 8 (.inr (by kernel_rfl))
      change Blk _ _ _ _ at q7
      replace hneed := fun j hj => (hneed j hj).2
      clear hun
      have d4 := hold 4 _ (by kernel_rfl) rfl
      have d15 := get_of_at (hneed 3 (of_decide_eq_true (by kernel_rfl)) 15 rfl) (by simp [undef])
      clear hold hneed ho
      (have p0 := q7.cell 0 rfl; have p1 := q7.cell 1 rfl; have f0 := q7.free 0; have f1 := q7.free 1; go_simp; exact hK undef _ trivial ((q7.set 0 _).set 1 _) (((Upd.refl _ _).setCell (Or.inl (by simp [effOf, BE.eff])) _).setCell (Or.inl (by simp [effOf, BE.eff])) _))
    | 8, ho =>
      obtain rfl := Option.some.inj ho
      have r6 := (hneed 6 (of_decide_eq_true (by kernel_rfl))).1
      have r7 := (hneed 7 (of_decide_eq_true (by kernel_rfl))).1
      have q8 := hun 8 (.inl rfl)
      change Blk _ _ _ _ at q8
      replace hneed := fun j hj => (hneed j hj).2
      clear hun
      have d5 := hold 5 _ (by kernel_rfl) rfl
      have d17 := get_of_at (hneed 5 (of_decide_eq_true (by kernel_rfl)) 17 rfl) (by simp [undef])
      clear hold hneed ho
      (have p0 := q8.cell 0 rfl; have p1 := q8.cell 1 rfl; have f0 := q8.free 0; have f1 := q8.free 1; go_simp; exact hK undef _ trivial ((q8.set 0 _).set 1 _) (((Upd.refl _ _).setCell (Or.inl (by simp [effOf, BE.eff])) _).setCell (Or.inl (by simp [effOf, BE.eff])) _))
    | _ + 9, ho => exact absurd ho (by simp)
  case fin =>
    intro a w' hS hsz hdf hold hvals hposts
    have hP6 : Blk w' (t2) ([.int .i64 (L % 8), .int .u32 P]) (24) := hposts 6 (of_decide_eq_true (by kernel_rfl))
    have hP7 : Blk w' (t2 + 1) ([.int .i64 (M % 8), .int .u32 Q]) (24) := hposts 7 (of_decide_eq_true (by kernel_rfl))
    have hP8 : Blk w' (t2 + 1 + 1) ([.int .i64 (N % 8), .int .u32 R]) (24) := hposts 8 (of_decide_eq_true (by kernel_rfl))
    have ha := act_lit hsz hdf (RowIs.cons (at_of_get (hold 0 _ (by kernel_rfl) rfl)) (RowIs.cons (at_of_get (hold 1 _ (by kernel_rfl) rfl)) (RowIs.cons (at_of_get (hold 2 _ (by kernel_rfl) rfl)) (RowIs.cons (at_of_get (hold 3 _ (by kernel_rfl) rfl)) (RowIs.cons (at_of_get (hold 4 _ (by kernel_rfl) rfl)) (RowIs.cons (at_of_get (hold 5 _ (by kernel_rfl) rfl)) (RowIs.cons (at_of_get (hold 6 _ (by kernel_rfl) rfl)) (RowIs.cons (at_of_get (hold 7 _ (by kernel_rfl) rfl)) (RowIs.cons (at_of_get (hold 8 _ (by kernel_rfl) rfl)) (RowIs.cons (at_of_get (hold 9 _ (by kernel_rfl) rfl)) (RowIs.cons (at_of_get (hold 10 _ (by kernel_rfl) rfl)) (RowIs.cons (at_of_get (hold 11 _ (by kernel_rfl) rfl)) (RowIs.cons (hvals 0 12 rfl) (RowIs.cons (hvals 1 13 rfl) (RowIs.cons (hvals 2 14 rfl) (RowIs.cons (hvals 3 15 rfl) (RowIs.cons (hvals 4 16 rfl) (RowIs.cons (hvals 5 17 rfl) (RowIs.cons (at_of_get (hold 18 _ (by kernel_rfl) rfl)) (RowIs.cons (at_of_get (hold 19 _ (by kernel_rfl) rfl)) (RowIs.cons (at_of_get (hold 20 _ (by kernel_rfl) rfl)) (RowIs.cons (at_of_get (hold 21 _ (by kernel_rfl) rfl)) (RowIs.cons (at_of_get (hold 22 _ (by kernel_rfl) rfl)) (RowIs.cons (at_of_get (hold 23 _ (by kernel_rfl) rfl)) (RowIs.cons (at_of_get (hold 24 _ (by kernel_rfl) rfl)) (RowIs.cons (at_of_get (hold 25 _ (by kernel_rfl) rfl)) (RowIs.cons (at_of_get (hold 26 _ (by kernel_rfl) rfl)) (RowIs.cons (at_of_get (hold 27 _ (by kernel_rfl) rfl)) (RowIs.cons (at_of_get (hold 28 _ (by kernel_rfl) rfl)) (RowIs.cons (at_of_get (hold 29 _ (by kernel_rfl) rfl)) (RowIs.cons (at_of_get (hold 30 _ (by kernel_rfl) rfl)) (RowIs.cons (at_of_get (hold 31 _ (by kernel_rfl) rfl)) (RowIs.cons (at_of_get (hold 32 _ (by kernel_rfl) rfl)) (RowIs.cons (at_of_get (hold 33 _ (by kernel_rfl) rfl)) (RowIs.cons (at_of_get (hold 34 _ (by kernel_rfl) rfl)) (RowIs.cons (at_of_get (hold 35 _ (by kernel_rfl) rfl)) (RowIs.cons (at_of_get (hold 36 _ (by kernel_rfl) rfl)) (RowIs.cons (at_of_get (hold 37 _ (by kernel_rfl) rfl)) (RowIs.cons (at_of_get (hold 38 _ (by kernel_rfl) rfl)) (RowIs.cons (at_of_get (hold 39 _ (by kernel_rfl) rfl)) (RowIs.cons (at_of_get (hold 40 _ (by kernel_rfl) rfl)) (RowIs.cons (at_of_get (hold 41 _ (by kernel_rfl) rfl)) (RowIs.cons (at_of_get (hold 42 _ (by kernel_rfl) rfl)) (RowIs.cons (at_of_get (hold 43 _ (by kernel_rfl) rfl)) (RowIs.cons (at_of_get (hold 44 _ (by kernel_rfl) rfl)) (RowIs.cons (at_of_get (hold 45 _ (by kernel_rfl) rfl)) (RowIs.cons (at_of_get (hold 46 _ (by kernel_rfl) rfl)) (RowIs.cons (at_of_get (hold 47 _ (by kernel_rfl) rfl)) (RowIs.cons (at_of_get (hold 48 _ (by kernel_rfl) rfl)) (RowIs.cons (at_of_get (hold 49 _ (by kernel_rfl) rfl)) (RowIs.cons (at_of_get (hold 50 _ (by kernel_rfl) rfl)) (RowIs.cons (at_of_get (hold 51 _ (by kernel_rfl) rfl)) (RowIs.cons (at_of_get (hold 52 _ (by kernel_rfl) rfl)) (RowIs.cons (at_of_get (hold 53 _ (by kernel_rfl) rfl)) (RowIs.cons (at_of_get (hold 54 _ (by kernel_rfl) rfl)) (RowIs.cons (at_of_get (hold 55 _ (by kernel_rfl) rfl)) (RowIs.cons (at_of_get (hold 56 _ (by kernel_rfl) rfl)) (RowIs.cons (at_of_get (hold 57 _ (by kernel_rfl) rfl)) (RowIs.cons (at_of_get (hold 58 _ (by kernel_rfl) rfl)) (RowIs.cons (at_of_get (hold 59 _ (by kernel_rfl) rfl)) (RowIs.cons (at_of_get (hold 60 _ (by kernel_rfl) rfl)) (RowIs.cons (at_of_get (hold 61 _ (by kernel_rfl) rfl)) (RowIs.cons (at_of_get (hold 62 _ (by kernel_rfl) rfl)) (RowIs.cons (at_of_get (hold 63 _ (by kernel_rfl) rfl)) (RowIs.cons (at_of_get (hold 64 _ (by kernel_rfl) rfl)) (RowIs.cons (at_of_get (hold 65 _ (by kernel_rfl) rfl)) (RowIs.cons (at_of_get (hold 66 _ (by kernel_rfl) rfl)) (RowIs.cons (at_of_get (hold 67 _ (by kernel_rfl) rfl)) (RowIs.cons (at_of_get (hold 68 _ (by kernel_rfl) rfl)) (RowIs.cons (at_of_get (hold 69 _ (by kernel_rfl) rfl)) (RowIs.cons (at_of_get (hold 70 _ (by kernel_rfl) rfl)) (RowIs.cons (at_of_get (hold 71 _ (by kernel_rfl) rfl)) (RowIs.cons (at_of_get (hold 72 _ (by kernel_rfl) rfl)) (RowIs.cons (at_of_get (hold 73 _ (by kernel_rfl) rfl)) (RowIs.cons (at_of_get (hold 74 _ (by kernel_rfl) rfl)) (RowIs.cons (at_of_get (hold 75 _ (by kernel_rfl) rfl)) (RowIs.cons (at_of_get (hold 76 _ (by kernel_rfl) rfl)) (RowIs.cons (at_of_get (hold 77 _ (by kernel_rfl) rfl)) (RowIs.cons (at_of_get (hold 78 _ (by kernel_rfl) rfl)) (RowIs.cons (at_of_get (hold 79 _ (by kernel_rfl) rfl)) (RowIs.cons (at_of_get (hold 80 _ (by kernel_rfl) rfl)) (RowIs.cons (at_of_get (hold 81 _ (by kernel_rfl) rfl)) (RowIs.cons (at_of_get (hold 82 _ (by kernel_rfl) rfl)) (RowIs.cons (at_of_get (hold 83 _ (by kernel_rfl) rfl)) (RowIs.cons (at_of_get (hold 84 _ (by kernel_rfl) rfl)) (RowIs.cons (at_of_get (hold 85 _ (by kernel_rfl) rfl)) (RowIs.cons (at_of_get (hold 86 _ (by kernel_rfl) rfl)) (RowIs.cons (at_of_get (hold 87 _ (by kernel_rfl) rfl)) (RowIs.cons (at_of_get (hold 88 _ (by kernel_rfl) rfl)) (RowIs.cons (at_of_get (hold 89 _ (by kernel_rfl) rfl)) (RowIs.cons (at_of_get (hold 90 _ (by kernel_rfl) rfl)) (RowIs.cons (at_of_get (hold 91 _ (by kernel_rfl) rfl)) (RowIs.cons (at_of_get (hold 92 _ (by kernel_rfl) rfl)) (RowIs.cons (at_of_get (hold 93 _ (by kernel_rfl) rfl)) (RowIs.cons (at_of_get (hold 94 _ (by kernel_rfl) rfl)) (RowIs.cons (at_of_get (hold 95 _ (by kernel_rfl) rfl)) (RowIs.cons (at_of_get (hold 96 _ (by kernel_rfl) rfl)) (RowIs.cons (at_of_get (hold 97 _ (by kernel_rfl) rfl)) (RowIs.cons (at_of_get (hold 98 _ (by kernel_rfl) rfl)) (RowIs.cons (at_of_get (hold 99 _ (by kernel_rfl) rfl)) (RowIs.cons (at_of_get (hold 100 _ (by kernel_rfl) rfl)) (RowIs.cons (at_of_get (hold 101 _ (by kernel_rfl) rfl)) (RowIs.cons (at_of_get (hold 102 _ (by kernel_rfl) rfl)) (RowIs.cons (at_of_get (hold 103 _ (by kernel_rfl) rfl)) (RowIs.cons (at_of_get (hold 104 _ (by kernel_rfl) rfl)) (RowIs.cons (at_of_get (hold 105 _ (by kernel_rfl) rfl)) (RowIs.cons (at_of_get (hold 106 _ (by kernel_rfl) rfl)) (RowIs.cons (at_of_get (hold 107 _ (by kernel_rfl) rfl)) (RowIs.cons (at_of_get (hold 108 _ (by kernel_rfl) rfl)) (RowIs.cons (at_of_get (hold 109 _ (by kernel_rfl) rfl)) (RowIs.cons (at_of_get (hold 110 _ (by kernel_rfl) rfl)) (RowIs.cons (at_of_get (hold 111 _ (by kernel_rfl) rfl)) (RowIs.cons (at_of_get (hold 112 _ (by kernel_rfl) rfl)) (RowIs.cons (at_of_get (hold 113 _ (by kernel_rfl) rfl)) (RowIs.cons (at_of_get (hold 114 _ (by kernel_rfl) rfl)) (RowIs.cons (at_of_get (hold 115 _ (by kernel_rfl) rfl)) (RowIs.cons (at_of_get (hold 116 _ (by kernel_rfl) rfl)) (RowIs.cons (at_of_get (hold 117 _ (by kernel_rfl) rfl)) (RowIs.cons (at_of_get (hold 118 _ (by kernel_rfl) rfl)) (RowIs.cons (at_of_get (hold 119 _ (by kernel_rfl) rfl)) (RowIs.cons (at_of_get (hold 120 _ (by kernel_rfl) rfl)) (RowIs.cons (at_of_get (hold 121 _ (by kernel_rfl) rfl)) (RowIs.cons (at_of_get (hold 122 _ (by kernel_rfl) rfl)) (RowIs.cons (at_of_get (hold 123 _ (by kernel_rfl) rfl)) (RowIs.cons (at_of_get (hold 124 _ (by kernel_rfl) rfl)) (RowIs.cons (at_of_get (hold 125 _ (by kernel_rfl) rfl)) (RowIs.cons (at_of_get (hold 126 _ (by kernel_rfl) rfl)) (RowIs.cons (at_of_get (hold 127 _ (by kernel_rfl) rfl)) (RowIs.cons (at_of_get (hold 128 _ (by kernel_rfl) rfl)) (RowIs.cons (at_of_get (hold 129 _ (by kernel_rfl) rfl)) (RowIs.cons (at_of_get (hold 130 _ (by kernel_rfl) rfl)) (RowIs.cons (at_of_get (hold 131 _ (by kernel_rfl) rfl)) (RowIs.cons (at_of_get (hold 132 _ (by kernel_rfl) rfl)) (RowIs.cons (at_of_get (hold 133 _ (by kernel_rfl) rfl)) (RowIs.cons (at_of_get (hold 134 _ (by kernel_rfl) rfl)) (RowIs.cons (at_of_get (hold 135 _ (by kernel_rfl) rfl)) (RowIs.cons (at_of_get (hold 136 _ (by kernel_rfl) rfl)) (RowIs.cons (at_of_get (hold 137 _ (by kernel_rfl) rfl)) (RowIs.cons (at_of_get (hold 138 _ (by kernel_rfl) rfl)) (RowIs.cons (at_of_get (hold 139 _ (by kernel_rfl) rfl)) (RowIs.cons (at_of_get (hold 140 _ (by kernel_rfl) rfl)) (RowIs.cons (at_of_get (hold 141 _ (by kernel_rfl) rfl)) (RowIs.cons (at_of_get (hold 142 _ (by kernel_rfl) rfl)) (RowIs.cons (at_of_get (hold 143 _ (by kernel_rfl) rfl)) (RowIs.cons (at_of_get (hold 144 _ (by kernel_rfl) rfl)) (RowIs.cons (at_of_get (hold 145 _ (by kernel_rfl) rfl)) (RowIs.nil _ _))))))))))))))))))))))))))))))))))))))))))))))))))))))))))))))))))))))))))))))))))))))))))))))))))))))))))))))))))))))))))))))))))))))))))))))))))) rfl
    clear hsz hdf hold hvals hposts
    subst ha
    try simp only [List.getElem_toArray, List.getElem_cons_succ, List.getElem_cons_zero]
    have u4 := u3.trans_nil' hS (by simp; omega)
    have hA := hP6
    have hB := hP7
    have hC := hP8
    clear hP6 hP7 hP8 hS u3 hA3 hB3 hC3
    have mx : mayL (L % 8, P) = true := by unfold mayL; simp; omega
    have my : mayL (M % 8, Q) = true := by unfold mayL; simp; omega
    have mz : mayL (N % 8, R) = true := by unfold mayL; simp; omega
    generalize L % 8 = x at *
    generalize M % 8 = y at *
    generalize N % 8 = z at *
    obtain ⟨wo, rfl⟩ : ∃ wo, wo = w' := ⟨_, rfl⟩
    have a0 := hA.cell 0 rfl
    have a1 := hA.cell 1 rfl
    have b0 := hB.cell 0 rfl
    have b1 := hB.cell 1 rfl
    have c0 := hC.cell 0 rfl
    have c1 := hC.cell 1 rfl
    obtain ⟨Jl, Jp, eJ⟩ : ∃ Jl Jp, (Jl, Jp) = (max x y, P ||| Q) := ⟨_, _, rfl⟩
    have mJ : mayL (Jl, Jp) = true := by rw [eJ]; exact mayL_max' mx my _
    have hJp : Jp < 4294967296 := by rw [(Prod.mk.inj eJ).2]; exact or_lt (by assumption) (by assumption)
    obtain ⟨JBl, JBp, eJB⟩ : ∃ JBl JBp, (JBl, JBp) = (max y z, Q ||| R) := ⟨_, _, rfl⟩
    have mJB : mayL (JBl, JBp) = true := by rw [eJB]; exact mayL_max' my mz _
    have hJBp : JBp < 4294967296 := by rw [(Prod.mk.inj eJB).2]; exact or_lt (by assumption) (by assumption)
    obtain ⟨Tl, Tp, eT⟩ : ∃ Tl Tp, (Tl, Tp) = (max (max x y) z, (P ||| Q) ||| R) := ⟨_, _, rfl⟩
    obtain ⟨Ml, Mp, eM⟩ : ∃ Ml Mp, (Ml, Mp) = (min x y, P &&& Q) := ⟨_, _, rfl⟩
    have mM : mayL (Ml, Mp) = true := by rw [eM]; exact mayL_min' mx my _
    have hMp : Mp < 4294967296 := by rw [(Prod.mk.inj eM).2]; exact and_lt (by assumption)
    obtain ⟨MBl, MBp, eMB⟩ : ∃ MBl MBp, (MBl, MBp) = (min y z, Q &&& R) := ⟨_, _, rfl⟩
    have mMB : mayL (MBl, MBp) = true := by rw [eMB]; exact mayL_min' my mz _
    have hMBp : MBp < 4294967296 := by rw [(Prod.mk.inj eMB).2]; exact and_lt (by assumption)
    obtain ⟨Ul, Up, eU⟩ : ∃ Ul Up, (Ul, Up) = (min (min x y) z, (P &&& Q) &&& R) := ⟨_, _, rfl⟩
    obtain ⟨MCl, MCp, eMC⟩ : ∃ MCl MCp, (MCl, MCp) = (min x z, P &&& R) := ⟨_, _, rfl⟩
    have mMC : mayL (MCl, MCp) = true := by rw [eMC]; exact mayL_min' mx mz _
    have hMCp : MCp < 4294967296 := by rw [(Prod.mk.inj eMC).2]; exact and_lt (by assumption)
    obtain ⟨Vl, Vp, eV⟩ : ∃ Vl Vp, (Vl, Vp) = (min x (max y z), P &&& (Q ||| R)) := ⟨_, _, rfl⟩
    have HJ21 : Hid (joinL [(x, P), (y, Q)] = (Jl, Jp)) := Lib.hid (by
      rw [joinL_two (x, P) (y, Q) mx my]
      obtain ⟨eJ1, eJ2⟩ := Prod.mk.inj eJ
      refine lab_ext (by dsimp only; omega) (fun i => ?_)
      simp only [eJ1, eJ2, Nat.testBit_or, Nat.testBit_and]
      all_goals (cases P.testBit i <;> cases Q.testBit i <;> cases R.testBit i <;> rfl))
    have HJ25 : Hid (joinL [(y, Q), (x, P)] = (Jl, Jp)) := Lib.hid (by
      rw [joinL_two (y, Q) (x, P) my mx]
      obtain ⟨eJ1, eJ2⟩ := Prod.mk.inj eJ
      refine lab_ext (by dsimp only; omega) (fun i => ?_)
      simp only [eJ1, eJ2, Nat.testBit_or, Nat.testBit_and]
      all_goals (cases P.testBit i <;> cases Q.testBit i <;> cases R.testBit i <;> rfl))
    have HM30 : Hid (meetL (x, P) (y, Q) = (Ml, Mp)) := Lib.hid (by
      rw [meetL_two (x, P) (y, Q) mx my]
      obtain ⟨eM1, eM2⟩ := Prod.mk.inj eM
      refine lab_ext (by dsimp only; omega) (fun i => ?_)
      simp only [eM1, eM2, Nat.testBit_or, Nat.testBit_and]
      all_goals (cases P.testBit i <;> cases Q.testBit i <;> cases R.testBit i <;> rfl))
    have HM33 : Hid (meetL (y, Q) (x, P) = (Ml, Mp)) := Lib.hid (by
      rw [meetL_two (y, Q) (x, P) my mx]
      obtain ⟨eM1, eM2⟩ := Prod.mk.inj eM
      refine lab_ext (by dsimp only; omega) (fun i => ?_)
      simp only [eM1, eM2, Nat.testBit_or, Nat.testBit_and]
      all_goals (cases P.testBit i <;> cases Q.testBit i <;> cases R.testBit i <;> rfl))
    have HJ39 : Hid (joinL [(x, P), (y, Q)] = (Jl, Jp)) := Lib.hid (by
      rw [joinL_two (x, P) (y, Q) mx my]
      obtain ⟨eJ1, eJ2⟩ := Prod.mk.inj eJ
      refine lab_ext (by dsimp only; omega) (fun i => ?_)
      simp only [eJ1, eJ2, Nat.testBit_or, Nat.testBit_and]
      all_goals (cases P.testBit i <;> cases Q.testBit i <;> cases R.testBit i <;> rfl))
    have HJ42 : Hid (joinL [(Jl, Jp), (z, R)] = (Tl, Tp)) := Lib.hid (by
      rw [joinL_two (Jl, Jp) (z, R) mJ mz]
      obtain ⟨eJ1, eJ2⟩ := Prod.mk.inj eJ
      obtain ⟨eT1, eT2⟩ := Prod.mk.inj eT
      refine lab_ext (by dsimp only; omega) (fun i => ?_)
      simp only [eJ1, eJ2, eT1, eT2, Nat.testBit_or, Nat.testBit_and]
      all_goals (cases P.testBit i <;> cases Q.testBit i <;> cases R.testBit i <;> rfl))
    have HJ47 : Hid (joinL [(x, P), (y, Q), (z, R)] = (Tl, Tp)) := Lib.hid (by
      rw [joinL_three (x, P) (y, Q) (z, R) mx my mz]
      obtain ⟨eT1, eT2⟩ := Prod.mk.inj eT
      refine lab_ext (by dsimp only; omega) (fun i => ?_)
      simp only [eT1, eT2, Nat.testBit_or, Nat.testBit_and]
      all_goals (cases P.testBit i <;> cases Q.testBit i <;> cases R.testBit i <;> rfl))
    have HJ54 : Hid (joinL [(z, R), (y, Q), (x, P)] = (Tl, Tp)) := Lib.hid (by
      rw [joinL_three (z, R) (y, Q) (x, P) mz my mx]
      obtain ⟨eT1, eT2⟩ := Prod.mk.inj eT
      refine lab_ext (by dsimp only; omega) (fun i => ?_)
      simp only [eT1, eT2, Nat.testBit_or, Nat.testBit_and]
      all_goals (cases P.testBit i <;> cases Q.testBit i <;> cases R.testBit i <;> rfl))
    have HJ59 : Hid (joinL [(y, Q), (z, R)] = (JBl, JBp)) := Lib.hid (by
      rw [joinL_two (y, Q) (z, R) my mz]
      obtain ⟨eJB1, eJB2⟩ := Prod.mk.inj eJB
      refine lab_ext (by dsimp only; omega) (fun i => ?_)
      simp only [eJB1, eJB2, Nat.testBit_or, Nat.testBit_and]
      all_goals (cases P.testBit i <;> cases Q.testBit i <;> cases R.testBit i <;> rfl))
    have HJ61 : Hid (joinL [(x, P), (JBl, JBp)] = (Tl, Tp)) := Lib.hid (by
      rw [joinL_two (x, P) (JBl, JBp) mx mJB]
      obtain ⟨eJB1, eJB2⟩ := Prod.mk.inj eJB
      obtain ⟨eT1, eT2⟩ := Prod.mk.inj eT
      refine lab_ext (by dsimp only; omega) (fun i => ?_)
      simp only [eJB1, eJB2, eT1, eT2, Nat.testBit_or, Nat.testBit_and]
      all_goals (cases P.testBit i <;> cases Q.testBit i <;> cases R.testBit i <;> rfl))
    have HM67 : Hid (meetL (x, P) (y, Q) = (Ml, Mp)) := Lib.hid (by
      rw [meetL_two (x, P) (y, Q) mx my]
      obtain ⟨eM1, eM2⟩ := Prod.mk.inj eM
      refine lab_ext (by dsimp only; omega) (fun i => ?_)
      simp only [eM1, eM2, Nat.testBit_or, Nat.testBit_and]
      all_goals (cases P.testBit i <;> cases Q.testBit i <;> cases R.testBit i <;> rfl))
    have HM69 : Hid (meetL (Ml, Mp) (z, R) = (Ul, Up)) := Lib.hid (by
      rw [meetL_two (Ml, Mp) (z, R) mM mz]
      obtain ⟨eM1, eM2⟩ := Prod.mk.inj eM
      obtain ⟨eU1, eU2⟩ := Prod.mk.inj eU
      refine lab_ext (by dsimp only; omega) (fun i => ?_)
      simp only [eM1, eM2, eU1, eU2, Nat.testBit_or, Nat.testBit_and]
      all_goals (cases P.testBit i <;> cases Q.testBit i <;> cases R.testBit i <;> rfl))
    have HM73 : Hid (meetL (y, Q) (z, R) = (MBl, MBp)) := Lib.hid (by
      rw [meetL_two (y, Q) (z, R) my mz]
      obtain ⟨eMB1, eMB2⟩ := Prod.mk.inj eMB
      refine lab_ext (by dsimp only; omega) (fun i => ?_)
      simp only [eMB1, eMB2, Nat.testBit_or, Nat.testBit_and]
      all_goals (cases P.testBit i <;> cases Q.testBit i <;> cases R.testBit i <;> rfl))
    have HM74 : Hid (meetL (x, P) (MBl, MBp) = (Ul, Up)) := Lib.hid (by
      rw [meetL_two (x, P) (MBl, MBp) mx mMB]
      obtain ⟨eMB1, eMB2⟩ := Prod.mk.inj eMB
      obtain ⟨eU1, eU2⟩ := Prod.mk.inj eU
      refine lab_ext (by dsimp only; omega) (fun i => ?_)
      simp only [eMB1, eMB2, eU1, eU2, Nat.testBit_or, Nat.testBit_and]
      all_goals (cases P.testBit i <;> cases Q.testBit i <;> cases R.testBit i <;> rfl))
    have HM80 : Hid (meetL (x, P) (y, Q) = (Ml, Mp)) := Lib.hid (by
      rw [meetL_two (x, P) (y, Q) mx my]
      obtain ⟨eM1, eM2⟩ := Prod.mk.inj eM
      refine lab_ext (by dsimp only; omega) (fun i => ?_)
      simp only [eM1, eM2, Nat.testBit_or, Nat.testBit_and]
      all_goals (cases P.testBit i <;> cases Q.testBit i <;> cases R.testBit i <;> rfl))
    have HJ82 : Hid (joinL [(x, P), (Ml, Mp)] = (x, P)) := Lib.hid (by
      rw [joinL_two (x, P) (Ml, Mp) mx mM]
      obtain ⟨eM1, eM2⟩ := Prod.mk.inj eM
      refine lab_ext (by dsimp only; omega) (fun i => ?_)
      simp only [eM1, eM2, Nat.testBit_or, Nat.testBit_and]
      all_goals (cases P.testBit i <;> cases Q.testBit i <;> cases R.testBit i <;> rfl))
    have HJ90 : Hid (joinL [(x, P), (y, Q)] = (Jl, Jp)) := Lib.hid (by
      rw [joinL_two (x, P) (y, Q) mx my]
      obtain ⟨eJ1, eJ2⟩ := Prod.mk.inj eJ
      refine lab_ext (by dsimp only; omega) (fun i => ?_)
      simp only [eJ1, eJ2, Nat.testBit_or, Nat.testBit_and]
      all_goals (cases P.testBit i <;> cases Q.testBit i <;> cases R.testBit i <;> rfl))
    have HM91 : Hid (meetL (x, P) (Jl, Jp) = (x, P)) := Lib.hid (by
      rw [meetL_two (x, P) (Jl, Jp) mx mJ]
      obtain ⟨eJ1, eJ2⟩ := Prod.mk.inj eJ
      refine lab_ext (by dsimp only; omega) (fun i => ?_)
      simp only [eJ1, eJ2, Nat.testBit_or, Nat.testBit_and]
      all_goals (cases P.testBit i <;> cases Q.testBit i <;> cases R.testBit i <;> rfl))
    have HJ99 : Hid (joinL [(x, P), (x, P)] = (x, P)) := Lib.hid (by
      rw [joinL_two (x, P) (x, P) mx mx]
      refine lab_ext (by dsimp only; omega) (fun i => ?_)
      simp only [Nat.testBit_or, Nat.testBit_and]
      all_goals (cases P.testBit i <;> cases Q.testBit i <;> cases R.testBit i <;> rfl))
    have HM106 : Hid (meetL (x, P) (x, P) = (x, P)) := Lib.hid (by
      rw [meetL_two (x, P) (x, P) mx mx]
      refine lab_ext (by dsimp only; omega) (fun i => ?_)
      simp only [Nat.testBit_or, Nat.testBit_and]
      all_goals (cases P.testBit i <;> cases Q.testBit i <;> cases R.testBit i <;> rfl))
    have HJ120 : Hid (joinL [(x, P)] = (x, P)) := Lib.hid (by
      rw [joinL_one (x, P) mx])
    have HJ134 : Hid (joinL [(y, Q), (z, R)] = (JBl, JBp)) := Lib.hid (by
      rw [joinL_two (y, Q) (z, R) my mz]
      obtain ⟨eJB1, eJB2⟩ := Prod.mk.inj eJB
      refine lab_ext (by dsimp only; omega) (fun i => ?_)
      simp only [eJB1, eJB2, Nat.testBit_or, Nat.testBit_and]
      all_goals (cases P.testBit i <;> cases Q.testBit i <;> cases R.testBit i <;> rfl))
    have HM135 : Hid (meetL (x, P) (JBl, JBp) = (Vl, Vp)) := Lib.hid (by
      rw [meetL_two (x, P) (JBl, JBp) mx mJB]
      obtain ⟨eJB1, eJB2⟩ := Prod.mk.inj eJB
      obtain ⟨eV1, eV2⟩ := Prod.mk.inj eV
      refine lab_ext (by dsimp only; omega) (fun i => ?_)
      simp only [eJB1, eJB2, eV1, eV2, Nat.testBit_or, Nat.testBit_and]
      all_goals (cases P.testBit i <;> cases Q.testBit i <;> cases R.testBit i <;> rfl))
    have HM138 : Hid (meetL (x, P) (y, Q) = (Ml, Mp)) := Lib.hid (by
      rw [meetL_two (x, P) (y, Q) mx my]
      obtain ⟨eM1, eM2⟩ := Prod.mk.inj eM
      refine lab_ext (by dsimp only; omega) (fun i => ?_)
      simp only [eM1, eM2, Nat.testBit_or, Nat.testBit_and]
      all_goals (cases P.testBit i <;> cases Q.testBit i <;> cases R.testBit i <;> rfl))
    have HM141 : Hid (meetL (x, P) (z, R) = (MCl, MCp)) := Lib.hid (by
      rw [meetL_two (x, P) (z, R) mx mz]
      obtain ⟨eMC1, eMC2⟩ := Prod.mk.inj eMC
      refine lab_ext (by dsimp only; omega) (fun i => ?_)
      simp only [eMC1, eMC2, Nat.testBit_or, Nat.testBit_and]
      all_goals (cases P.testBit i <;> cases Q.testBit i <;> cases R.testBit i <;> rfl))
    have HJ143 : Hid (joinL [(Ml, Mp), (MCl, MCp)] = (Vl, Vp)) := Lib.hid (by
      rw [joinL_two (Ml, Mp) (MCl, MCp) mM mMC]
      obtain ⟨eM1, eM2⟩ := Prod.mk.inj eM
      obtain ⟨eMC1, eMC2⟩ := Prod.mk.inj eMC
      obtain ⟨eV1, eV2⟩ := Prod.mk.inj eV
      refine lab_ext (by dsimp only; omega) (fun i => ?_)
      simp only [eM1, eM2, eMC1, eMC2, eV1, eV2, Nat.testBit_or, Nat.testBit_and]
      all_goals (cases P.testBit i <;> cases Q.testBit i <;> cases R.testBit i <;> rfl))
    clear eJ eJB eT eM eMB eU eMC eV mx my mz mJ mJB mM mMB mMC
    go_upto_region 4 with fail
    refine wp_region_spec [(.eq (.agg #[.int .i64 x, .int .u32 P])), (.eq (.agg #[.int .i64 y, .int .u32 Q])), (.sl 2 2 [.int .i64 x, .int .u32 P, .int .i64 y, .int .u32 Q] 24), (.eq (.agg #[.int .i64 Jl, .int .u32 Jp])), (.eq (.agg #[.int .i64 y, .int .u32 Q])), (.eq (.agg #[.int .i64 x, .int .u32 P])), (.sl 2 2 [.int .i64 y, .int .u32 Q, .int .i64 x, .int .u32 P] 24), (.eq (.agg #[.int .i64 Jl, .int .u32 Jp])), (.eq (.bool true)), (.eq (.bool true)), (.eq (.agg #[.int .i64 x, .int .u32 P])), (.eq (.agg #[.int .i64 y, .int .u32 Q])), (.eq (.agg #[.int .i64 Ml, .int .u32 Mp])), (.eq (.agg #[.int .i64 y, .int .u32 Q])), (.eq (.agg #[.int .i64 x, .int .u32 P])), (.eq (.agg #[.int .i64 Ml, .int .u32 Mp])), (.eq (.bool true)), (.eq (.bool true)), (.eq (.bool true))] (by kernel_rfl) (by kernel_rfl) rfl ?step ?fin
    case step =>
      intro i o ho a w' hS hold hneed K' hK
      match i, ho with
      | 0, ho =>
        obtain rfl := Option.some.inj ho
        have d3 := hold 3 _ (by kernel_rfl) rfl
        clear hold hneed ho
        (have p0 := (hS.cell hA.lt (by simp)).trans a0; have p1 := (hS.cell hA.lt (by simp)).trans a1; go_simp; (first | exact hK _ _ rfl (Upd.refl [] _) | exact hK _ _ (fun h => Bool.noConfusion h) (Upd.refl [] _) | exact hK _ _ (fun _ => rfl) (Upd.refl [] _)))
      | 1, ho =>
        obtain rfl := Option.some.inj ho
        have d4 := hold 4 _ (by kernel_rfl) rfl
        clear hold hneed ho
        (have p0 := (hS.cell hB.lt (by simp)).trans b0; have p1 := (hS.cell hB.lt (by simp)).trans b1; go_simp; (first | exact hK _ _ rfl (Upd.refl [] _) | exact hK _ _ (fun h => Bool.noConfusion h) (Upd.refl [] _) | exact hK _ _ (fun _ => rfl) (Upd.refl [] _)))
      | 2, ho =>
        obtain rfl := Option.some.inj ho
        have d18 := get_of_at (hneed 0 (of_decide_eq_true (by kernel_rfl)) 18 rfl) (by simp [undef])
        have d19 := get_of_at (hneed 1 (of_decide_eq_true (by kernel_rfl)) 19 rfl) (by simp [undef])
        clear hold hneed ho
        (go_simp; exact hK _ _ ⟨_, rfl, Blk.new _ _ _⟩ ((Upd.refl [] _).alloc _))
      | 3, ho =>
        obtain rfl := Option.some.inj ho
        obtain ⟨b20, e20, hB20⟩ := hneed 2 (of_decide_eq_true (by kernel_rfl)) 20 rfl
        have d20 := get_of_at e20 (by simp [undef])
        clear hold hneed ho
        (go_simp; refine (vjoin (LabsAt.two (x := (x, P)) (y := (y, Q)) hB20) 2 (by simp [maxLen]) (bd_2 ha hb)).mono ?_; rw [HJ21.out]; unfold labV; rintro e w3 ⟨rfl, hu3⟩; exact hK _ _ rfl hu3)
      | 4, ho =>
        obtain rfl := Option.some.inj ho
        have d4 := hold 4 _ (by kernel_rfl) rfl
        clear hold hneed ho
        (have p0 := (hS.cell hB.lt (by simp)).trans b0; have p1 := (hS.cell hB.lt (by simp)).trans b1; go_simp; (first | exact hK _ _ rfl (Upd.refl [] _) | exact hK _ _ (fun h => Bool.noConfusion h) (Upd.refl [] _) | exact hK _ _ (fun _ => rfl) (Upd.refl [] _)))
      | 5, ho =>
        obtain rfl := Option.some.inj ho
        have d3 := hold 3 _ (by kernel_rfl) rfl
        clear hold hneed ho
        (have p0 := (hS.cell hA.lt (by simp)).trans a0; have p1 := (hS.cell hA.lt (by simp)).trans a1; go_simp; (first | exact hK _ _ rfl (Upd.refl [] _) | exact hK _ _ (fun h => Bool.noConfusion h) (Upd.refl [] _) | exact hK _ _ (fun _ => rfl) (Upd.refl [] _)))
      | 6, ho =>
        obtain rfl := Option.some.inj ho
        have d22 := get_of_at (hneed 4 (of_decide_eq_true (by kernel_rfl)) 22 rfl) (by simp [undef])
        have d23 := get_of_at (hneed 5 (of_decide_eq_true (by kernel_rfl)) 23 rfl) (by simp [undef])
        clear hold hneed ho
        (go_simp; exact hK _ _ ⟨_, rfl, Blk.new _ _ _⟩ ((Upd.refl [] _).alloc _))
      | 7, ho =>
        obtain rfl := Option.some.inj ho
        obtain ⟨b24, e24, hB24⟩ := hneed 6 (of_decide_eq_true (by kernel_rfl)) 24 rfl
        have d24 := get_of_at e24 (by simp [undef])
        clear hold hneed ho
        (go_simp; refine (vjoin (LabsAt.two (x := (y, Q)) (y := (x, P)) hB24) 2 (by simp [maxLen]) (bd_2 hb ha)).mono ?_; rw [HJ25.out]; unfold labV; rintro e w3 ⟨rfl, hu3⟩; exact hK _ _ rfl hu3)
      | 8, ho =>
        obtain rfl := Option.some.inj ho
        have d21 := get_of_at (hneed 3 (of_decide_eq_true (by kernel_rfl)) 21 rfl) (by simp [undef])
        have d25 := get_of_at (hneed 7 (of_decide_eq_true (by kernel_rfl)) 25 rfl) (by simp [undef])
        clear hold hneed ho
        (go_simp; (first | exact hK _ _ rfl (Upd.refl [] _) | exact hK _ _ (fun h => Bool.noConfusion h) (Upd.refl [] _) | exact hK _ _ (fun _ => rfl) (Upd.refl [] _)))
      | 9, ho =>
        obtain rfl := Option.some.inj ho
        have d26 := get_of_at (hneed 8 (of_decide_eq_true (by kernel_rfl)) 26 rfl) (by simp [undef])
        clear hold hneed ho
        (go_simp; (first | exact hK _ _ rfl (Upd.refl [] _) | exact hK _ _ (fun h => Bool.noConfusion h) (Upd.refl [] _) | exact hK _ _ (fun _ => rfl) (Upd.refl [] _)))
      | 10, ho =>
        obtain rfl := Option.some.inj ho
        have d3 := hold 3 _ (by kernel_rfl) rfl
        have d27 := get_of_at (hneed 9 (of_decide_eq_true (by kernel_rfl)) 27 rfl) (by simp [undef])
        clear hold hneed ho
        (have p0 := (hS.cell hA.lt (by simp)).trans a0; have p1 := (hS.cell hA.lt (by simp)).trans a1; go_simp; (first | exact hK _ _ rfl (Upd.refl [] _) | exact hK _ _ (fun h => Bool.noConfusion h) (Upd.refl [] _) | exact hK _ _ (fun _ => rfl) (Upd.refl [] _)))
      | 11, ho =>
        obtain rfl := Option.some.inj ho
        have d4 := hold 4 _ (by kernel_rfl) rfl
        have d27 := get_of_at (hneed 9 (of_decide_eq_true (by kernel_rfl)) 27 rfl) (by simp [undef])
        clear hold hneed ho
        (have p0 := (hS.cell hB.lt (by simp)).trans b0; have p1 := (hS.cell hB.lt (by simp)).trans b1; go_simp; (first | exact hK _ _ rfl (Upd.refl [] _) | exact hK _ _ (fun h => Bool.noConfusion h) (Upd.refl [] _) | exact hK _ _ (fun _ => rfl) (Upd.refl [] _)))
      | 12, ho =>
        obtain rfl := Option.some.inj ho
        have d28 := get_of_at (hneed 10 (of_decide_eq_true (by kernel_rfl)) 28 rfl) (by simp [undef])
        have d29 := get_of_at (hneed 11 (of_decide_eq_true (by kernel_rfl)) 29 rfl) (by simp [undef])
        have d27 := get_of_at (hneed 9 (of_decide_eq_true (by kernel_rfl)) 27 rfl) (by simp [undef])
        clear hold hneed ho
        (go_simp; refine (vmeet (x, P) (y, Q) ha hb _).mono ?_; rw [HM30.out]; unfold labV; rintro e w3 ⟨rfl, hu3⟩; exact hK _ _ rfl hu3)
      | 13, ho =>
        obtain rfl := Option.some.inj ho
        have d4 := hold 4 _ (by kernel_rfl) rfl
        have d27 := get_of_at (hneed 9 (of_decide_eq_true (by kernel_rfl)) 27 rfl) (by simp [undef])
        clear hold hneed ho
        (have p0 := (hS.cell hB.lt (by simp)).trans b0; have p1 := (hS.cell hB.lt (by simp)).trans b1; go_simp; (first | exact hK _ _ rfl (Upd.refl [] _) | exact hK _ _ (fun h => Bool.noConfusion h) (Upd.refl [] _) | exact hK _ _ (fun _ => rfl) (Upd.refl [] _)))
      | 14, ho =>
        obtain rfl := Option.some.inj ho
        have d3 := hold 3 _ (by kernel_rfl) rfl
        have d27 := get_of_at (hneed 9 (of_decide_eq_true (by kernel_rfl)) 27 rfl) (by simp [undef])
        clear hold hneed ho
        (have p0 := (hS.cell hA.lt (by simp)).trans a0; have p1 := (hS.cell hA.lt (by simp)).trans a1; go_simp; (first | exact hK _ _ rfl (Upd.refl [] _) | exact hK _ _ (fun h => Bool.noConfusion h) (Upd.refl [] _) | exact hK _ _ (fun _ => rfl) (Upd.refl [] _)))
      | 15, ho =>
        obtain rfl := Option.some.inj ho
        have d31 := get_of_at (hneed 13 (of_decide_eq_true (by kernel_rfl)) 31 rfl) (by simp [undef])
        have d32 := get_of_at (hneed 14 (of_decide_eq_true (by kernel_rfl)) 32 rfl) (by simp [undef])
        have d27 := get_of_at (hneed 9 (of_decide_eq_true (by kernel_rfl)) 27 rfl) (by simp [undef])
        clear hold hneed ho
        (go_simp; refine (vmeet (y, Q) (x, P) hb ha _).mono ?_; rw [HM33.out]; unfold labV; rintro e w3 ⟨rfl, hu3⟩; exact hK _ _ rfl hu3)
      | 16, ho =>
        obtain rfl := Option.some.inj ho
        have d30 := get_of_at (hneed 12 (of_decide_eq_true (by kernel_rfl)) 30 rfl) (by simp [undef])
        have d33 := get_of_at (hneed 15 (of_decide_eq_true (by kernel_rfl)) 33 rfl) (by simp [undef])
        have d27 := get_of_at (hneed 9 (of_decide_eq_true (by kernel_rfl)) 27 rfl) (by simp [undef])
        clear hold hneed ho
        (go_simp; (first | exact hK _ _ rfl (Upd.refl [] _) | exact hK _ _ (fun h => Bool.noConfusion h) (Upd.refl [] _) | exact hK _ _ (fun _ => rfl) (Upd.refl [] _)))
      | 17, ho =>
        obtain rfl := Option.some.inj ho
        have d27 := get_of_at (hneed 9 (of_decide_eq_true (by kernel_rfl)) 27 rfl) (by simp [undef])
        have d34 := get_of_at (hneed 16 (of_decide_eq_true (by kernel_rfl)) 34 rfl) (by simp [undef])
        clear hold hneed ho
        (go_simp; (first | exact hK _ _ rfl (Upd.refl [] _) | exact hK _ _ (fun h => Bool.noConfusion h) (Upd.refl [] _) | exact hK _ _ (fun _ => rfl) (Upd.refl [] _)))
      | 18, ho =>
        obtain rfl := Option.some.inj ho
        have d35 := get_of_at (hneed 17 (of_decide_eq_true (by kernel_rfl)) 35 rfl) (by simp [undef])
        clear hold hneed ho
        (go_simp; (first | exact hK _ _ rfl (Upd.refl [] _) | exact hK _ _ (fun h => Bool.noConfusion h) (Upd.refl [] _) | exact hK _ _ (fun _ => rfl) (Upd.refl [] _)))
      | _ + 19, ho => exact absurd ho (by simp)
    case fin =>
      intro a w' hS hsz hdf hold hvals
      obtain ⟨b20, hv20, hB20⟩ := hvals 2 20 rfl
      obtain ⟨b24, hv24, hB24⟩ := hvals 6 24 rfl
      have ha := act_lit hsz hdf (RowIs.cons (at_of_get (hold 0 _ (by kernel_rfl) rfl)) (RowIs.cons (at_of_get (hold 1 _ (by kernel_rfl) rfl)) (RowIs.cons (at_of_get (hold 2 _ (by kernel_rfl) rfl)) (RowIs.cons (at_of_get (hold 3 _ (by kernel_rfl) rfl)) (RowIs.cons (at_of_get (hold 4 _ (by kernel_rfl) rfl)) (RowIs.cons (at_of_get (hold 5 _ (by kernel_rfl) rfl)) (RowIs.cons (at_of_get (hold 6 _ (by kernel_rfl) rfl)) (RowIs.cons (hvals 18 7 rfl) (RowIs.cons (at_of_get (hold 8 _ (by kernel_rfl) rfl)) (RowIs.cons (at_of_get (hold 9 _ (by kernel_rfl) rfl)) (RowIs.cons (at_of_get (hold 10 _ (by kernel_rfl) rfl)) (RowIs.cons (at_of_get (hold 11 _ (by kernel_rfl) rfl)) (RowIs.cons (at_of_get (hold 12 _ (by kernel_rfl) rfl)) (RowIs.cons (at_of_get (hold 13 _ (by kernel_rfl) rfl)) (RowIs.cons (at_of_get (hold 14 _ (by kernel_rfl) rfl)) (RowIs.cons (at_of_get (hold 15 _ (by kernel_rfl) rfl)) (RowIs.cons (at_of_get (hold 16 _ (by kernel_rfl) rfl)) (RowIs.cons (at_of_get (hold 17 _ (by kernel_rfl) rfl)) (RowIs.cons (hvals 0 18 rfl) (RowIs.cons (hvals 1 19 rfl) (RowIs.cons hv20 (RowIs.cons (hvals 3 21 rfl) (RowIs.cons (hvals 4 22 rfl) (RowIs.cons (hvals 5 23 rfl) (RowIs.cons hv24 (RowIs.cons (hvals 7 25 rfl) (RowIs.cons (hvals 8 26 rfl) (RowIs.cons (hvals 9 27 rfl) (RowIs.cons (hvals 10 28 rfl) (RowIs.cons (hvals 11 29 rfl) (RowIs.cons (hvals 12 30 rfl) (RowIs.cons (hvals 13 31 rfl) (RowIs.cons (hvals 14 32 rfl) (RowIs.cons (hvals 15 33 rfl) (RowIs.cons (hvals 16 34 rfl) (RowIs.cons (hvals 17 35 rfl) (RowIs.cons (at_of_get (hold 36 _ (by kernel_rfl) rfl)) (RowIs.cons (at_of_get (hold 37 _ (by kernel_rfl) rfl)) (RowIs.cons (at_of_get (hold 38 _ (by kernel_rfl) rfl)) (RowIs.cons (at_of_get (hold 39 _ (by kernel_rfl) rfl)) (RowIs.cons (at_of_get (hold 40 _ (by kernel_rfl) rfl)) (RowIs.cons (at_of_get (hold 41 _ (by kernel_rfl) rfl)) (RowIs.cons (at_of_get (hold 42 _ (by kernel_rfl) rfl)) (RowIs.cons (at_of_get (hold 43 _ (by kernel_rfl) rfl)) (RowIs.cons (at_of_get (hold 44 _ (by kernel_rfl) rfl)) (RowIs.cons (at_of_get (hold 45 _ (by kernel_rfl) rfl)) (RowIs.cons (at_of_get (hold 46 _ (by kernel_rfl) rfl)) (RowIs.cons (at_of_get (hold 47 _ (by kernel_rfl) rfl)) (RowIs.cons (at_of_get (hold 48 _ (by kernel_rfl) rfl)) (RowIs.cons (at_of_get (hold 49 _ (by kernel_rfl) rfl)) (RowIs.cons (at_of_get (hold 50 _ (by kernel_rfl) rfl)) (RowIs.cons (at_of_get (hold 51 _ (by kernel_rfl) rfl)) (RowIs.cons (at_of_get (hold 52 _ (by kernel_rfl) rfl)) (RowIs.cons (at_of_get (hold 53 _ (by kernel_rfl) rfl)) (RowIs.cons (at_of_get (hold 54 _ (by kernel_rfl) rfl)) (RowIs.cons (at_of_get (hold 55 _ (by kernel_rfl) rfl)) (RowIs.cons (at_of_get (hold 56 _ (by kernel_rfl) rfl)) (RowIs.cons (at_of_get (hold 57 _ (by kernel_rfl) rfl)) (RowIs.cons (at_of_get (hold 58 _ (by kernel_rfl) rfl)) (RowIs.cons (at_of_get (hold 59 _ (by kernel_rfl) rfl)) (RowIs.cons (at_of_get (hold 60 _ (by kernel_rfl) rfl)) (RowIs.cons (at_of_get (hold 61 _ (by kernel_rfl) rfl)) (RowIs.cons (at_of_get (hold 62 _ (by kernel_rfl) rfl)) (RowIs.cons (at_of_get (hold 63 _ (by kernel_rfl) rfl)) (RowIs.cons (at_of_get (hold 64 _ (by kernel_rfl) rfl)) (RowIs.cons (at_of_get (hold 65 _ (by kernel_rfl) rfl)) (RowIs.cons (at_of_get (hold 66 _ (by kernel_rfl) rfl)) (RowIs.cons (at_of_get (hold 67 _ (by kernel_rfl) rfl)) (RowIs.cons (at_of_get (hold 68 _ (by kernel_rfl) rfl)) (RowIs.cons (at_of_get (hold 69 _ (by kernel_rfl) rfl)) (RowIs.cons (at_of_get (hold 70 _ (by kernel_rfl) rfl)) (RowIs.cons (at_of_get (hold 71 _ (by kernel_rfl) rfl)) (RowIs.cons (at_of_get (hold 72 _ (by kernel_rfl) rfl)) (RowIs.cons (at_of_get (hold 73 _ (by kernel_rfl) rfl)) (RowIs.cons (at_of_get (hold 74 _ (by kernel_rfl) rfl)) (RowIs.cons (at_of_get (hold 75 _ (by kernel_rfl) rfl)) (RowIs.cons (at_of_get (hold 76 _ (by kernel_rfl) rfl)) (RowIs.cons (at_of_get (hold 77 _ (by kernel_rfl) rfl)) (RowIs.cons (at_of_get (hold 78 _ (by kernel_rfl) rfl)) (RowIs.cons (at_of_get (hold 79 _ (by kernel_rfl) rfl)) (RowIs.cons (at_of_get (hold 80 _ (by kernel_rfl) rfl)) (RowIs.cons (at_of_get (hold 81 _ (by kernel_rfl) rfl)) (RowIs.cons (at_of_get (hold 82 _ (by kernel_rfl) rfl)) (RowIs.cons (at_of_get (hold 83 _ (by kernel_rfl) rfl)) (RowIs.cons (at_of_get (hold 84 _ (by kernel_rfl) rfl)) (RowIs.cons (at_of_get (hold 85 _ (by kernel_rfl) rfl)) (RowIs.cons (at_of_get (hold 86 _ (by kernel_rfl) rfl)) (RowIs.cons (at_of_get (hold 87 _ (by kernel_rfl) rfl)) (RowIs.cons (at_of_get (hold 88 _ (by kernel_rfl) rfl)) (RowIs.cons (at_of_get (hold 89 _ (by kernel_rfl) rfl)) (RowIs.cons (at_of_get (hold 90 _ (by kernel_rfl) rfl)) (RowIs.cons (at_of_get (hold 91 _ (by kernel_rfl) rfl)) (RowIs.cons (at_of_get (hold 92 _ (by kernel_rfl) rfl)) (RowIs.cons (at_of_get (hold 93 _ (by kernel_rfl) rfl)) (RowIs.cons (at_of_get (hold 94 _ (by kernel_rfl) rfl)) (RowIs.cons (at_of_get (hold 95 _ (by kernel_rfl) rfl)) (RowIs.cons (at_of_get (hold 96 _ (by kernel_rfl) rfl)) (RowIs.cons (at_of_get (hold 97 _ (by kernel_rfl) rfl)) (RowIs.cons (at_of_get (hold 98 _ (by kernel_rfl) rfl)) (RowIs.cons (at_of_get (hold 99 _ (by kernel_rfl) rfl)) (RowIs.cons (at_of_get (hold 100 _ (by kernel_rfl) rfl)) (RowIs.cons (at_of_get (hold 101 _ (by kernel_rfl) rfl)) (RowIs.cons (at_of_get (hold 102 _ (by kernel_rfl) rfl)) (RowIs.cons (at_of_get (hold 103 _ (by kernel_rfl) rfl)) (RowIs.cons (at_of_get (hold 104 _ (by kernel_rfl) rfl)) (RowIs.cons (at_of_get (hold 105 _ (by kernel_rfl) rfl)) (RowIs.cons (at_of_get (hold 106 _ (by kernel_rfl) rfl)) (RowIs.cons (at_of_get (hold 107 _ (by kernel_rfl) rfl)) (RowIs.cons (at_of_get (hold 108 _ (by kernel_rfl) rfl)) (RowIs.cons (at_of_get (hold 109 _ (by kernel_rfl) rfl)) (RowIs.cons (at_of_get (hold 110 _ (by kernel_rfl) rfl)) (RowIs.cons (at_of_get (hold 111 _ (by kernel_rfl) rfl)) (RowIs.cons (at_of_get (hold 112 _ (by kernel_rfl) rfl)) (RowIs.cons (at_of_get (hold 113 _ (by kernel_rfl) rfl)) (RowIs.cons (at_of_get (hold 114 _ (by kernel_rfl) rfl)) (RowIs.cons (at_of_get (hold 115 _ (by kernel_rfl) rfl)) (RowIs.cons (at_of_get (hold 116 _ (by kernel_rfl) rfl)) (RowIs.cons (at_of_get (hold 117 _ (by kernel_rfl) rfl)) (RowIs.cons (at_of_get (hold 118 _ (by kernel_rfl) rfl)) (RowIs.cons (at_of_get (hold 119 _ (by kernel_rfl) rfl)) (RowIs.cons (at_of_get (hold 120 _ (by kernel_rfl) rfl)) (RowIs.cons (at_of_get (hold 121 _ (by kernel_rfl) rfl)) (RowIs.cons (at_of_get (hold 122 _ (by kernel_rfl) rfl)) (RowIs.cons (at_of_get (hold 123 _ (by kernel_rfl) rfl)) (RowIs.cons (at_of_get (hold 124 _ (by kernel_rfl) rfl)) (RowIs.cons (at_of_get (hold 125 _ (by kernel_rfl) rfl)) (RowIs.cons (at_of_get (hold 126 _ (by kernel_rfl) rfl)) (RowIs.cons (at_of_get (hold 127 _ (by kernel_rfl) rfl)) (RowIs.cons (at_of_get (hold 128 _ (by kernel_rfl) rfl)) (RowIs.cons (at_of_get (hold 129 _ (by kernel_rfl) rfl)) (RowIs.cons (at_of_get (hold 130 _ (by kernel_rfl) rfl)) (RowIs.cons (at_of_get (hold 131 _ (by kernel_rfl) rfl)) (RowIs.cons (at_of_get (hold 132 _ (by kernel_rfl) rfl)) (RowIs.cons (at_of_get (hold 133 _ (by kernel_rfl) rfl)) (RowIs.cons (at_of_get (hold 134 _ (by kernel_rfl) rfl)) (RowIs.cons (at_of_get (hold 135 _ (by kernel_rfl) rfl)) (RowIs.cons (at_of_get (hold 136 _ (by kernel_rfl) rfl)) (RowIs.cons (at_of_get (hold 137 _ (by kernel_rfl) rfl)) (RowIs.cons (at_of_get (hold 138 _ (by kernel_rfl) rfl)) (RowIs.cons (at_of_get (hold 139 _ (by kernel_rfl) rfl)) (RowIs.cons (at_of_get (hold 140 _ (by kernel_rfl) rfl)) (RowIs.cons (at_of_get (hold 141 _ (by kernel_rfl) rfl)) (RowIs.cons (at_of_get (hold 142 _ (by kernel_rfl) rfl)) (RowIs.cons (at_of_get (hold 143 _ (by kernel_rfl) rfl)) (RowIs.cons (at_of_get (hold 144 _ (by kernel_rfl) rfl)) (RowIs.cons (at_of_get (hold 145 _ (by kernel_rfl) rfl)) (RowIs.nil _ _))))))))))))))))))))))))))))))))))))))))))))))))))))))))))))))))))))))))))))))))))))))))))))))))))))))))))))))))))))))))))))))))))))))))))))))))))) rfl
      clear hsz hdf hold hvals
      subst ha
      try simp only [List.getElem_toArray, List.getElem_cons_succ, List.getElem_cons_zero]
      replace u4 := u4.trans_nil hS
      replace hA := hA.upd_nil hS
      replace hB := hB.upd_nil hS
      replace hC := hC.upd_nil hS
      clear hS a0 a1 b0 b1 c0 c1
      obtain ⟨wq4, rfl⟩ : ∃ wq, wq = w' := ⟨_, rfl⟩
      have a0 := hA.cell 0 rfl
      have a1 := hA.cell 1 rfl
      have b0 := hB.cell 0 rfl
      have b1 := hB.cell 1 rfl
      have c0 := hC.cell 0 rfl
      have c1 := hC.cell 1 rfl
      go_upto_region 5 with fail
      refine wp_region_spec [(.eq (.agg #[.int .i64 x, .int .u32 P])), (.eq (.agg #[.int .i64 y, .int .u32 Q])), (.sl 2 2 [.int .i64 x, .int .u32 P, .int .i64 y, .int .u32 Q] 24), (.eq (.agg #[.int .i64 Jl, .int .u32 Jp])), (.eq (.agg #[.int .i64 z, .int .u32 R])), (.sl 2 2 [.int .i64 Jl, .int .u32 Jp, .int .i64 z, .int .u32 R] 24), (.eq (.agg #[.int .i64 Tl, .int .u32 Tp])), (.eq (.agg #[.int .i64 x, .int .u32 P])), (.eq (.agg #[.int .i64 y, .int .u32 Q])), (.eq (.agg #[.int .i64 z, .int .u32 R])), (.sl 3 3 [.int .i64 x, .int .u32 P, .int .i64 y, .int .u32 Q, .int .i64 z, .int .u32 R] 24), (.eq (.agg #[.int .i64 Tl, .int .u32 Tp])), (.eq (.bool true)), (.eq (.bool true)), (.eq (.agg #[.int .i64 z, .int .u32 R])), (.eq (.agg #[.int .i64 y, .int .u32 Q])), (.eq (.agg #[.int .i64 x, .int .u32 P])), (.sl 3 3 [.int .i64 z, .int .u32 R, .int .i64 y, .int .u32 Q, .int .i64 x, .int .u32 P] 24), (.eq (.agg #[.int .i64 Tl, .int .u32 Tp])), (.eq (.agg #[.int .i64 x, .int .u32 P])), (.eq (.agg #[.int .i64 y, .int .u32 Q])), (.eq (.agg #[.int .i64 z, .int .u32 R])), (.sl 2 2 [.int .i64 y, .int .u32 Q, .int .i64 z, .int .u32 R] 24), (.eq (.agg #[.int .i64 JBl, .int .u32 JBp])), (.sl 2 2 [.int .i64 x, .int .u32 P, .int .i64 JBl, .int .u32 JBp] 24), (.eq (.agg #[.int .i64 Tl, .int .u32 Tp])), (.eq (.bool true)), (.eq (.bool true)), (.eq (.bool true)), (.eq (.agg #[.int .i64 x, .int .u32 P])), (.eq (.agg #[.int .i64 y, .int .u32 Q])), (.eq (.agg #[.int .i64 Ml, .int .u32 Mp])), (.eq (.agg #[.int .i64 z, .int .u32 R])), (.eq (.agg #[.int .i64 Ul, .int .u32 Up])), (.eq (.agg #[.int .i64 x, .int .u32 P])), (.eq (.agg #[.int .i64 y, .int .u32 Q])), (.eq (.agg #[.int .i64 z, .int .u32 R])), (.eq (.agg #[.int .i64 MBl, .int .u32 MBp])), (.eq (.agg #[.int .i64 Ul, .int .u32 Up])), (.eq (.bool true)), (.eq (.bool true)), (.eq (.bool true))] (by kernel_rfl) (by kernel_rfl) rfl ?step ?fin
      case step =>
        intro i o ho a w' hS hold hneed K' hK
        match i, ho with
        | 0, ho =>
          obtain rfl := Option.some.inj ho
          have d3 := hold 3 _ (by kernel_rfl) rfl
          clear hold hneed ho
          (have p0 := (hS.cell hA.lt (by simp)).trans a0; have p1 := (hS.cell hA.lt (by simp)).trans a1; go_simp; (first | exact hK _ _ rfl (Upd.refl [] _) | exact hK _ _ (fun h => Bool.noConfusion h) (Upd.refl [] _) | exact hK _ _ (fun _ => rfl) (Upd.refl [] _)))
        | 1, ho =>
          obtain rfl := Option.some.inj ho
          have d4 := hold 4 _ (by kernel_rfl) rfl
          clear hold hneed ho
          (have p0 := (hS.cell hB.lt (by simp)).trans b0; have p1 := (hS.cell hB.lt (by simp)).trans b1; go_simp; (first | exact hK _ _ rfl (Upd.refl [] _) | exact hK _ _ (fun h => Bool.noConfusion h) (Upd.refl [] _) | exact hK _ _ (fun _ => rfl) (Upd.refl [] _)))
        | 2, ho =>
          obtain rfl := Option.some.inj ho
          have d36 := get_of_at (hneed 0 (of_decide_eq_true (by kernel_rfl)) 36 rfl) (by simp [undef])
          have d37 := get_of_at (hneed 1 (of_decide_eq_true (by kernel_rfl)) 37 rfl) (by simp [undef])
          clear hold hneed ho
          (go_simp; exact hK _ _ ⟨_, rfl, Blk.new _ _ _⟩ ((Upd.refl [] _).alloc _))
        | 3, ho =>
          obtain rfl := Option.some.inj ho
          obtain ⟨b38, e38, hB38⟩ := hneed 2 (of_decide_eq_true (by kernel_rfl)) 38 rfl
          have d38 := get_of_at e38 (by simp [undef])
          clear hold hneed ho
          (go_simp; refine (vjoin (LabsAt.two (x := (x, P)) (y := (y, Q)) hB38) 2 (by simp [maxLen]) (bd_2 ha hb)).mono ?_; rw [HJ39.out]; unfold labV; rintro e w3 ⟨rfl, hu3⟩; exact hK _ _ rfl hu3)
        | 4, ho =>
          obtain rfl := Option.some.inj ho
          have d5 := hold 5 _ (by kernel_rfl) rfl
          clear hold hneed ho
          (have p0 := (hS.cell hC.lt (by simp)).trans c0; have p1 := (hS.cell hC.lt (by simp)).trans c1; go_simp; (first | exact hK _ _ rfl (Upd.refl [] _) | exact hK _ _ (fun h => Bool.noConfusion h) (Upd.refl [] _) | exact hK _ _ (fun _ => rfl) (Upd.refl [] _)))
        | 5, ho =>
          obtain rfl := Option.some.inj ho
          have d39 := get_of_at (hneed 3 (of_decide_eq_true (by kernel_rfl)) 39 rfl) (by simp [undef])
          have d40 := get_of_at (hneed 4 (of_decide_eq_true (by kernel_rfl)) 40 rfl) (by simp [undef])
          clear hold hneed ho
          (go_simp; exact hK _ _ ⟨_, rfl, Blk.new _ _ _⟩ ((Upd.refl [] _).alloc _))
        | 6, ho =>
          obtain rfl := Option.some.inj ho
          obtain ⟨b41, e41, hB41⟩ := hneed 5 (of_decide_eq_true (by kernel_rfl)) 41 rfl
          have d41 := get_of_at e41 (by simp [undef])
          clear hold hneed ho
          (go_simp; refine (vjoin (LabsAt.two (x := (Jl, Jp)) (y := (z, R)) hB41) 2 (by simp [maxLen]) (bd_2 hJp hc)).mono ?_; rw [HJ42.out]; unfold labV; rintro e w3 ⟨rfl, hu3⟩; exact hK _ _ rfl hu3)
        | 7, ho =>
          obtain rfl := Option.some.inj ho
          have d3 := hold 3 _ (by kernel_rfl) rfl
          clear hold hneed ho
          (have p0 := (hS.cell hA.lt (by simp)).trans a0; have p1 := (hS.cell hA.lt (by simp)).trans a1; go_simp; (first | exact hK _ _ rfl (Upd.refl [] _) | exact hK _ _ (fun h => Bool.noConfusion h) (Upd.refl [] _) | exact hK _ _ (fun _ => rfl) (Upd.refl [] _)))
        | 8, ho =>
          obtain rfl := Option.some.inj ho
          have d4 := hold 4 _ (by kernel_rfl) rfl
          clear hold hneed ho
          (have p0 := (hS.cell hB.lt (by simp)).trans b0; have p1 := (hS.cell hB.lt (by simp)).trans b1; go_simp; (first | exact hK _ _ rfl (Upd.refl [] _) | exact hK _ _ (fun h => Bool.noConfusion h) (Upd.refl [] _) | exact hK _ _ (fun _ => rfl) (Upd.refl [] _)))
        | 9, ho =>
          obtain rfl := Option.some.inj ho
          have d5 := hold 5 _ (by kernel_rfl) rfl
          clear hold hneed ho
          (have p0 := (hS.cell hC.lt (by simp)).trans c0; have p1 := (hS.cell hC.lt (by simp)).trans c1; go_simp; (first | exact hK _ _ rfl (Upd.refl [] _) | exact hK _ _ (fun h => Bool.noConfusion h) (Upd.refl [] _) | exact hK _ _ (fun _ => rfl) (Upd.refl [] _)))
        | 10, ho =>
          obtain rfl := Option.some.inj ho
          have d43 := get_of_at (hneed 7 (of_decide_eq_true (by kernel_rfl)) 43 rfl) (by simp [undef])
          have d44 := get_of_at (hneed 8 (of_decide_eq_true (by kernel_rfl)) 44 rfl) (by simp [undef])
          have d45 := get_of_at (hneed 9 (of_decide_eq_true (by kernel_rfl)) 45 rfl) (by simp [undef])
          clear hold hneed ho
          (go_simp; exact hK _ _ ⟨_, rfl, Blk.new _ _ _⟩ ((Upd.refl [] _).alloc _))
        | 11, ho =>
          obtain rfl := Option.some.inj ho
          obtain ⟨b46, e46, hB46⟩ := hneed 10 (of_decide_eq_true (by kernel_rfl)) 46 rfl
          have d46 := get_of_at e46 (by simp [undef])
          clear hold hneed ho
          (go_simp; refine (vjoin (LabsAt.three (x := (x, P)) (y := (y, Q)) (z := (z, R)) hB46) 3 (by simp [maxLen]) (bd_3 ha hb hc)).mono ?_; rw [HJ47.out]; unfold labV; rintro e w3 ⟨rfl, hu3⟩; exact hK _ _ rfl hu3)
        | 12, ho =>
          obtain rfl := Option.some.inj ho
          have d42 := get_of_at (hneed 6 (of_decide_eq_true (by kernel_rfl)) 42 rfl) (by simp [undef])
          have d47 := get_of_at (hneed 11 (of_decide_eq_true (by kernel_rfl)) 47 rfl) (by simp [undef])
          clear hold hneed ho
          (go_simp; (first | exact hK _ _ rfl (Upd.refl [] _) | exact hK _ _ (fun h => Bool.noConfusion h) (Upd.refl [] _) | exact hK _ _ (fun _ => rfl) (Upd.refl [] _)))
        | 13, ho =>
          obtain rfl := Option.some.inj ho
          have d48 := get_of_at (hneed 12 (of_decide_eq_true (by kernel_rfl)) 48 rfl) (by simp [undef])
          clear hold hneed ho
          (go_simp; (first | exact hK _ _ rfl (Upd.refl [] _) | exact hK _ _ (fun h => Bool.noConfusion h) (Upd.refl [] _) | exact hK _ _ (fun _ => rfl) (Upd.refl [] _)))
        | 14, ho =>
          obtain rfl := Option.some.inj ho
          have d5 := hold 5 _ (by kernel_rfl) rfl
          have d49 := get_of_at (hneed 13 (of_decide_eq_true (by kernel_rfl)) 49 rfl) (by simp [undef])
          clear hold hneed ho
          (have p0 := (hS.cell hC.lt (by simp)).trans c0; have p1 := (hS.cell hC.lt (by simp)).trans c1; go_simp; (first | exact hK _ _ rfl (Upd.refl [] _) | exact hK _ _ (fun h => Bool.noConfusion h) (Upd.refl [] _) | exact hK _ _ (fun _ => rfl) (Upd.refl [] _)))
        | 15, ho =>
          obtain rfl := Option.some.inj ho
          have d4 := hold 4 _ (by kernel_rfl) rfl
          have d49 := get_of_at (hneed 13 (of_decide_eq_true (by kernel_rfl)) 49 rfl) (by simp [undef])
          clear hold hneed ho
          (have p0 := (hS.cell hB.lt (by simp)).trans b0; have p1 := (hS.cell hB.lt (by simp)).trans b1; go_simp; (first | exact hK _ _ rfl (Upd.refl [] _) | exact hK _ _ (fun h => Bool.noConfusion h) (Upd.refl [] _) | exact hK _ _ (fun _ => rfl) (Upd.refl [] _)))
        | 16, ho =>
          obtain rfl := Option.some.inj ho
          have d3 := hold 3 _ (by kernel_rfl) rfl
          have d49 := get_of_at (hneed 13 (of_decide_eq_true (by kernel_rfl)) 49 rfl) (by simp [undef])
          clear hold hneed ho
          (have p0 := (hS.cell hA.lt (by simp)).trans a0; have p1 := (hS.cell hA.lt (by simp)).trans a1; go_simp; (first | exact hK _ _ rfl (Upd.refl [] _) | exact hK _ _ (fun h => Bool.noConfusion h) (Upd.refl [] _) | exact hK _ _ (fun _ => rfl) (Upd.refl [] _)))
        | 17, ho =>
          obtain rfl := Option.some.inj ho
          have d50 := get_of_at (hneed 14 (of_decide_eq_true (by kernel_rfl)) 50 rfl) (by simp [undef])
          have d51 := get_of_at (hneed 15 (of_decide_eq_true (by kernel_rfl)) 51 rfl) (by simp [undef])
          have d52 := get_of_at (hneed 16 (of_decide_eq_true (by kernel_rfl)) 52 rfl) (by simp [undef])
          have d49 := get_of_at (hneed 13 (of_decide_eq_true (by kernel_rfl)) 49 rfl) (by simp [undef])
          clear hold hneed ho
          (go_simp; exact hK _ _ ⟨_, rfl, Blk.new _ _ _⟩ ((Upd.refl [] _).alloc _))
        | 18, ho =>
          obtain rfl := Option.some.inj ho
          obtain ⟨b53, e53, hB53⟩ := hneed 17 (of_decide_eq_true (by kernel_rfl)) 53 rfl
          have d53 := get_of_at e53 (by simp [undef])
          have d49 := get_of_at (hneed 13 (of_decide_eq_true (by kernel_rfl)) 49 rfl) (by simp [undef])
          clear hold hneed ho
          (go_simp; refine (vjoin (LabsAt.three (x := (z, R)) (y := (y, Q)) (z := (x, P)) hB53) 3 (by simp [maxLen]) (bd_3 hc hb ha)).mono ?_; rw [HJ54.out]; unfold labV; rintro e w3 ⟨rfl, hu3⟩; exact hK _ _ rfl hu3)
        | 19, ho =>
          obtain rfl := Option.some.inj ho
          have d3 := hold 3 _ (by kernel_rfl) rfl
          have d49 := get_of_at (hneed 13 (of_decide_eq_true (by kernel_rfl)) 49 rfl) (by simp [undef])
          clear hold hneed ho
          (have p0 := (hS.cell hA.lt (by simp)).trans a0; have p1 := (hS.cell hA.lt (by simp)).trans a1; go_simp; (first | exact hK _ _ rfl (Upd.refl [] _) | exact hK _ _ (fun h => Bool.noConfusion h) (Upd.refl [] _) | exact hK _ _ (fun _ => rfl) (Upd.refl [] _)))
        | 20, ho =>
          obtain rfl := Option.some.inj ho
          have d4 := hold 4 _ (by kernel_rfl) rfl
          have d49 := get_of_at (hneed 13 (of_decide_eq_true (by kernel_rfl)) 49 rfl) (by simp [undef])
          clear hold hneed ho
          (have p0 := (hS.cell hB.lt (by simp)).trans b0; have p1 := (hS.cell hB.lt (by simp)).trans b1; go_simp; (first | exact hK _ _ rfl (Upd.refl [] _) | exact hK _ _ (fun h => Bool.noConfusion h) (Upd.refl [] _) | exact hK _ _ (fun _ => rfl) (Upd.refl [] _)))
        | 21, ho =>
          obtain rfl := Option.some.inj ho
          have d5 := hold 5 _ (by kernel_rfl) rfl
          have d49 := get_of_at (hneed 13 (of_decide_eq_true (by kernel_rfl)) 49 rfl) (by simp [undef])
          clear hold hneed ho
          (have p0 := (hS.cell hC.lt (by simp)).trans c0; have p1 := (hS.cell hC.lt (by simp)).trans c1; go_simp; (first | exact hK _ _ rfl (Upd.refl [] _) | exact hK _ _ (fun h => Bool.noConfusion h) (Upd.refl [] _) | exact hK _ _ (fun _ => rfl) (Upd.refl [] _)))
        | 22, ho =>
          obtain rfl := Option.some.inj ho
          have d56 := get_of_at (hneed 20 (of_decide_eq_true (by kernel_rfl)) 56 rfl) (by simp [undef])
          have d57 := get_of_at (hneed 21 (of_decide_eq_true (by kernel_rfl)) 57 rfl) (by simp [undef])
          have d49 := get_of_at (hneed 13 (of_decide_eq_true (by kernel_rfl)) 49 rfl) (by simp [undef])
          clear hold hneed ho
          (go_simp; exact hK _ _ ⟨_, rfl, Blk.new _ _ _⟩ ((Upd.refl [] _).alloc _))
        | 23, ho =>
          obtain rfl := Option.some.inj ho
          obtain ⟨b58, e58, hB58⟩ := hneed 22 (of_decide_eq_true (by kernel_rfl)) 58 rfl
          have d58 := get_of_at e58 (by simp [undef])
          have d49 := get_of_at (hneed 13 (of_decide_eq_true (by kernel_rfl)) 49 rfl) (by simp [undef])
          clear hold hneed ho
          (go_simp; refine (vjoin (LabsAt.two (x := (y, Q)) (y := (z, R)) hB58) 2 (by simp [maxLen]) (bd_2 hb hc)).mono ?_; rw [HJ59.out]; unfold labV; rintro e w3 ⟨rfl, hu3⟩; exact hK _ _ rfl hu3)
        | 24, ho =>
          obtain rfl := Option.some.inj ho
          have d55 := get_of_at (hneed 19 (of_decide_eq_true (by kernel_rfl)) 55 rfl) (by simp [undef])
          have d59 := get_of_at (hneed 23 (of_decide_eq_true (by kernel_rfl)) 59 rfl) (by simp [undef])
          have d49 := get_of_at (hneed 13 (of_decide_eq_true (by kernel_rfl)) 49 rfl) (by simp [undef])
          clear hold hneed ho
          (go_simp; exact hK _ _ ⟨_, rfl, Blk.new _ _ _⟩ ((Upd.refl [] _).alloc _))
        | 25, ho =>
          obtain rfl := Option.some.inj ho
          obtain ⟨b60, e60, hB60⟩ := hneed 24 (of_decide_eq_true (by kernel_rfl)) 60 rfl
          have d60 := get_of_at e60 (by simp [undef])
          have d49 := get_of_at (hneed 13 (of_decide_eq_true (by kernel_rfl)) 49 rfl) (by simp [undef])
          clear hold hneed ho
          (go_simp; refine (vjoin (LabsAt.two (x := (x, P)) (y := (JBl, JBp)) hB60) 2 (by simp [maxLen]) (bd_2 ha hJBp)).mono ?_; rw [HJ61.out]; unfold labV; rintro e w3 ⟨rfl, hu3⟩; exact hK _ _ rfl hu3)
        | 26, ho =>
          obtain rfl := Option.some.inj ho
          have d54 := get_of_at (hneed 18 (of_decide_eq_true (by kernel_rfl)) 54 rfl) (by simp [undef])
          have d61 := get_of_at (hneed 25 (of_decide_eq_true (by kernel_rfl)) 61 rfl) (by simp [undef])
          have d49 := get_of_at (hneed 13 (of_decide_eq_true (by kernel_rfl)) 49 rfl) (by simp [undef])
          clear hold hneed ho
          (go_simp; (first | exact hK _ _ rfl (Upd.refl [] _) | exact hK _ _ (fun h => Bool.noConfusion h) (Upd.refl [] _) | exact hK _ _ (fun _ => rfl) (Upd.refl [] _)))
        | 27, ho =>
          obtain rfl := Option.some.inj ho
          have d49 := get_of_at (hneed 13 (of_decide_eq_true (by kernel_rfl)) 49 rfl) (by simp [undef])
          have d62 := get_of_at (hneed 26 (of_decide_eq_true (by kernel_rfl)) 62 rfl) (by simp [undef])
          clear hold hneed ho
          (go_simp; (first | exact hK _ _ rfl (Upd.refl [] _) | exact hK _ _ (fun h => Bool.noConfusion h) (Upd.refl [] _) | exact hK _ _ (fun _ => rfl) (Upd.refl [] _)))
        | 28, ho =>
          obtain rfl := Option.some.inj ho
          have d63 := get_of_at (hneed 27 (of_decide_eq_true (by kernel_rfl)) 63 rfl) (by simp [undef])
          clear hold hneed ho
          (go_simp; (first | exact hK _ _ rfl (Upd.refl [] _) | exact hK _ _ (fun h => Bool.noConfusion h) (Upd.refl [] _) | exact hK _ _ (fun _ => rfl) (Upd.refl [] _)))
        | 29, ho =>
          obtain rfl := Option.some.inj ho
          have d3 := hold 3 _ (by kernel_rfl) rfl
          have d64 := get_of_at (hneed 28 (of_decide_eq_true (by kernel_rfl)) 64 rfl) (by simp [undef])
          clear hold hneed ho
          (have p0 := (hS.cell hA.lt (by simp)).trans a0; have p1 := (hS.cell hA.lt (by simp)).trans a1; go_simp; (first | exact hK _ _ rfl (Upd.refl [] _) | exact hK _ _ (fun h => Bool.noConfusion h) (Upd.refl [] _) | exact hK _ _ (fun _ => rfl) (Upd.refl [] _)))
        | 30, ho =>
          obtain rfl := Option.some.inj ho
          have d4 := hold 4 _ (by kernel_rfl) rfl
          have d64 := get_of_at (hneed 28 (of_decide_eq_true (by kernel_rfl)) 64 rfl) (by simp [undef])
          clear hold hneed ho
          (have p0 := (hS.cell hB.lt (by simp)).trans b0; have p1 := (hS.cell hB.lt (by simp)).trans b1; go_simp; (first | exact hK _ _ rfl (Upd.refl [] _) | exact hK _ _ (fun h => Bool.noConfusion h) (Upd.refl [] _) | exact hK _ _ (fun _ => rfl) (Upd.refl [] _)))
        | 31, ho =>
          obtain rfl := Option.some.inj ho
          have d65 := get_of_at (hneed 29 (of_decide_eq_true (by kernel_rfl)) 65 rfl) (by simp [undef])
          have d66 := get_of_at (hneed 30 (of_decide_eq_true (by kernel_rfl)) 66 rfl) (by simp [undef])
          have d64 := get_of_at (hneed 28 (of_decide_eq_true (by kernel_rfl)) 64 rfl) (by simp [undef])
          clear hold hneed ho
          (go_simp; refine (vmeet (x, P) (y, Q) ha hb _).mono ?_; rw [HM67.out]; unfold labV; rintro e w3 ⟨rfl, hu3⟩; exact hK _ _ rfl hu3)
        | 32, ho =>
          obtain rfl := Option.some.inj ho
          have d5 := hold 5 _ (by kernel_rfl) rfl
          have d64 := get_of_at (hneed 28 (of_decide_eq_true (by kernel_rfl)) 64 rfl) (by simp [undef])
          clear hold hneed ho
          (have p0 := (hS.cell hC.lt (by simp)).trans c0; have p1 := (hS.cell hC.lt (by simp)).trans c1; go_simp; (first | exact hK _ _ rfl (Upd.refl [] _) | exact hK _ _ (fun h => Bool.noConfusion h) (Upd.refl [] _) | exact hK _ _ (fun _ => rfl) (Upd.refl [] _)))
        | 33, ho =>
          obtain rfl := Option.some.inj ho
          have d67 := get_of_at (hneed 31 (of_decide_eq_true (by kernel_rfl)) 67 rfl) (by simp [undef])
          have d68 := get_of_at (hneed 32 (of_decide_eq_true (by kernel_rfl)) 68 rfl) (by simp [undef])
          have d64 := get_of_at (hneed 28 (of_decide_eq_true (by kernel_rfl)) 64 rfl) (by simp [undef])
          clear hold hneed ho
          (go_simp; refine (vmeet (Ml, Mp) (z, R) hMp hc _).mono ?_; rw [HM69.out]; unfold labV; rintro e w3 ⟨rfl, hu3⟩; exact hK _ _ rfl hu3)
        | 34, ho =>
          obtain rfl := Option.some.inj ho
          have d3 := hold 3 _ (by kernel_rfl) rfl
          have d64 := get_of_at (hneed 28 (of_decide_eq_true (by kernel_rfl)) 64 rfl) (by simp [undef])
          clear hold hneed ho
          (have p0 := (hS.cell hA.lt (by simp)).trans a0; have p1 := (hS.cell hA.lt (by simp)).trans a1; go_simp; (first | exact hK _ _ rfl (Upd.refl [] _) | exact hK _ _ (fun h => Bool.noConfusion h) (Upd.refl [] _) | exact hK _ _ (fun _ => rfl) (Upd.refl [] _)))
        | 35, ho =>
          obtain rfl := Option.some.inj ho
          have d4 := hold 4 _ (by kernel_rfl) rfl
          have d64 := get_of_at (hneed 28 (of_decide_eq_true (by kernel_rfl)) 64 rfl) (by simp [undef])
          clear hold hneed ho
          (have p0 := (hS.cell hB.lt (by simp)).trans b0; have p1 := (hS.cell hB.lt (by simp)).trans b1; go_simp; (first | exact hK _ _ rfl (Upd.refl [] _) | exact hK _ _ (fun h => Bool.noConfusion h) (Upd.refl [] _) | exact hK _ _ (fun _ => rfl) (Upd.refl [] _)))
        | 36, ho =>
          obtain rfl := Option.some.inj ho
          have d5 := hold 5 _ (by kernel_rfl) rfl
          have d64 := get_of_at (hneed 28 (of_decide_eq_true (by kernel_rfl)) 64 rfl) (by simp [undef])
          clear hold hneed ho
          (have p0 := (hS.cell hC.lt (by simp)).trans c0; have p1 := (hS.cell hC.lt (by simp)).trans c1; go_simp; (first | exact hK _ _ rfl (Upd.refl [] _) | exact hK _ _ (fun h => Bool.noConfusion h) (Upd.refl [] _) | exact hK _ _ (fun _ => rfl) (Upd.refl [] _)))
        | 37, ho =>
          obtain rfl := Option.some.inj ho
          have d71 := get_of_at (hneed 35 (of_decide_eq_true (by kernel_rfl)) 71 rfl) (by simp [undef])
          have d72 := get_of_at (hneed 36 (of_decide_eq_true (by kernel_rfl)) 72 rfl) (by simp [undef])
          have d64 := get_of_at (hneed 28 (of_decide_eq_true (by kernel_rfl)) 64 rfl) (by simp [undef])
          clear hold hneed ho
          (go_simp; refine (vmeet (y, Q) (z, R) hb hc _).mono ?_; rw [HM73.out]; unfold labV; rintro e w3 ⟨rfl, hu3⟩; exact hK _ _ rfl hu3)
        | 38, ho =>
          obtain rfl := Option.some.inj ho
          have d70 := get_of_at (hneed 34 (of_decide_eq_true (by kernel_rfl)) 70 rfl) (by simp [undef])
          have d73 := get_of_at (hneed 37 (of_decide_eq_true (by kernel_rfl)) 73 rfl) (by simp [undef])
          have d64 := get_of_at (hneed 28 (of_decide_eq_true (by kernel_rfl)) 64 rfl) (by simp [undef])
          clear hold hneed ho
          (go_simp; refine (vmeet (x, P) (MBl, MBp) ha hMBp _).mono ?_; rw [HM74.out]; unfold labV; rintro e w3 ⟨rfl, hu3⟩; exact hK _ _ rfl hu3)
        | 39, ho =>
          obtain rfl := Option.some.inj ho
          have d69 := get_of_at (hneed 33 (of_decide_eq_true (by kernel_rfl)) 69 rfl) (by simp [undef])
          have d74 := get_of_at (hneed 38 (of_decide_eq_true (by kernel_rfl)) 74 rfl) (by simp [undef])
          have d64 := get_of_at (hneed 28 (of_decide_eq_true (by kernel_rfl)) 64 rfl) (by simp [undef])
          clear hold hneed ho
          (go_simp; (first | exact hK _ _ rfl (Upd.refl [] _) | exact hK _ _ (fun h => Bool.noConfusion h) (Upd.refl [] _) | exact hK _ _ (fun _ => rfl) (Upd.refl [] _)))
        | 40, ho =>
          obtain rfl := Option.some.inj ho
          have d64 := get_of_at (hneed 28 (of_decide_eq_true (by kernel_rfl)) 64 rfl) (by simp [undef])
          have d75 := get_of_at (hneed 39 (of_decide_eq_true (by kernel_rfl)) 75 rfl) (by simp [undef])
          clear hold hneed ho
          (go_simp; (first | exact hK _ _ rfl (Upd.refl [] _) | exact hK _ _ (fun h => Bool.noConfusion h) (Upd.refl [] _) | exact hK _ _ (fun _ => rfl) (Upd.refl [] _)))
        | 41, ho =>
          obtain rfl := Option.some.inj ho
          have d76 := get_of_at (hneed 40 (of_decide_eq_true (by kernel_rfl)) 76 rfl) (by simp [undef])
          clear hold hneed ho
          (go_simp; (first | exact hK _ _ rfl (Upd.refl [] _) | exact hK _ _ (fun h => Bool.noConfusion h) (Upd.refl [] _) | exact hK _ _ (fun _ => rfl) (Upd.refl [] _)))
        | _ + 42, ho => exact absurd ho (by simp)
      case fin =>
        intro a w' hS hsz hdf hold hvals
        obtain ⟨b38, hv38, hB38⟩ := hvals 2 38 rfl
        obtain ⟨b41, hv41, hB41⟩ := hvals 5 41 rfl
        obtain ⟨b46, hv46, hB46⟩ := hvals 10 46 rfl
        obtain ⟨b53, hv53, hB53⟩ := hvals 17 53 rfl
        obtain ⟨b58, hv58, hB58⟩ := hvals 22 58 rfl
        obtain ⟨b60, hv60, hB60⟩ := hvals 24 60 rfl
        have ha := act_lit hsz hdf (RowIs.cons (at_of_get (hold 0 _ (by kernel_rfl) rfl)) (RowIs.cons (at_of_get (hold 1 _ (by kernel_rfl) rfl)) (RowIs.cons (at_of_get (hold 2 _ (by kernel_rfl) rfl)) (RowIs.cons (at_of_get (hold 3 _ (by kernel_rfl) rfl)) (RowIs.cons (at_of_get (hold 4 _ (by kernel_rfl) rfl)) (RowIs.cons (at_of_get (hold 5 _ (by kernel_rfl) rfl)) (RowIs.cons (at_of_get (hold 6 _ (by kernel_rfl) rfl)) (RowIs.cons (at_of_get (hold 7 _ (by kernel_rfl) rfl)) (RowIs.cons (hvals 41 8 rfl) (RowIs.cons (at_of_get (hold 9 _ (by kernel_rfl) rfl)) (RowIs.cons (at_of_get (hold 10 _ (by kernel_rfl) rfl)) (RowIs.cons (at_of_get (hold 11 _ (by kernel_rfl) rfl)) (RowIs.cons (at_of_get (hold 12 _ (by kernel_rfl) rfl)) (RowIs.cons (at_of_get (hold 13 _ (by kernel_rfl) rfl)) (RowIs.cons (at_of_get (hold 14 _ (by kernel_rfl) rfl)) (RowIs.cons (at_of_get (hold 15 _ (by kernel_rfl) rfl)) (RowIs.cons (at_of_get (hold 16 _ (by kernel_rfl) rfl)) (RowIs.cons (at_of_get (hold 17 _ (by kernel_rfl) rfl)) (RowIs.cons (at_of_get (hold 18 _ (by kernel_rfl) rfl)) (RowIs.cons (at_of_get (hold 19 _ (by kernel_rfl) rfl)) (RowIs.cons (at_of_get (hold 20 _ (by kernel_rfl) rfl)) (RowIs.cons (at_of_get (hold 21 _ (by kernel_rfl) rfl)) (RowIs.cons (at_of_get (hold 22 _ (by kernel_rfl) rfl)) (RowIs.cons (at_of_get (hold 23 _ (by kernel_rfl) rfl)) (RowIs.cons (at_of_get (hold 24 _ (by kernel_rfl) rfl)) (RowIs.cons (at_of_get (hold 25 _ (by kernel_rfl) rfl)) (RowIs.cons (at_of_get (hold 26 _ (by kernel_rfl) rfl)) (RowIs.cons (at_of_get (hold 27 _ (by kernel_rfl) rfl)) (RowIs.cons (at_of_get (hold 28 _ (by kernel_rfl) rfl)) (RowIs.cons (at_of_get (hold 29 _ (by kernel_rfl) rfl)) (RowIs.cons (at_of_get (hold 30 _ (by kernel_rfl) rfl)) (RowIs.cons (at_of_get (hold 31 _ (by kernel_rfl) rfl)) (RowIs.cons (at_of_get (hold 32 _ (by kernel_rfl) rfl)) (RowIs.cons (at_of_get (hold 33 _ (by kernel_rfl) rfl)) (RowIs.cons (at_of_get (hold 34 _ (by kernel_rfl) rfl)) (RowIs.cons (at_of_get (hold 35 _ (by kernel_rfl) rfl)) (RowIs.cons (hvals 0 36 rfl) (RowIs.cons (hvals 1 37 rfl) (RowIs.cons hv38 (RowIs.cons (hvals 3 39 rfl) (RowIs.cons (hvals 4 40 rfl) (RowIs.cons hv41 (RowIs.cons (hvals 6 42 rfl) (RowIs.cons (hvals 7 43 rfl) (RowIs.cons (hvals 8 44 rfl) (RowIs.cons (hvals 9 45 rfl) (RowIs.cons hv46 (RowIs.cons (hvals 11 47 rfl) (RowIs.cons (hvals 12 48 rfl) (RowIs.cons (hvals 13 49 rfl) (RowIs.cons (hvals 14 50 rfl) (RowIs.cons (hvals 15 51 rfl) (RowIs.cons (hvals 16 52 rfl) (RowIs.cons hv53 (RowIs.cons (hvals 18 54 rfl) (RowIs.cons (hvals 19 55 rfl) (RowIs.cons (hvals 20 56 rfl) (RowIs.cons (hvals 21 57 rfl) (RowIs.cons hv58 (RowIs.cons (hvals 23 59 rfl) (RowIs.cons hv60 (RowIs.cons (hvals 25 61 rfl) (RowIs.cons (hvals 26 62 rfl) (RowIs.cons (hvals 27 63 rfl) (RowIs.cons (hvals 28 64 rfl) (RowIs.cons (hvals 29 65 rfl) (RowIs.cons (hvals 30 66 rfl) (RowIs.cons (hvals 31 67 rfl) (RowIs.cons (hvals 32 68 rfl) (RowIs.cons (hvals 33 69 rfl) (RowIs.cons (hvals 34 70 rfl) (RowIs.cons (hvals 35 71 rfl) (RowIs.cons (hvals 36 72 rfl) (RowIs.cons (hvals 37 73 rfl) (RowIs.cons (hvals 38 74 rfl) (RowIs.cons (hvals 39 75 rfl) (RowIs.cons (hvals 40 76 rfl) (RowIs.cons (at_of_get (hold 77 _ (by kernel_rfl) rfl)) (RowIs.cons (at_of_get (hold 78 _ (by kernel_rfl) rfl)) (RowIs.cons (at_of_get (hold 79 _ (by kernel_rfl) rfl)) (RowIs.cons (at_of_get (hold 80 _ (by kernel_rfl) rfl)) (RowIs.cons (at_of_get (hold 81 _ (by kernel_rfl) rfl)) (RowIs.cons (at_of_get (hold 82 _ (by kernel_rfl) rfl)) (RowIs.cons (at_of_get (hold 83 _ (by kernel_rfl) rfl)) (RowIs.cons (at_of_get (hold 84 _ (by kernel_rfl) rfl)) (RowIs.cons (at_of_get (hold 85 _ (by kernel_rfl) rfl)) (RowIs.cons (at_of_get (hold 86 _ (by kernel_rfl) rfl)) (RowIs.cons (at_of_get (hold 87 _ (by kernel_rfl) rfl)) (RowIs.cons (at_of_get (hold 88 _ (by kernel_rfl) rfl)) (RowIs.cons (at_of_get (hold 89 _ (by kernel_rfl) rfl)) (RowIs.cons (at_of_get (hold 90 _ (by kernel_rfl) rfl)) (RowIs.cons (at_of_get (hold 91 _ (by kernel_rfl) rfl)) (RowIs.cons (at_of_get (hold 92 _ (by kernel_rfl) rfl)) (RowIs.cons (at_of_get (hold 93 _ (by kernel_rfl) rfl)) (RowIs.cons (at_of_get (hold 94 _ (by kernel_rfl) rfl)) (RowIs.cons (at_of_get (hold 95 _ (by kernel_rfl) rfl)) (RowIs.cons (at_of_get (hold 96 _ (by kernel_rfl) rfl)) (RowIs.cons (at_of_get (hold 97 _ (by kernel_rfl) rfl)) (RowIs.cons (at_of_get (hold 98 _ (by kernel_rfl) rfl)) (RowIs.cons (at_of_get (hold 99 _ (by kernel_rfl) rfl)) (RowIs.cons (at_of_get (hold 100 _ (by kernel_rfl) rfl)) (RowIs.cons (at_of_get (hold 101 _ (by kernel_rfl) rfl)) (RowIs.cons (at_of_get (hold 102 _ (by kernel_rfl) rfl)) (RowIs.cons (at_of_get (hold 103 _ (by kernel_rfl) rfl)) (RowIs.cons (at_of_get (hold 104 _ (by kernel_rfl) rfl)) (RowIs.cons (at_of_get (hold 105 _ (by kernel_rfl) rfl)) (RowIs.cons (at_of_get (hold 106 _ (by kernel_rfl) rfl)) (RowIs.cons (at_of_get (hold 107 _ (by kernel_rfl) rfl)) (RowIs.cons (at_of_get (hold 108 _ (by kernel_rfl) rfl)) (RowIs.cons (at_of_get (hold 109 _ (by kernel_rfl) rfl)) (RowIs.cons (at_of_get (hold 110 _ (by kernel_rfl) rfl)) (RowIs.cons (at_of_get (hold 111 _ (by kernel_rfl) rfl)) (RowIs.cons (at_of_get (hold 112 _ (by kernel_rfl) rfl)) (RowIs.cons (at_of_get (hold 113 _ (by kernel_rfl) rfl)) (RowIs.cons (at_of_get (hold 114 _ (by kernel_rfl) rfl)) (RowIs.cons (at_of_get (hold 115 _ (by kernel_rfl) rfl)) (RowIs.cons (at_of_get (hold 116 _ (by kernel_rfl) rfl)) (RowIs.cons (at_of_get (hold 117 _ (by kernel_rfl) rfl)) (RowIs.cons (at_of_get (hold 118 _ (by kernel_rfl) rfl)) (RowIs.cons (at_of_get (hold 119 _ (by kernel_rfl) rfl)) (RowIs.cons (at_of_get (hold 120 _ (by kernel_rfl) rfl)) (RowIs.cons (at_of_get (hold 121 _ (by kernel_rfl) rfl)) (RowIs.cons (at_of_get (hold 122 _ (by kernel_rfl) rfl)) (RowIs.cons (at_of_get (hold 123 _ (by kernel_rfl) rfl)) (RowIs.cons (at_of_get (hold 124 _ (by kernel_rfl) rfl)) (RowIs.cons (at_of_get (hold 125 _ (by kernel_rfl) rfl)) (RowIs.cons (at_of_get (hold 126 _ (by kernel_rfl) rfl)) (RowIs.cons (at_of_get (hold 127 _ (by kernel_rfl) rfl)) (RowIs.cons (at_of_get (hold 128 _ (by kernel_rfl) rfl)) (RowIs.cons (at_of_get (hold 129 _ (by kernel_rfl) rfl)) (RowIs.cons (at_of_get (hold 130 _ (by kernel_rfl) rfl)) (RowIs.cons (at_of_get (hold 131 _ (by kernel_rfl) rfl)) (RowIs.cons (at_of_get (hold 132 _ (by kernel_rfl) rfl)) (RowIs.cons (at_of_get (hold 133 _ (by kernel_rfl) rfl)) (RowIs.cons (at_of_get (hold 134 _ (by kernel_rfl) rfl)) (RowIs.cons (at_of_get (hold 135 _ (by kernel_rfl) rfl)) (RowIs.cons (at_of_get (hold 136 _ (by kernel_rfl) rfl)) (RowIs.cons (at_of_get (hold 137 _ (by kernel_rfl) rfl)) (RowIs.cons (at_of_get (hold 138 _ (by kernel_rfl) rfl)) (RowIs.cons (at_of_get (hold 139 _ (by kernel_rfl) rfl)) (RowIs.cons (at_of_get (hold 140 _ (by kernel_rfl) rfl)) (RowIs.cons (at_of_get (hold 141 _ (by kernel_rfl) rfl)) (RowIs.cons (at_of_get (hold 142 _ (by kernel_rfl) rfl)) (RowIs.cons (at_of_get (hold 143 _ (by kernel_rfl) rfl)) (RowIs.cons (at_of_get (hold 144 _ (by kernel_rfl) rfl)) (RowIs.cons (at_of_get (hold 145 _ (by kernel_rfl) rfl)) (RowIs.nil _ _))))))))))))))))))))))))))))))))))))))))))))))))))))))))))))))))))))))))))))))))))))))))))))))))))))))))))))))))))))))))))))))))))))))))))))))))))) rfl
        clear hsz hdf hold hvals
        subst ha
        try simp only [List.getElem_toArray, List.getElem_cons_succ, List.getElem_cons_zero]
        replace u4 := u4.trans_nil hS
        replace hA := hA.upd_nil hS
        replace hB := hB.upd_nil hS
        replace hC := hC.upd_nil hS
        clear hS a0 a1 b0 b1 c0 c1
        obtain ⟨wq5, rfl⟩ : ∃ wq, wq = w' := ⟨_, rfl⟩
        have a0 := hA.cell 0 rfl
        have a1 := hA.cell 1 rfl
        have b0 := hB.cell 0 rfl
        have b1 := hB.cell 1 rfl
        have c0 := hC.cell 0 rfl
        have c1 := hC.cell 1 rfl
        go_upto_region 6 with fail
        refine wp_region_spec [(.eq (.agg #[.int .i64 x, .int .u32 P])), (.eq (.agg #[.int .i64 x, .int .u32 P])), (.eq (.agg #[.int .i64 y, .int .u32 Q])), (.eq (.agg #[.int .i64 Ml, .int .u32 Mp])), (.sl 2 2 [.int .i64 x, .int .u32 P, .int .i64 Ml, .int .u32 Mp] 24), (.eq (.agg #[.int .i64 x, .int .u32 P])), (.eq (.agg #[.int .i64 x, .int .u32 P])), (.eq (.bool true)), (.eq (.bool true)), (.eq (.agg #[.int .i64 x, .int .u32 P])), (.eq (.agg #[.int .i64 x, .int .u32 P])), (.eq (.agg #[.int .i64 y, .int .u32 Q])), (.sl 2 2 [.int .i64 x, .int .u32 P, .int .i64 y, .int .u32 Q] 24), (.eq (.agg #[.int .i64 Jl, .int .u32 Jp])), (.eq (.agg #[.int .i64 x, .int .u32 P])), (.eq (.agg #[.int .i64 x, .int .u32 P])), (.eq (.bool true)), (.eq (.bool true)), (.eq (.bool true)), (.eq (.agg #[.int .i64 x, .int .u32 P])), (.eq (.agg #[.int .i64 x, .int .u32 P])), (.sl 2 2 [.int .i64 x, .int .u32 P, .int .i64 x, .int .u32 P] 24), (.eq (.agg #[.int .i64 x, .int .u32 P])), (.eq (.agg #[.int .i64 x, .int .u32 P])), (.eq (.bool true)), (.eq (.bool true)), (.eq (.bool true)), (.eq (.agg #[.int .i64 x, .int .u32 P])), (.eq (.agg #[.int .i64 x, .int .u32 P])), (.eq (.agg #[.int .i64 x, .int .u32 P])), (.eq (.agg #[.int .i64 x, .int .u32 P])), (.eq (.bool true)), (.eq (.bool true)), (.eq (.bool true))] (by kernel_rfl) (by kernel_rfl) rfl ?step ?fin
        case step =>
          intro i o ho a w' hS hold hneed K' hK
          match i, ho with
          | 0, ho =>
            obtain rfl := Option.some.inj ho
            have d3 := hold 3 _ (by kernel_rfl) rfl
            clear hold hneed ho
            (have p0 := (hS.cell hA.lt (by simp)).trans a0; have p1 := (hS.cell hA.lt (by simp)).trans a1; go_simp; (first | exact hK _ _ rfl (Upd.refl [] _) | exact hK _ _ (fun h => Bool.noConfusion h) (Upd.refl [] _) | exact hK _ _ (fun _ => rfl) (Upd.refl [] _)))
          | 1, ho =>
            obtain rfl := Option.some.inj ho
            have d3 := hold 3 _ (by kernel_rfl) rfl
            clear hold hneed ho
            (have p0 := (hS.cell hA.lt (by simp)).trans a0; have p1 := (hS.cell hA.lt (by simp)).trans a1; go_simp; (first | exact hK _ _ rfl (Upd.refl [] _) | exact hK _ _ (fun h => Bool.noConfusion h) (Upd.refl [] _) | exact hK _ _ (fun _ => rfl) (Upd.refl [] _)))
          | 2, ho =>
            obtain rfl := Option.some.inj ho
            have d4 := hold 4 _ (by kernel_rfl) rfl
            clear hold hneed ho
            (have p0 := (hS.cell hB.lt (by simp)).trans b0; have p1 := (hS.cell hB.lt (by simp)).trans b1; go_simp; (first | exact hK _ _ rfl (Upd.refl [] _) | exact hK _ _ (fun h => Bool.noConfusion h) (Upd.refl [] _) | exact hK _ _ (fun _ => rfl) (Upd.refl [] _)))
          | 3, ho =>
            obtain rfl := Option.some.inj ho
            have d78 := get_of_at (hneed 1 (of_decide_eq_true (by kernel_rfl)) 78 rfl) (by simp [undef])
            have d79 := get_of_at (hneed 2 (of_decide_eq_true (by kernel_rfl)) 79 rfl) (by simp [undef])
            clear hold hneed ho
            (go_simp; refine (vmeet (x, P) (y, Q) ha hb _).mono ?_; rw [HM80.out]; unfold labV; rintro e w3 ⟨rfl, hu3⟩; exact hK _ _ rfl hu3)
          | 4, ho =>
            obtain rfl := Option.some.inj ho
            have d77 := get_of_at (hneed 0 (of_decide_eq_true (by kernel_rfl)) 77 rfl) (by simp [undef])
            have d80 := get_of_at (hneed 3 (of_decide_eq_true (by kernel_rfl)) 80 rfl) (by simp [undef])
            clear hold hneed ho
            (go_simp; exact hK _ _ ⟨_, rfl, Blk.new _ _ _⟩ ((Upd.refl [] _).alloc _))
          | 5, ho =>
            obtain rfl := Option.some.inj ho
            obtain ⟨b81, e81, hB81⟩ := hneed 4 (of_decide_eq_true (by kernel_rfl)) 81 rfl
            have d81 := get_of_at e81 (by simp [undef])
            clear hold hneed ho
            (go_simp; refine (vjoin (LabsAt.two (x := (x, P)) (y := (Ml, Mp)) hB81) 2 (by simp [maxLen]) (bd_2 ha hMp)).mono ?_; rw [HJ82.out]; unfold labV; rintro e w3 ⟨rfl, hu3⟩; exact hK _ _ rfl hu3)
          | 6, ho =>
            obtain rfl := Option.some.inj ho
            have d3 := hold 3 _ (by kernel_rfl) rfl
            clear hold hneed ho
            (have p0 := (hS.cell hA.lt (by simp)).trans a0; have p1 := (hS.cell hA.lt (by simp)).trans a1; go_simp; (first | exact hK _ _ rfl (Upd.refl [] _) | exact hK _ _ (fun h => Bool.noConfusion h) (Upd.refl [] _) | exact hK _ _ (fun _ => rfl) (Upd.refl [] _)))
          | 7, ho =>
            obtain rfl := Option.some.inj ho
            have d82 := get_of_at (hneed 5 (of_decide_eq_true (by kernel_rfl)) 82 rfl) (by simp [undef])
            have d83 := get_of_at (hneed 6 (of_decide_eq_true (by kernel_rfl)) 83 rfl) (by simp [undef])
            clear hold hneed ho
            (go_simp; (first | exact hK _ _ rfl (Upd.refl [] _) | exact hK _ _ (fun h => Bool.noConfusion h) (Upd.refl [] _) | exact hK _ _ (fun _ => rfl) (Upd.refl [] _)))
          | 8, ho =>
            obtain rfl := Option.some.inj ho
            have d84 := get_of_at (hneed 7 (of_decide_eq_true (by kernel_rfl)) 84 rfl) (by simp [undef])
            clear hold hneed ho
            (go_simp; (first | exact hK _ _ rfl (Upd.refl [] _) | exact hK _ _ (fun h => Bool.noConfusion h) (Upd.refl [] _) | exact hK _ _ (fun _ => rfl) (Upd.refl [] _)))
          | 9, ho =>
            obtain rfl := Option.some.inj ho
            have d3 := hold 3 _ (by kernel_rfl) rfl
            have d85 := get_of_at (hneed 8 (of_decide_eq_true (by kernel_rfl)) 85 rfl) (by simp [undef])
            clear hold hneed ho
            (have p0 := (hS.cell hA.lt (by simp)).trans a0; have p1 := (hS.cell hA.lt (by simp)).trans a1; go_simp; (first | exact hK _ _ rfl (Upd.refl [] _) | exact hK _ _ (fun h => Bool.noConfusion h) (Upd.refl [] _) | exact hK _ _ (fun _ => rfl) (Upd.refl [] _)))
          | 10, ho =>
            obtain rfl := Option.some.inj ho
            have d3 := hold 3 _ (by kernel_rfl) rfl
            have d85 := get_of_at (hneed 8 (of_decide_eq_true (by kernel_rfl)) 85 rfl) (by simp [undef])
            clear hold hneed ho
            (have p0 := (hS.cell hA.lt (by simp)).trans a0; have p1 := (hS.cell hA.lt (by simp)).trans a1; go_simp; (first | exact hK _ _ rfl (Upd.refl [] _) | exact hK _ _ (fun h => Bool.noConfusion h) (Upd.refl [] _) | exact hK _ _ (fun _ => rfl) (Upd.refl [] _)))
          | 11, ho =>
            obtain rfl := Option.some.inj ho
            have d4 := hold 4 _ (by kernel_rfl) rfl
            have d85 := get_of_at (hneed 8 (of_decide_eq_true (by kernel_rfl)) 85 rfl) (by simp [undef])
            clear hold hneed ho
            (have p0 := (hS.cell hB.lt (by simp)).trans b0; have p1 := (hS.cell hB.lt (by simp)).trans b1; go_simp; (first | exact hK _ _ rfl (Upd.refl [] _) | exact hK _ _ (fun h => Bool.noConfusion h) (Upd.refl [] _) | exact hK _ _ (fun _ => rfl) (Upd.refl [] _)))
          | 12, ho =>
            obtain rfl := Option.some.inj ho
            have d87 := get_of_at (hneed 10 (of_decide_eq_true (by kernel_rfl)) 87 rfl) (by simp [undef])
            have d88 := get_of_at (hneed 11 (of_decide_eq_true (by kernel_rfl)) 88 rfl) (by simp [undef])
            have d85 := get_of_at (hneed 8 (of_decide_eq_true (by kernel_rfl)) 85 rfl) (by simp [undef])
            clear hold hneed ho
            (go_simp; exact hK _ _ ⟨_, rfl, Blk.new _ _ _⟩ ((Upd.refl [] _).alloc _))
          | 13, ho =>
            obtain rfl := Option.some.inj ho
            obtain ⟨b89, e89, hB89⟩ := hneed 12 (of_decide_eq_true (by kernel_rfl)) 89 rfl
            have d89 := get_of_at e89 (by simp [undef])
            have d85 := get_of_at (hneed 8 (of_decide_eq_true (by kernel_rfl)) 85 rfl) (by simp [undef])
            clear hold hneed ho
            (go_simp; refine (vjoin (LabsAt.two (x := (x, P)) (y := (y, Q)) hB89) 2 (by simp [maxLen]) (bd_2 ha hb)).mono ?_; rw [HJ90.out]; unfold labV; rintro e w3 ⟨rfl, hu3⟩; exact hK _ _ rfl hu3)
          | 14, ho =>
            obtain rfl := Option.some.inj ho
            have d86 := get_of_at (hneed 9 (of_decide_eq_true (by kernel_rfl)) 86 rfl) (by simp [undef])
            have d90 := get_of_at (hneed 13 (of_decide_eq_true (by kernel_rfl)) 90 rfl) (by simp [undef])
            have d85 := get_of_at (hneed 8 (of_decide_eq_true (by kernel_rfl)) 85 rfl) (by simp [undef])
            clear hold hneed ho
            (go_simp; refine (vmeet (x, P) (Jl, Jp) ha hJp _).mono ?_; rw [HM91.out]; unfold labV; rintro e w3 ⟨rfl, hu3⟩; exact hK _ _ rfl hu3)
          | 15, ho =>
            obtain rfl := Option.some.inj ho
            have d3 := hold 3 _ (by kernel_rfl) rfl
            have d85 := get_of_at (hneed 8 (of_decide_eq_true (by kernel_rfl)) 85 rfl) (by simp [undef])
            clear hold hneed ho
            (have p0 := (hS.cell hA.lt (by simp)).trans a0; have p1 := (hS.cell hA.lt (by simp)).trans a1; go_simp; (first | exact hK _ _ rfl (Upd.refl [] _) | exact hK _ _ (fun h => Bool.noConfusion h) (Upd.refl [] _) | exact hK _ _ (fun _ => rfl) (Upd.refl [] _)))
          | 16, ho =>
            obtain rfl := Option.some.inj ho
            have d91 := get_of_at (hneed 14 (of_decide_eq_true (by kernel_rfl)) 91 rfl) (by simp [undef])
            have d92 := get_of_at (hneed 15 (of_decide_eq_true (by kernel_rfl)) 92 rfl) (by simp [undef])
            have d85 := get_of_at (hneed 8 (of_decide_eq_true (by kernel_rfl)) 85 rfl) (by simp [undef])
            clear hold hneed ho
            (go_simp; (first | exact hK _ _ rfl (Upd.refl [] _) | exact hK _ _ (fun h => Bool.noConfusion h) (Upd.refl [] _) | exact hK _ _ (fun _ => rfl) (Upd.refl [] _)))
          | 17, ho =>
            obtain rfl := Option.some.inj ho
            have d85 := get_of_at (hneed 8 (of_decide_eq_true (by kernel_rfl)) 85 rfl) (by simp [undef])
            have d93 := get_of_at (hneed 16 (of_decide_eq_true (by kernel_rfl)) 93 rfl) (by simp [undef])
            clear hold hneed ho
            (go_simp; (first | exact hK _ _ rfl (Upd.refl [] _) | exact hK _ _ (fun h => Bool.noConfusion h) (Upd.refl [] _) | exact hK _ _ (fun _ => rfl) (Upd.refl [] _)))
          | 18, ho =>
            obtain rfl := Option.some.inj ho
            have d94 := get_of_at (hneed 17 (of_decide_eq_true (by kernel_rfl)) 94 rfl) (by simp [undef])
            clear hold hneed ho
            (go_simp; (first | exact hK _ _ rfl (Upd.refl [] _) | exact hK _ _ (fun h => Bool.noConfusion h) (Upd.refl [] _) | exact hK _ _ (fun _ => rfl) (Upd.refl [] _)))
          | 19, ho =>
            obtain rfl := Option.some.inj ho
            have d3 := hold 3 _ (by kernel_rfl) rfl
            have d95 := get_of_at (hneed 18 (of_decide_eq_true (by kernel_rfl)) 95 rfl) (by simp [undef])
            clear hold hneed ho
            (have p0 := (hS.cell hA.lt (by simp)).trans a0; have p1 := (hS.cell hA.lt (by simp)).trans a1; go_simp; (first | exact hK _ _ rfl (Upd.refl [] _) | exact hK _ _ (fun h => Bool.noConfusion h) (Upd.refl [] _) | exact hK _ _ (fun _ => rfl) (Upd.refl [] _)))
          | 20, ho =>
            obtain rfl := Option.some.inj ho
            have d3 := hold 3 _ (by kernel_rfl) rfl
            have d95 := get_of_at (hneed 18 (of_decide_eq_true (by kernel_rfl)) 95 rfl) (by simp [undef])
            clear hold hneed ho
            (have p0 := (hS.cell hA.lt (by simp)).trans a0; have p1 := (hS.cell hA.lt (by simp)).trans a1; go_simp; (first | exact hK _ _ rfl (Upd.refl [] _) | exact hK _ _ (fun h => Bool.noConfusion h) (Upd.refl [] _) | exact hK _ _ (fun _ => rfl) (Upd.refl [] _)))
          | 21, ho =>
            obtain rfl := Option.some.inj ho
            have d96 := get_of_at (hneed 19 (of_decide_eq_true (by kernel_rfl)) 96 rfl) (by simp [undef])
            have d97 := get_of_at (hneed 20 (of_decide_eq_true (by kernel_rfl)) 97 rfl) (by simp [undef])
            have d95 := get_of_at (hneed 18 (of_decide_eq_true (by kernel_rfl)) 95 rfl) (by simp [undef])
            clear hold hneed ho
            (go_simp; exact hK _ _ ⟨_, rfl, Blk.new _ _ _⟩ ((Upd.refl [] _).alloc _))
          | 22, ho =>
            obtain rfl := Option.some.inj ho
            obtain ⟨b98, e98, hB98⟩ := hneed 21 (of_decide_eq_true (by kernel_rfl)) 98 rfl
            have d98 := get_of_at e98 (by simp [undef])
            have d95 := get_of_at (hneed 18 (of_decide_eq_true (by kernel_rfl)) 95 rfl) (by simp [undef])
            clear hold hneed ho
            (go_simp; refine (vjoin (LabsAt.two (x := (x, P)) (y := (x, P)) hB98) 2 (by simp [maxLen]) (bd_2 ha ha)).mono ?_; rw [HJ99.out]; unfold labV; rintro e w3 ⟨rfl, hu3⟩; exact hK _ _ rfl hu3)
          | 23, ho =>
            obtain rfl := Option.some.inj ho
            have d3 := hold 3 _ (by kernel_rfl) rfl
            have d95 := get_of_at (hneed 18 (of_decide_eq_true (by kernel_rfl)) 95 rfl) (by simp [undef])
            clear hold hneed ho
            (have p0 := (hS.cell hA.lt (by simp)).trans a0; have p1 := (hS.cell hA.lt (by simp)).trans a1; go_simp; (first | exact hK _ _ rfl (Upd.refl [] _) | exact hK _ _ (fun h => Bool.noConfusion h) (Upd.refl [] _) | exact hK _ _ (fun _ => rfl) (Upd.refl [] _)))
          | 24, ho =>
            obtain rfl := Option.some.inj ho
            have d99 := get_of_at (hneed 22 (of_decide_eq_true (by kernel_rfl)) 99 rfl) (by simp [undef])
            have d100 := get_of_at (hneed 23 (of_decide_eq_true (by kernel_rfl)) 100 rfl) (by simp [undef])
            have d95 := get_of_at (hneed 18 (of_decide_eq_true (by kernel_rfl)) 95 rfl) (by simp [undef])
            clear hold hneed ho
            (go_simp; (first | exact hK _ _ rfl (Upd.refl [] _) | exact hK _ _ (fun h => Bool.noConfusion h) (Upd.refl [] _) | exact hK _ _ (fun _ => rfl) (Upd.refl [] _)))
          | 25, ho =>
            obtain rfl := Option.some.inj ho
            have d95 := get_of_at (hneed 18 (of_decide_eq_true (by kernel_rfl)) 95 rfl) (by simp [undef])
            have d101 := get_of_at (hneed 24 (of_decide_eq_true (by kernel_rfl)) 101 rfl) (by simp [undef])
            clear hold hneed ho
            (go_simp; (first | exact hK _ _ rfl (Upd.refl [] _) | exact hK _ _ (fun h => Bool.noConfusion h) (Upd.refl [] _) | exact hK _ _ (fun _ => rfl) (Upd.refl [] _)))
          | 26, ho =>
            obtain rfl := Option.some.inj ho
            have d102 := get_of_at (hneed 25 (of_decide_eq_true (by kernel_rfl)) 102 rfl) (by simp [undef])
            clear hold hneed ho
            (go_simp; (first | exact hK _ _ rfl (Upd.refl [] _) | exact hK _ _ (fun h => Bool.noConfusion h) (Upd.refl [] _) | exact hK _ _ (fun _ => rfl) (Upd.refl [] _)))
          | 27, ho =>
            obtain rfl := Option.some.inj ho
            have d3 := hold 3 _ (by kernel_rfl) rfl
            have d103 := get_of_at (hneed 26 (of_decide_eq_true (by kernel_rfl)) 103 rfl) (by simp [undef])
            clear hold hneed ho
            (have p0 := (hS.cell hA.lt (by simp)).trans a0; have p1 := (hS.cell hA.lt (by simp)).trans a1; go_simp; (first | exact hK _ _ rfl (Upd.refl [] _) | exact hK _ _ (fun h => Bool.noConfusion h) (Upd.refl [] _) | exact hK _ _ (fun _ => rfl) (Upd.refl [] _)))
          | 28, ho =>
            obtain rfl := Option.some.inj ho
            have d3 := hold 3 _ (by kernel_rfl) rfl
            have d103 := get_of_at (hneed 26 (of_decide_eq_true (by kernel_rfl)) 103 rfl) (by simp [undef])
            clear hold hneed ho
            (have p0 := (hS.cell hA.lt (by simp)).trans a0; have p1 := (hS.cell hA.lt (by simp)).trans a1; go_simp; (first | exact hK _ _ rfl (Upd.refl [] _) | exact hK _ _ (fun h => Bool.noConfusion h) (Upd.refl [] _) | exact hK _ _ (fun _ => rfl) (Upd.refl [] _)))
          | 29, ho =>
            obtain rfl := Option.some.inj ho
            have d104 := get_of_at (hneed 27 (of_decide_eq_true (by kernel_rfl)) 104 rfl) (by simp [undef])
            have d105 := get_of_at (hneed 28 (of_decide_eq_true (by kernel_rfl)) 105 rfl) (by simp [undef])
            have d103 := get_of_at (hneed 26 (of_decide_eq_true (by kernel_rfl)) 103 rfl) (by simp [undef])
            clear hold hneed ho
            (go_simp; refine (vmeet (x, P) (x, P) ha ha _).mono ?_; rw [HM106.out]; unfold labV; rintro e w3 ⟨rfl, hu3⟩; exact hK _ _ rfl hu3)
          | 30, ho =>
            obtain rfl := Option.some.inj ho
            have d3 := hold 3 _ (by kernel_rfl) rfl
            have d103 := get_of_at (hneed 26 (of_decide_eq_true (by kernel_rfl)) 103 rfl) (by simp [undef])
            clear hold hneed ho
            (have p0 := (hS.cell hA.lt (by simp)).trans a0; have p1 := (hS.cell hA.lt (by simp)).trans a1; go_simp; (first | exact hK _ _ rfl (Upd.refl [] _) | exact hK _ _ (fun h => Bool.noConfusion h) (Upd.refl [] _) | exact hK _ _ (fun _ => rfl) (Upd.refl [] _)))
          | 31, ho =>
            obtain rfl := Option.some.inj ho
            have d106 := get_of_at (hneed 29 (of_decide_eq_true (by kernel_rfl)) 106 rfl) (by simp [undef])
            have d107 := get_of_at (hneed 30 (of_decide_eq_true (by kernel_rfl)) 107 rfl) (by simp [undef])
            have d103 := get_of_at (hneed 26 (of_decide_eq_true (by kernel_rfl)) 103 rfl) (by simp [undef])
            clear hold hneed ho
            (go_simp; (first | exact hK _ _ rfl (Upd.refl [] _) | exact hK _ _ (fun h => Bool.noConfusion h) (Upd.refl [] _) | exact hK _ _ (fun _ => rfl) (Upd.refl [] _)))
          | 32, ho =>
            obtain rfl := Option.some.inj ho
            have d103 := get_of_at (hneed 26 (of_decide_eq_true (by kernel_rfl)) 103 rfl) (by simp [undef])
            have d108 := get_of_at (hneed 31 (of_decide_eq_true (by kernel_rfl)) 108 rfl) (by simp [undef])
            clear hold hneed ho
            (go_simp; (first | exact hK _ _ rfl (Upd.refl [] _) | exact hK _ _ (fun h => Bool.noConfusion h) (Upd.refl [] _) | exact hK _ _ (fun _ => rfl) (Upd.refl [] _)))
          | 33, ho =>
            obtain rfl := Option.some.inj ho
            have d109 := get_of_at (hneed 32 (of_decide_eq_true (by kernel_rfl)) 109 rfl) (by simp [undef])
            clear hold hneed ho
            (go_simp; (first | exact hK _ _ rfl (Upd.refl [] _) | exact hK _ _ (fun h => Bool.noConfusion h) (Upd.refl [] _) | exact hK _ _ (fun _ => rfl) (Upd.refl [] _)))
          | _ + 34, ho => exact absurd ho (by simp)
        case fin =>
          intro a w' hS hsz hdf hold hvals
          obtain ⟨b81, hv81, hB81⟩ := hvals 4 81 rfl
          obtain ⟨b89, hv89, hB89⟩ := hvals 12 89 rfl
          obtain ⟨b98, hv98, hB98⟩ := hvals 21 98 rfl
          have ha := act_lit hsz hdf (RowIs.cons (at_of_get (hold 0 _ (by kernel_rfl) rfl)) (RowIs.cons (at_of_get (hold 1 _ (by kernel_rfl) rfl)) (RowIs.cons (at_of_get (hold 2 _ (by kernel_rfl) rfl)) (RowIs.cons (at_of_get (hold 3 _ (by kernel_rfl) rfl)) (RowIs.cons (at_of_get (hold 4 _ (by kernel_rfl) rfl)) (RowIs.cons (at_of_get (hold 5 _ (by kernel_rfl) rfl)) (RowIs.cons (at_of_get (hold 6 _ (by kernel_rfl) rfl)) (RowIs.cons (at_of_get (hold 7 _ (by kernel_rfl) rfl)) (RowIs.cons (at_of_get (hold 8 _ (by kernel_rfl) rfl)) (RowIs.cons (hvals 33 9 rfl) (RowIs.cons (at_of_get (hold 10 _ (by kernel_rfl) rfl)) (RowIs.cons (at_of_get (hold 11 _ (by kernel_rfl) rfl)) (RowIs.cons (at_of_get (hold 12 _ (by kernel_rfl) rfl)) (RowIs.cons (at_of_get (hold 13 _ (by kernel_rfl) rfl)) (RowIs.cons (at_of_get (hold 14 _ (by kernel_rfl) rfl)) (RowIs.cons (at_of_get (hold 15 _ (by kernel_rfl) rfl)) (RowIs.cons (at_of_get (hold 16 _ (by kernel_rfl) rfl)) (RowIs.cons (at_of_get (hold 17 _ (by kernel_rfl) rfl)) (RowIs.cons (at_of_get (hold 18 _ (by kernel_rfl) rfl)) (RowIs.cons (at_of_get (hold 19 _ (by kernel_rfl) rfl)) (RowIs.cons (at_of_get (hold 20 _ (by kernel_rfl) rfl)) (RowIs.cons (at_of_get (hold 21 _ (by kernel_rfl) rfl)) (RowIs.cons (at_of_get (hold 22 _ (by kernel_rfl) rfl)) (RowIs.cons (at_of_get (hold 23 _ (by kernel_rfl) rfl)) (RowIs.cons (at_of_get (hold 24 _ (by kernel_rfl) rfl)) (RowIs.cons (at_of_get (hold 25 _ (by kernel_rfl) rfl)) (RowIs.cons (at_of_get (hold 26 _ (by kernel_rfl) rfl)) (RowIs.cons (at_of_get (hold 27 _ (by kernel_rfl) rfl)) (RowIs.cons (at_of_get (hold 28 _ (by kernel_rfl) rfl)) (RowIs.cons (at_of_get (hold 29 _ (by kernel_rfl) rfl)) (RowIs.cons (at_of_get (hold 30 _ (by kernel_rfl) rfl)) (RowIs.cons (at_of_get (hold 31 _ (by kernel_rfl) rfl)) (RowIs.cons (at_of_get (hold 32 _ (by kernel_rfl) rfl)) (RowIs.cons (at_of_get (hold 33 _ (by kernel_rfl) rfl)) (RowIs.cons (at_of_get (hold 34 _ (by kernel_rfl) rfl)) (RowIs.cons (at_of_get (hold 35 _ (by kernel_rfl) rfl)) (RowIs.cons (at_of_get (hold 36 _ (by kernel_rfl) rfl)) (RowIs.cons (at_of_get (hold 37 _ (by kernel_rfl) rfl)) (RowIs.cons (at_of_get (hold 38 _ (by kernel_rfl) rfl)) (RowIs.cons (at_of_get (hold 39 _ (by kernel_rfl) rfl)) (RowIs.cons (at_of_get (hold 40 _ (by kernel_rfl) rfl)) (RowIs.cons (at_of_get (hold 41 _ (by kernel_rfl) rfl)) (RowIs.cons (at_of_get (hold 42 _ (by kernel_rfl) rfl)) (RowIs.cons (at_of_get (hold 43 _ (by kernel_rfl) rfl)) (RowIs.cons (at_of_get (hold 44 _ (by kernel_rfl) rfl)) (RowIs.cons (at_of_get (hold 45 _ (by kernel_rfl) rfl)) (RowIs.cons (at_of_get (hold 46 _ (by kernel_rfl) rfl)) (RowIs.cons (at_of_get (hold 47 _ (by kernel_rfl) rfl)) (RowIs.cons (at_of_get (hold 48 _ (by kernel_rfl) rfl)) (RowIs.cons (at_of_get (hold 49 _ (by kernel_rfl) rfl)) (RowIs.cons (at_of_get (hold 50 _ (by kernel_rfl) rfl)) (RowIs.cons (at_of_get (hold 51 _ (by kernel_rfl) rfl)) (RowIs.cons (at_of_get (hold 52 _ (by kernel_rfl) rfl)) (RowIs.cons (at_of_get (hold 53 _ (by kernel_rfl) rfl)) (RowIs.cons (at_of_get (hold 54 _ (by kernel_rfl) rfl)) (RowIs.cons (at_of_get (hold 55 _ (by kernel_rfl) rfl)) (RowIs.cons (at_of_get (hold 56 _ (by kernel_rfl) rfl)) (RowIs.cons (at_of_get (hold 57 _ (by kernel_rfl) rfl)) (RowIs.cons (at_of_get (hold 58 _ (by kernel_rfl) rfl)) (RowIs.cons (at_of_get (hold 59 _ (by kernel_rfl) rfl)) (RowIs.cons (at_of_get (hold 60 _ (by kernel_rfl) rfl)) (RowIs.cons (at_of_get (hold 61 _ (by kernel_rfl) rfl)) (RowIs.cons (at_of_get (hold 62 _ (by kernel_rfl) rfl)) (RowIs.cons (at_of_get (hold 63 _ (by kernel_rfl) rfl)) (RowIs.cons (at_of_get (hold 64 _ (by kernel_rfl) rfl)) (RowIs.cons (at_of_get (hold 65 _ (by kernel_rfl) rfl)) (RowIs.cons (at_of_get (hold 66 _ (by kernel_rfl) rfl)) (RowIs.cons (at_of_get (hold 67 _ (by kernel_rfl) rfl)) (RowIs.cons (at_of_get (hold 68 _ (by kernel_rfl) rfl)) (RowIs.cons (at_of_get (hold 69 _ (by kernel_rfl) rfl)) (RowIs.cons (at_of_get (hold 70 _ (by kernel_rfl) rfl)) (RowIs.cons (at_of_get (hold 71 _ (by kernel_rfl) rfl)) (RowIs.cons (at_of_get (hold 72 _ (by kernel_rfl) rfl)) (RowIs.cons (at_of_get (hold 73 _ (by kernel_rfl) rfl)) (RowIs.cons (at_of_get (hold 74 _ (by kernel_rfl) rfl)) (RowIs.cons (at_of_get (hold 75 _ (by kernel_rfl) rfl)) (RowIs.cons (at_of_get (hold 76 _ (by kernel_rfl) rfl)) (RowIs.cons (hvals 0 77 rfl) (RowIs.cons (hvals 1 78 rfl) (RowIs.cons (hvals 2 79 rfl) (RowIs.cons (hvals 3 80 rfl) (RowIs.cons hv81 (RowIs.cons (hvals 5 82 rfl) (RowIs.cons (hvals 6 83 rfl) (RowIs.cons (hvals 7 84 rfl) (RowIs.cons (hvals 8 85 rfl) (RowIs.cons (hvals 9 86 rfl) (RowIs.cons (hvals 10 87 rfl) (RowIs.cons (hvals 11 88 rfl) (RowIs.cons hv89 (RowIs.cons (hvals 13 90 rfl) (RowIs.cons (hvals 14 91 rfl) (RowIs.cons (hvals 15 92 rfl) (RowIs.cons (hvals 16 93 rfl) (RowIs.cons (hvals 17 94 rfl) (RowIs.cons (hvals 18 95 rfl) (RowIs.cons (hvals 19 96 rfl) (RowIs.cons (hvals 20 97 rfl) (RowIs.cons hv98 (RowIs.cons (hvals 22 99 rfl) (RowIs.cons (hvals 23 100 rfl) (RowIs.cons (hvals 24 101 rfl) (RowIs.cons (hvals 25 102 rfl) (RowIs.cons (hvals 26 103 rfl) (RowIs.cons (hvals 27 104 rfl) (RowIs.cons (hvals 28 105 rfl) (RowIs.cons (hvals 29 106 rfl) (RowIs.cons (hvals 30 107 rfl) (RowIs.cons (hvals 31 108 rfl) (RowIs.cons (hvals 32 109 rfl) (RowIs.cons (at_of_get (hold 110 _ (by kernel_rfl) rfl)) (RowIs.cons (at_of_get (hold 111 _ (by kernel_rfl) rfl)) (RowIs.cons (at_of_get (hold 112 _ (by kernel_rfl) rfl)) (RowIs.cons (at_of_get (hold 113 _ (by kernel_rfl) rfl)) (RowIs.cons (at_of_get (hold 114 _ (by kernel_rfl) rfl)) (RowIs.cons (at_of_get (hold 115 _ (by kernel_rfl) rfl)) (RowIs.cons (at_of_get (hold 116 _ (by kernel_rfl) rfl)) (RowIs.cons (at_of_get (hold 117 _ (by kernel_rfl) rfl)) (RowIs.cons (at_of_get (hold 118 _ (by kernel_rfl) rfl)) (RowIs.cons (at_of_get (hold 119 _ (by kernel_rfl) rfl)) (RowIs.cons (at_of_get (hold 120 _ (by kernel_rfl) rfl)) (RowIs.cons (at_of_get (hold 121 _ (by kernel_rfl) rfl)) (RowIs.cons (at_of_get (hold 122 _ (by kernel_rfl) rfl)) (RowIs.cons (at_of_get (hold 123 _ (by kernel_rfl) rfl)) (RowIs.cons (at_of_get (hold 124 _ (by kernel_rfl) rfl)) (RowIs.cons (at_of_get (hold 125 _ (by kernel_rfl) rfl)) (RowIs.cons (at_of_get (hold 126 _ (by kernel_rfl) rfl)) (RowIs.cons (at_of_get (hold 127 _ (by kernel_rfl) rfl)) (RowIs.cons (at_of_get (hold 128 _ (by kernel_rfl) rfl)) (RowIs.cons (at_of_get (hold 129 _ (by kernel_rfl) rfl)) (RowIs.cons (at_of_get (hold 130 _ (by kernel_rfl) rfl)) (RowIs.cons (at_of_get (hold 131 _ (by kernel_rfl) rfl)) (RowIs.cons (at_of_get (hold 132 _ (by kernel_rfl) rfl)) (RowIs.cons (at_of_get (hold 133 _ (by kernel_rfl) rfl)) (RowIs.cons (at_of_get (hold 134 _ (by kernel_rfl) rfl)) (RowIs.cons (at_of_get (hold 135 _ (by kernel_rfl) rfl)) (RowIs.cons (at_of_get (hold 136 _ (by kernel_rfl) rfl)) (RowIs.cons (at_of_get (hold 137 _ (by kernel_rfl) rfl)) (RowIs.cons (at_of_get (hold 138 _ (by kernel_rfl) rfl)) (RowIs.cons (at_of_get (hold 139 _ (by kernel_rfl) rfl)) (RowIs.cons (at_of_get (hold 140 _ (by kernel_rfl) rfl)) (RowIs.cons (at_of_get (hold 141 _ (by kernel_rfl) rfl)) (RowIs.cons (at_of_get (hold 142 _ (by kernel_rfl) rfl)) (RowIs.cons (at_of_get (hold 143 _ (by kernel_rfl) rfl)) (RowIs.cons (at_of_get (hold 144 _ (by kernel_rfl) rfl)) (RowIs.cons (at_of_get (hold 145 _ (by kernel_rfl) rfl)) (RowIs.nil _ _))))))))))))))))))))))))))))))))))))))))))))))))))))))))))))))))))))))))))))))))))))))))))))))))))))))))))))))))))))))))))))))))))))))))))))))))))) rfl
          clear hsz hdf hold hvals
          subst ha
          try simp only [List.getElem_toArray, List.getElem_cons_succ, List.getElem_cons_zero]
          replace u4 := u4.trans_nil hS
          replace hA := hA.upd_nil hS
          replace hB := hB.upd_nil hS
          replace hC := hC.upd_nil hS
          clear hS a0 a1 b0 b1 c0 c1
          obtain ⟨wq6, rfl⟩ : ∃ wq, wq = w' := ⟨_, rfl⟩
          have a0 := hA.cell 0 rfl
          have a1 := hA.cell 1 rfl
          have b0 := hB.cell 0 rfl
          have b1 := hB.cell 1 rfl
          have c0 := hC.cell 0 rfl
          have c1 := hC.cell 1 rfl
          go_upto_region 7 with fail
          refine wp_region_spec [(.eq (.bool true)), (.eq (.bool true)), (.eq (.bool true)), (.eq (.bool true)), (.eq (.bool true)), (.eq (.bool true)), (.eq (.bool true)), (.eq (.bool true)), (.eq (.agg #[.int .i64 x, .int .u32 P])), (.sl 1 1 [.int .i64 x, .int .u32 P] 24), (.eq (.agg #[.int .i64 x, .int .u32 P])), (.eq (.agg #[.int .i64 x, .int .u32 P])), (.eq (.bool true)), (.eq (.bool true)), (.eq (.bool true)), (.eq (.agg #[.int .i64 0, .int .u32 0])), (.eq (.agg #[.int .i64 0, .int .u32 0])), (.eq (.bool true)), (.eq (.bool true)), (.eq (.bool true)), (.eq (.agg #[.int .i64 x, .int .u32 P])), (.eq (.agg #[.int .i64 y, .int .u32 Q])), (.eq (.agg #[.int .i64 z, .int .u32 R])), (.sl 2 2 [.int .i64 y, .int .u32 Q, .int .i64 z, .int .u32 R] 24), (.eq (.agg #[.int .i64 JBl, .int .u32 JBp])), (.eq (.agg #[.int .i64 Vl, .int .u32 Vp])), (.eq (.agg #[.int .i64 x, .int .u32 P])), (.eq (.agg #[.int .i64 y, .int .u32 Q])), (.eq (.agg #[.int .i64 Ml, .int .u32 Mp])), (.eq (.agg #[.int .i64 x, .int .u32 P])), (.eq (.agg #[.int .i64 z, .int .u32 R])), (.eq (.agg #[.int .i64 MCl, .int .u32 MCp])), (.sl 2 2 [.int .i64 Ml, .int .u32 Mp, .int .i64 MCl, .int .u32 MCp] 24), (.eq (.agg #[.int .i64 Vl, .int .u32 Vp])), (.eq (.bool true)), (.eq (.bool true)), (.eq (.bool true))] (by kernel_rfl) (by kernel_rfl) rfl ?step ?fin
          case step =>
            intro i o ho a w' hS hold hneed K' hK
            match i, ho with
            | 0, ho =>
              obtain rfl := Option.some.inj ho
              have d7 := hold 7 _ (by kernel_rfl) rfl
              clear hold hneed ho
              (go_simp; (first | exact hK _ _ rfl (Upd.refl [] _) | exact hK _ _ (fun h => Bool.noConfusion h) (Upd.refl [] _) | exact hK _ _ (fun _ => rfl) (Upd.refl [] _)))
            | 1, ho =>
              obtain rfl := Option.some.inj ho
              have d110 := get_of_at (hneed 0 (of_decide_eq_true (by kernel_rfl)) 110 rfl) (by simp [undef])
              clear hold hneed ho
              (go_simp; (first | exact hK _ _ rfl (Upd.refl [] _) | exact hK _ _ (fun h => Bool.noConfusion h) (Upd.refl [] _) | exact hK _ _ (fun _ => rfl) (Upd.refl [] _)))
            | 2, ho =>
              obtain rfl := Option.some.inj ho
              have d8 := hold 8 _ (by kernel_rfl) rfl
              have d111 := get_of_at (hneed 1 (of_decide_eq_true (by kernel_rfl)) 111 rfl) (by simp [undef])
              clear hold hneed ho
              (go_simp; (first | exact hK _ _ rfl (Upd.refl [] _) | exact hK _ _ (fun h => Bool.noConfusion h) (Upd.refl [] _) | exact hK _ _ (fun _ => rfl) (Upd.refl [] _)))
            | 3, ho =>
              obtain rfl := Option.some.inj ho
              have d111 := get_of_at (hneed 1 (of_decide_eq_true (by kernel_rfl)) 111 rfl) (by simp [undef])
              have d112 := get_of_at (hneed 2 (of_decide_eq_true (by kernel_rfl)) 112 rfl) (by simp [undef])
              clear hold hneed ho
              (go_simp; (first | exact hK _ _ rfl (Upd.refl [] _) | exact hK _ _ (fun h => Bool.noConfusion h) (Upd.refl [] _) | exact hK _ _ (fun _ => rfl) (Upd.refl [] _)))
            | 4, ho =>
              obtain rfl := Option.some.inj ho
              have d113 := get_of_at (hneed 3 (of_decide_eq_true (by kernel_rfl)) 113 rfl) (by simp [undef])
              clear hold hneed ho
              (go_simp; (first | exact hK _ _ rfl (Upd.refl [] _) | exact hK _ _ (fun h => Bool.noConfusion h) (Upd.refl [] _) | exact hK _ _ (fun _ => rfl) (Upd.refl [] _)))
            | 5, ho =>
              obtain rfl := Option.some.inj ho
              have d9 := hold 9 _ (by kernel_rfl) rfl
              have d114 := get_of_at (hneed 4 (of_decide_eq_true (by kernel_rfl)) 114 rfl) (by simp [undef])
              clear hold hneed ho
              (go_simp; (first | exact hK _ _ rfl (Upd.refl [] _) | exact hK _ _ (fun h => Bool.noConfusion h) (Upd.refl [] _) | exact hK _ _ (fun _ => rfl) (Upd.refl [] _)))
            | 6, ho =>
              obtain rfl := Option.some.inj ho
              have d114 := get_of_at (hneed 4 (of_decide_eq_true (by kernel_rfl)) 114 rfl) (by simp [undef])
              have d115 := get_of_at (hneed 5 (of_decide_eq_true (by kernel_rfl)) 115 rfl) (by simp [undef])
              clear hold hneed ho
              (go_simp; (first | exact hK _ _ rfl (Upd.refl [] _) | exact hK _ _ (fun h => Bool.noConfusion h) (Upd.refl [] _) | exact hK _ _ (fun _ => rfl) (Upd.refl [] _)))
            | 7, ho =>
              obtain rfl := Option.some.inj ho
              have d116 := get_of_at (hneed 6 (of_decide_eq_true (by kernel_rfl)) 116 rfl) (by simp [undef])
              clear hold hneed ho
              (go_simp; (first | exact hK _ _ rfl (Upd.refl [] _) | exact hK _ _ (fun h => Bool.noConfusion h) (Upd.refl [] _) | exact hK _ _ (fun _ => rfl) (Upd.refl [] _)))
            | 8, ho =>
              obtain rfl := Option.some.inj ho
              have d3 := hold 3 _ (by kernel_rfl) rfl
              have d117 := get_of_at (hneed 7 (of_decide_eq_true (by kernel_rfl)) 117 rfl) (by simp [undef])
              clear hold hneed ho
              (have p0 := (hS.cell hA.lt (by simp)).trans a0; have p1 := (hS.cell hA.lt (by simp)).trans a1; go_simp; (first | exact hK _ _ rfl (Upd.refl [] _) | exact hK _ _ (fun h => Bool.noConfusion h) (Upd.refl [] _) | exact hK _ _ (fun _ => rfl) (Upd.refl [] _)))
            | 9, ho =>
              obtain rfl := Option.some.inj ho
              have d118 := get_of_at (hneed 8 (of_decide_eq_true (by kernel_rfl)) 118 rfl) (by simp [undef])
              have d117 := get_of_at (hneed 7 (of_decide_eq_true (by kernel_rfl)) 117 rfl) (by simp [undef])
              clear hold hneed ho
              (go_simp; exact hK _ _ ⟨_, rfl, Blk.new _ _ _⟩ ((Upd.refl [] _).alloc _))
            | 10, ho =>
              obtain rfl := Option.some.inj ho
              obtain ⟨b119, e119, hB119⟩ := hneed 9 (of_decide_eq_true (by kernel_rfl)) 119 rfl
              have d119 := get_of_at e119 (by simp [undef])
              have d117 := get_of_at (hneed 7 (of_decide_eq_true (by kernel_rfl)) 117 rfl) (by simp [undef])
              clear hold hneed ho
              (go_simp; refine (vjoin (LabsAt.one (x := (x, P)) hB119) 1 (by simp [maxLen]) (bd_1 ha)).mono ?_; rw [HJ120.out]; unfold labV; rintro e w3 ⟨rfl, hu3⟩; exact hK _ _ rfl hu3)
            | 11, ho =>
              obtain rfl := Option.some.inj ho
              have d3 := hold 3 _ (by kernel_rfl) rfl
              have d117 := get_of_at (hneed 7 (of_decide_eq_true (by kernel_rfl)) 117 rfl) (by simp [undef])
              clear hold hneed ho
              (have p0 := (hS.cell hA.lt (by simp)).trans a0; have p1 := (hS.cell hA.lt (by simp)).trans a1; go_simp; (first | exact hK _ _ rfl (Upd.refl [] _) | exact hK _ _ (fun h => Bool.noConfusion h) (Upd.refl [] _) | exact hK _ _ (fun _ => rfl) (Upd.refl [] _)))
            | 12, ho =>
              obtain rfl := Option.some.inj ho
              have d120 := get_of_at (hneed 10 (of_decide_eq_true (by kernel_rfl)) 120 rfl) (by simp [undef])
              have d121 := get_of_at (hneed 11 (of_decide_eq_true (by kernel_rfl)) 121 rfl) (by simp [undef])
              have d117 := get_of_at (hneed 7 (of_decide_eq_true (by kernel_rfl)) 117 rfl) (by simp [undef])
              clear hold hneed ho
              (go_simp; (first | exact hK _ _ rfl (Upd.refl [] _) | exact hK _ _ (fun h => Bool.noConfusion h) (Upd.refl [] _) | exact hK _ _ (fun _ => rfl) (Upd.refl [] _)))
            | 13, ho =>
              obtain rfl := Option.some.inj ho
              have d117 := get_of_at (hneed 7 (of_decide_eq_true (by kernel_rfl)) 117 rfl) (by simp [undef])
              have d122 := get_of_at (hneed 12 (of_decide_eq_true (by kernel_rfl)) 122 rfl) (by simp [undef])
              clear hold hneed ho
              (go_simp; (first | exact hK _ _ rfl (Upd.refl [] _) | exact hK _ _ (fun h => Bool.noConfusion h) (Upd.refl [] _) | exact hK _ _ (fun _ => rfl) (Upd.refl [] _)))
            | 14, ho =>
              obtain rfl := Option.some.inj ho
              have d123 := get_of_at (hneed 13 (of_decide_eq_true (by kernel_rfl)) 123 rfl) (by simp [undef])
              clear hold hneed ho
              (go_simp; (first | exact hK _ _ rfl (Upd.refl [] _) | exact hK _ _ (fun h => Bool.noConfusion h) (Upd.refl [] _) | exact hK _ _ (fun _ => rfl) (Upd.refl [] _)))
            | 15, ho =>
              obtain rfl := Option.some.inj ho
              have d124 := get_of_at (hneed 14 (of_decide_eq_true (by kernel_rfl)) 124 rfl) (by simp [undef])
              clear hold hneed ho
              (go_simp; refine (vjoin (LabsAt.nil _ _) 0 (by simp [maxLen]) (by simp)).mono ?_; unfold labV; rintro e w3 ⟨rfl, hu3⟩; exact hK _ _ rfl hu3)
            | 16, ho =>
              obtain rfl := Option.some.inj ho
              have d124 := get_of_at (hneed 14 (of_decide_eq_true (by kernel_rfl)) 124 rfl) (by simp [undef])
              clear hold hneed ho
              (go_simp; refine (vatI 0 0 (by decide) _).mono ?_; rintro e w3 ⟨rfl, hu3⟩; exact hK _ _ rfl hu3)
            | 17, ho =>
              obtain rfl := Option.some.inj ho
              have d125 := get_of_at (hneed 15 (of_decide_eq_true (by kernel_rfl)) 125 rfl) (by simp [undef])
              have d126 := get_of_at (hneed 16 (of_decide_eq_true (by kernel_rfl)) 126 rfl) (by simp [undef])
              have d124 := get_of_at (hneed 14 (of_decide_eq_true (by kernel_rfl)) 124 rfl) (by simp [undef])
              clear hold hneed ho
              (go_simp; (first | exact hK _ _ rfl (Upd.refl [] _) | exact hK _ _ (fun h => Bool.noConfusion h) (Upd.refl [] _) | exact hK _ _ (fun _ => rfl) (Upd.refl [] _)))
            | 18, ho =>
              obtain rfl := Option.some.inj ho
              have d124 := get_of_at (hneed 14 (of_decide_eq_true (by kernel_rfl)) 124 rfl) (by simp [undef])
              have d127 := get_of_at (hneed 17 (of_decide_eq_true (by kernel_rfl)) 127 rfl) (by simp [undef])
              clear hold hneed ho
              (go_simp; (first | exact hK _ _ rfl (Upd.refl [] _) | exact hK _ _ (fun h => Bool.noConfusion h) (Upd.refl [] _) | exact hK _ _ (fun _ => rfl) (Upd.refl [] _)))
            | 19, ho =>
              obtain rfl := Option.some.inj ho
              have d128 := get_of_at (hneed 18 (of_decide_eq_true (by kernel_rfl)) 128 rfl) (by simp [undef])
              clear hold hneed ho
              (go_simp; (first | exact hK _ _ rfl (Upd.refl [] _) | exact hK _ _ (fun h => Bool.noConfusion h) (Upd.refl [] _) | exact hK _ _ (fun _ => rfl) (Upd.refl [] _)))
            | 20, ho =>
              obtain rfl := Option.some.inj ho
              have d3 := hold 3 _ (by kernel_rfl) rfl
              have d129 := get_of_at (hneed 19 (of_decide_eq_true (by kernel_rfl)) 129 rfl) (by simp [undef])
              clear hold hneed ho
              (have p0 := (hS.cell hA.lt (by simp)).trans a0; have p1 := (hS.cell hA.lt (by simp)).trans a1; go_simp; (first | exact hK _ _ rfl (Upd.refl [] _) | exact hK _ _ (fun h => Bool.noConfusion h) (Upd.refl [] _) | exact hK _ _ (fun _ => rfl) (Upd.refl [] _)))
            | 21, ho =>
              obtain rfl := Option.some.inj ho
              have d4 := hold 4 _ (by kernel_rfl) rfl
              have d129 := get_of_at (hneed 19 (of_decide_eq_true (by kernel_rfl)) 129 rfl) (by simp [undef])
              clear hold hneed ho
              (have p0 := (hS.cell hB.lt (by simp)).trans b0; have p1 := (hS.cell hB.lt (by simp)).trans b1; go_simp; (first | exact hK _ _ rfl (Upd.refl [] _) | exact hK _ _ (fun h => Bool.noConfusion h) (Upd.refl [] _) | exact hK _ _ (fun _ => rfl) (Upd.refl [] _)))
            | 22, ho =>
              obtain rfl := Option.some.inj ho
              have d5 := hold 5 _ (by kernel_rfl) rfl
              have d129 := get_of_at (hneed 19 (of_decide_eq_true (by kernel_rfl)) 129 rfl) (by simp [undef])
              clear hold hneed ho
              (have p0 := (hS.cell hC.lt (by simp)).trans c0; have p1 := (hS.cell hC.lt (by simp)).trans c1; go_simp; (first | exact hK _ _ rfl (Upd.refl [] _) | exact hK _ _ (fun h => Bool.noConfusion h) (Upd.refl [] _) | exact hK _ _ (fun _ => rfl) (Upd.refl [] _)))
            | 23, ho =>
              obtain rfl := Option.some.inj ho
              have d131 := get_of_at (hneed 21 (of_decide_eq_true (by kernel_rfl)) 131 rfl) (by simp [undef])
              have d132 := get_of_at (hneed 22 (of_decide_eq_true (by kernel_rfl)) 132 rfl) (by simp [undef])
              have d129 := get_of_at (hneed 19 (of_decide_eq_true (by kernel_rfl)) 129 rfl) (by simp [undef])
              clear hold hneed ho
              (go_simp; exact hK _ _ ⟨_, rfl, Blk.new _ _ _⟩ ((Upd.refl [] _).alloc _))
            | 24, ho =>
              obtain rfl := Option.some.inj ho
              obtain ⟨b133, e133, hB133⟩ := hneed 23 (of_decide_eq_true (by kernel_rfl)) 133 rfl
              have d133 := get_of_at e133 (by simp [undef])
              have d129 := get_of_at (hneed 19 (of_decide_eq_true (by kernel_rfl)) 129 rfl) (by simp [undef])
              clear hold hneed ho
              (go_simp; refine (vjoin (LabsAt.two (x := (y, Q)) (y := (z, R)) hB133) 2 (by simp [maxLen]) (bd_2 hb hc)).mono ?_; rw [HJ134.out]; unfold labV; rintro e w3 ⟨rfl, hu3⟩; exact hK _ _ rfl hu3)
            | 25, ho =>
              obtain rfl := Option.some.inj ho
              have d130 := get_of_at (hneed 20 (of_decide_eq_true (by kernel_rfl)) 130 rfl) (by simp [undef])
              have d134 := get_of_at (hneed 24 (of_decide_eq_true (by kernel_rfl)) 134 rfl) (by simp [undef])
              have d129 := get_of_at (hneed 19 (of_decide_eq_true (by kernel_rfl)) 129 rfl) (by simp [undef])
              clear hold hneed ho
              (go_simp; refine (vmeet (x, P) (JBl, JBp) ha hJBp _).mono ?_; rw [HM135.out]; unfold labV; rintro e w3 ⟨rfl, hu3⟩; exact hK _ _ rfl hu3)
            | 26, ho =>
              obtain rfl := Option.some.inj ho
              have d3 := hold 3 _ (by kernel_rfl) rfl
              have d129 := get_of_at (hneed 19 (of_decide_eq_true (by kernel_rfl)) 129 rfl) (by simp [undef])
              clear hold hneed ho
              (have p0 := (hS.cell hA.lt (by simp)).trans a0; have p1 := (hS.cell hA.lt (by simp)).trans a1; go_simp; (first | exact hK _ _ rfl (Upd.refl [] _) | exact hK _ _ (fun h => Bool.noConfusion h) (Upd.refl [] _) | exact hK _ _ (fun _ => rfl) (Upd.refl [] _)))
            | 27, ho =>
              obtain rfl := Option.some.inj ho
              have d4 := hold 4 _ (by kernel_rfl) rfl
              have d129 := get_of_at (hneed 19 (of_decide_eq_true (by kernel_rfl)) 129 rfl) (by simp [undef])
              clear hold hneed ho
              (have p0 := (hS.cell hB.lt (by simp)).trans b0; have p1 := (hS.cell hB.lt (by simp)).trans b1; go_simp; (first | exact hK _ _ rfl (Upd.refl [] _) | exact hK _ _ (fun h => Bool.noConfusion h) (Upd.refl [] _) | exact hK _ _ (fun _ => rfl) (Upd.refl [] _)))
            | 28, ho =>
              obtain rfl := Option.some.inj ho
              have d136 := get_of_at (hneed 26 (of_decide_eq_true (by kernel_rfl)) 136 rfl) (by simp [undef])
              have d137 := get_of_at (hneed 27 (of_decide_eq_true (by kernel_rfl)) 137 rfl) (by simp [undef])
              have d129 := get_of_at (hneed 19 (of_decide_eq_true (by kernel_rfl)) 129 rfl) (by simp [undef])
              clear hold hneed ho
              (go_simp; refine (vmeet (x, P) (y, Q) ha hb _).mono ?_; rw [HM138.out]; unfold labV; rintro e w3 ⟨rfl, hu3⟩; exact hK _ _ rfl hu3)
            | 29, ho =>
              obtain rfl := Option.some.inj ho
              have d3 := hold 3 _ (by kernel_rfl) rfl
              have d129 := get_of_at (hneed 19 (of_decide_eq_true (by kernel_rfl)) 129 rfl) (by simp [undef])
              clear hold hneed ho
              (have p0 := (hS.cell hA.lt (by simp)).trans a0; have p1 := (hS.cell hA.lt (by simp)).trans a1; go_simp; (first | exact hK _ _ rfl (Upd.refl [] _) | exact hK _ _ (fun h => Bool.noConfusion h) (Upd.refl [] _) | exact hK _ _ (fun _ => rfl) (Upd.refl [] _)))
            | 30, ho =>
              obtain rfl := Option.some.inj ho
              have d5 := hold 5 _ (by kernel_rfl) rfl
              have d129 := get_of_at (hneed 19 (of_decide_eq_true (by kernel_rfl)) 129 rfl) (by simp [undef])
              clear hold hneed ho
              (have p0 := (hS.cell hC.lt (by simp)).trans c0; have p1 := (hS.cell hC.lt (by simp)).trans c1; go_simp; (first | exact hK _ _ rfl (Upd.refl [] _) | exact hK _ _ (fun h => Bool.noConfusion h) (Upd.refl [] _) | exact hK _ _ (fun _ => rfl) (Upd.refl [] _)))
            | 31, ho =>
              obtain rfl := Option.some.inj ho
              have d139 := get_of_at (hneed 29 (of_decide_eq_true (by kernel_rfl)) 139 rfl) (by simp [undef])
              have d140 := get_of_at (hneed 30 (of_decide_eq_true (by kernel_rfl)) 140 rfl) (by simp [undef])
              have d129 := get_of_at (hneed 19 (of_decide_eq_true (by kernel_rfl)) 129 rfl) (by simp [undef])
              clear hold hneed ho
              (go_simp; refine (vmeet (x, P) (z, R) ha hc _).mono ?_; rw [HM141.out]; unfold labV; rintro e w3 ⟨rfl, hu3⟩; exact hK _ _ rfl hu3)
            | 32, ho =>
              obtain rfl := Option.some.inj ho
              have d138 := get_of_at (hneed 28 (of_decide_eq_true (by kernel_rfl)) 138 rfl) (by simp [undef])
              have d141 := get_of_at (hneed 31 (of_decide_eq_true (by kernel_rfl)) 141 rfl) (by simp [undef])
              have d129 := get_of_at (hneed 19 (of_decide_eq_true (by kernel_rfl)) 129 rfl) (by simp [undef])
              clear hold hneed ho
              (go_simp; exact hK _ _ ⟨_, rfl, Blk.new _ _ _⟩ ((Upd.refl [] _).alloc _))
            | 33, ho =>
              obtain rfl := Option.some.inj ho
              obtain ⟨b142, e142, hB142⟩ := hneed 32 (of_decide_eq_true (by kernel_rfl)) 142 rfl
              have d142 := get_of_at e142 (by simp [undef])
              have d129 := get_of_at (hneed 19 (of_decide_eq_true (by kernel_rfl)) 129 rfl) (by simp [undef])
              clear hold hneed ho
              (go_simp; refine (vjoin (LabsAt.two (x := (Ml, Mp)) (y := (MCl, MCp)) hB142) 2 (by simp [maxLen]) (bd_2 hMp hMCp)).mono ?_; rw [HJ143.out]; unfold labV; rintro e w3 ⟨rfl, hu3⟩; exact hK _ _ rfl hu3)
            | 34, ho =>
              obtain rfl := Option.some.inj ho
              have d135 := get_of_at (hneed 25 (of_decide_eq_true (by kernel_rfl)) 135 rfl) (by simp [undef])
              have d143 := get_of_at (hneed 33 (of_decide_eq_true (by kernel_rfl)) 143 rfl) (by simp [undef])
              have d129 := get_of_at (hneed 19 (of_decide_eq_true (by kernel_rfl)) 129 rfl) (by simp [undef])
              clear hold hneed ho
              (go_simp; (first | exact hK _ _ rfl (Upd.refl [] _) | exact hK _ _ (fun h => Bool.noConfusion h) (Upd.refl [] _) | exact hK _ _ (fun _ => rfl) (Upd.refl [] _)))
            | 35, ho =>
              obtain rfl := Option.some.inj ho
              have d129 := get_of_at (hneed 19 (of_decide_eq_true (by kernel_rfl)) 129 rfl) (by simp [undef])
              have d144 := get_of_at (hneed 34 (of_decide_eq_true (by kernel_rfl)) 144 rfl) (by simp [undef])
              clear hold hneed ho
              (go_simp; (first | exact hK _ _ rfl (Upd.refl [] _) | exact hK _ _ (fun h => Bool.noConfusion h) (Upd.refl [] _) | exact hK _ _ (fun _ => rfl) (Upd.refl [] _)))
            | 36, ho =>
              obtain rfl := Option.some.inj ho
              have d145 := get_of_at (hneed 35 (of_decide_eq_true (by kernel_rfl)) 145 rfl) (by simp [undef])
              clear hold hneed ho
              (go_simp; (first | exact hK _ _ rfl (Upd.refl [] _) | exact hK _ _ (fun h => Bool.noConfusion h) (Upd.refl [] _) | exact hK _ _ (fun _ => rfl) (Upd.refl [] _)))
            | _ + 37, ho => exact absurd ho (by simp)
          case fin =>
            intro a w' hS hsz hdf hold hvals
            obtain ⟨b119, hv119, hB119⟩ := hvals 9 119 rfl
            obtain ⟨b133, hv133, hB133⟩ := hvals 23 133 rfl
            obtain ⟨b142, hv142, hB142⟩ := hvals 32 142 rfl
            have ha := act_lit hsz hdf (RowIs.cons (at_of_get (hold 0 _ (by kernel_rfl) rfl)) (RowIs.cons (at_of_get (hold 1 _ (by kernel_rfl) rfl)) (RowIs.cons (at_of_get (hold 2 _ (by kernel_rfl) rfl)) (RowIs.cons (at_of_get (hold 3 _ (by kernel_rfl) rfl)) (RowIs.cons (at_of_get (hold 4 _ (by kernel_rfl) rfl)) (RowIs.cons (at_of_get (hold 5 _ (by kernel_rfl) rfl)) (RowIs.cons (hvals 36 6 rfl) (RowIs.cons (at_of_get (hold 7 _ (by kernel_rfl) rfl)) (RowIs.cons (at_of_get (hold 8 _ (by kernel_rfl) rfl)) (RowIs.cons (at_of_get (hold 9 _ (by kernel_rfl) rfl)) (RowIs.cons (at_of_get (hold 10 _ (by kernel_rfl) rfl)) (RowIs.cons (at_of_get (hold 11 _ (by kernel_rfl) rfl)) (RowIs.cons (at_of_get (hold 12 _ (by kernel_rfl) rfl)) (RowIs.cons (at_of_get (hold 13 _ (by kernel_rfl) rfl)) (RowIs.cons (at_of_get (hold 14 _ (by kernel_rfl) rfl)) (RowIs.cons (at_of_get (hold 15 _ (by kernel_rfl) rfl)) (RowIs.cons (at_of_get (hold 16 _ (by kernel_rfl) rfl)) (RowIs.cons (at_of_get (hold 17 _ (by kernel_rfl) rfl)) (RowIs.cons (at_of_get (hold 18 _ (by kernel_rfl) rfl)) (RowIs.cons (at_of_get (hold 19 _ (by kernel_rfl) rfl)) (RowIs.cons (at_of_get (hold 20 _ (by kernel_rfl) rfl)) (RowIs.cons (at_of_get (hold 21 _ (by kernel_rfl) rfl)) (RowIs.cons (at_of_get (hold 22 _ (by kernel_rfl) rfl)) (RowIs.cons (at_of_get (hold 23 _ (by kernel_rfl) rfl)) (RowIs.cons (at_of_get (hold 24 _ (by kernel_rfl) rfl)) (RowIs.cons (at_of_get (hold 25 _ (by kernel_rfl) rfl)) (RowIs.cons (at_of_get (hold 26 _ (by kernel_rfl) rfl)) (RowIs.cons (at_of_get (hold 27 _ (by kernel_rfl) rfl)) (RowIs.cons (at_of_get (hold 28 _ (by kernel_rfl) rfl)) (RowIs.cons (at_of_get (hold 29 _ (by kernel_rfl) rfl)) (RowIs.cons (at_of_get (hold 30 _ (by kernel_rfl) rfl)) (RowIs.cons (at_of_get (hold 31 _ (by kernel_rfl) rfl)) (RowIs.cons (at_of_get (hold 32 _ (by kernel_rfl) rfl)) (RowIs.cons (at_of_get (hold 33 _ (by kernel_rfl) rfl)) (RowIs.cons (at_of_get (hold 34 _ (by kernel_rfl) rfl)) (RowIs.cons (at_of_get (hold 35 _ (by kernel_rfl) rfl)) (RowIs.cons (at_of_get (hold 36 _ (by kernel_rfl) rfl)) (RowIs.cons (at_of_get (hold 37 _ (by kernel_rfl) rfl)) (RowIs.cons (at_of_get (hold 38 _ (by kernel_rfl) rfl)) (RowIs.cons (at_of_get (hold 39 _ (by kernel_rfl) rfl)) (RowIs.cons (at_of_get (hold 40 _ (by kernel_rfl) rfl)) (RowIs.cons (at_of_get (hold 41 _ (by kernel_rfl) rfl)) (RowIs.cons (at_of_get (hold 42 _ (by kernel_rfl) rfl)) (RowIs.cons (at_of_get (hold 43 _ (by kernel_rfl) rfl)) (RowIs.cons (at_of_get (hold 44 _ (by kernel_rfl) rfl)) (RowIs.cons (at_of_get (hold 45 _ (by kernel_rfl) rfl)) (RowIs.cons (at_of_get (hold 46 _ (by kernel_rfl) rfl)) (RowIs.cons (at_of_get (hold 47 _ (by kernel_rfl) rfl)) (RowIs.cons (at_of_get (hold 48 _ (by kernel_rfl) rfl)) (RowIs.cons (at_of_get (hold 49 _ (by kernel_rfl) rfl)) (RowIs.cons (at_of_get (hold 50 _ (by kernel_rfl) rfl)) (RowIs.cons (at_of_get (hold 51 _ (by kernel_rfl) rfl)) (RowIs.cons (at_of_get (hold 52 _ (by kernel_rfl) rfl)) (RowIs.cons (at_of_get (hold 53 _ (by kernel_rfl) rfl)) (RowIs.cons (at_of_get (hold 54 _ (by kernel_rfl) rfl)) (RowIs.cons (at_of_get (hold 55 _ (by kernel_rfl) rfl)) (RowIs.cons (at_of_get (hold 56 _ (by kernel_rfl) rfl)) (RowIs.cons (at_of_get (hold 57 _ (by kernel_rfl) rfl)) (RowIs.cons (at_of_get (hold 58 _ (by kernel_rfl) rfl)) (RowIs.cons (at_of_get (hold 59 _ (by kernel_rfl) rfl)) (RowIs.cons (at_of_get (hold 60 _ (by kernel_rfl) rfl)) (RowIs.cons (at_of_get (hold 61 _ (by kernel_rfl) rfl)) (RowIs.cons (at_of_get (hold 62 _ (by kernel_rfl) rfl)) (RowIs.cons (at_of_get (hold 63 _ (by kernel_rfl) rfl)) (RowIs.cons (at_of_get (hold 64 _ (by kernel_rfl) rfl)) (RowIs.cons (at_of_get (hold 65 _ (by kernel_rfl) rfl)) (RowIs.cons (at_of_get (hold 66 _ (by kernel_rfl) rfl)) (RowIs.cons (at_of_get (hold 67 _ (by kernel_rfl) rfl)) (RowIs.cons (at_of_get (hold 68 _ (by kernel_rfl) rfl)) (RowIs.cons (at_of_get (hold 69 _ (by kernel_rfl) rfl)) (RowIs.cons (at_of_get (hold 70 _ (by kernel_rfl) rfl)) (RowIs.cons (at_of_get (hold 71 _ (by kernel_rfl) rfl)) (RowIs.cons (at_of_get (hold 72 _ (by kernel_rfl) rfl)) (RowIs.cons (at_of_get (hold 73 _ (by kernel_rfl) rfl)) (RowIs.cons (at_of_get (hold 74 _ (by kernel_rfl) rfl)) (RowIs.cons (at_of_get (hold 75 _ (by kernel_rfl) rfl)) (RowIs.cons (at_of_get (hold 76 _ (by kernel_rfl) rfl)) (RowIs.cons (at_of_get (hold 77 _ (by kernel_rfl) rfl)) (RowIs.cons (at_of_get (hold 78 _ (by kernel_rfl) rfl)) (RowIs.cons (at_of_get (hold 79 _ (by kernel_rfl) rfl)) (RowIs.cons (at_of_get (hold 80 _ (by kernel_rfl) rfl)) (RowIs.cons (at_of_get (hold 81 _ (by kernel_rfl) rfl)) (RowIs.cons (at_of_get (hold 82 _ (by kernel_rfl) rfl)) (RowIs.cons (at_of_get (hold 83 _ (by kernel_rfl) rfl)) (RowIs.cons (at_of_get (hold 84 _ (by kernel_rfl) rfl)) (RowIs.cons (at_of_get (hold 85 _ (by kernel_rfl) rfl)) (RowIs.cons (at_of_get (hold 86 _ (by kernel_rfl) rfl)) (RowIs.cons (at_of_get (hold 87 _ (by kernel_rfl) rfl)) (RowIs.cons (at_of_get (hold 88 _ (by kernel_rfl) rfl)) (RowIs.cons (at_of_get (hold 89 _ (by kernel_rfl) rfl)) (RowIs.cons (at_of_get (hold 90 _ (by kernel_rfl) rfl)) (RowIs.cons (at_of_get (hold 91 _ (by kernel_rfl) rfl)) (RowIs.cons (at_of_get (hold 92 _ (by kernel_rfl) rfl)) (RowIs.cons (at_of_get (hold 93 _ (by kernel_rfl) rfl)) (RowIs.cons (at_of_get (hold 94 _ (by kernel_rfl) rfl)) (RowIs.cons (at_of_get (hold 95 _ (by kernel_rfl) rfl)) (RowIs.cons (at_of_get (hold 96 _ (by kernel_rfl) rfl)) (RowIs.cons (at_of_get (hold 97 _ (by kernel_rfl) rfl)) (RowIs.cons (at_of_get (hold 98 _ (by kernel_rfl) rfl)) (RowIs.cons (at_of_get (hold 99 _ (by kernel_rfl) rfl)) (RowIs.cons (at_of_get (hold 100 _ (by kernel_rfl) rfl)) (RowIs.cons (at_of_get (hold 101 _ (by kernel_rfl) rfl)) (RowIs.cons (at_of_get (hold 102 _ (by kernel_rfl) rfl)) (RowIs.cons (at_of_get (hold 103 _ (by kernel_rfl) rfl)) (RowIs.cons (at_of_get (hold 104 _ (by kernel_rfl) rfl)) (RowIs.cons (at_of_get (hold 105 _ (by kernel_rfl) rfl)) (RowIs.cons (at_of_get (hold 106 _ (by kernel_rfl) rfl)) (RowIs.cons (at_of_get (hold 107 _ (by kernel_rfl) rfl)) (RowIs.cons (at_of_get (hold 108 _ (by kernel_rfl) rfl)) (RowIs.cons (at_of_get (hold 109 _ (by kernel_rfl) rfl)) (RowIs.cons (hvals 0 110 rfl) (RowIs.cons (hvals 1 111 rfl) (RowIs.cons (hvals 2 112 rfl) (RowIs.cons (hvals 3 113 rfl) (RowIs.cons (hvals 4 114 rfl) (RowIs.cons (hvals 5 115 rfl) (RowIs.cons (hvals 6 116 rfl) (RowIs.cons (hvals 7 117 rfl) (RowIs.cons (hvals 8 118 rfl) (RowIs.cons hv119 (RowIs.cons (hvals 10 120 rfl) (RowIs.cons (hvals 11 121 rfl) (RowIs.cons (hvals 12 122 rfl) (RowIs.cons (hvals 13 123 rfl) (RowIs.cons (hvals 14 124 rfl) (RowIs.cons (hvals 15 125 rfl) (RowIs.cons (hvals 16 126 rfl) (RowIs.cons (hvals 17 127 rfl) (RowIs.cons (hvals 18 128 rfl) (RowIs.cons (hvals 19 129 rfl) (RowIs.cons (hvals 20 130 rfl) (RowIs.cons (hvals 21 131 rfl) (RowIs.cons (hvals 22 132 rfl) (RowIs.cons hv133 (RowIs.cons (hvals 24 134 rfl) (RowIs.cons (hvals 25 135 rfl) (RowIs.cons (hvals 26 136 rfl) (RowIs.cons (hvals 27 137 rfl) (RowIs.cons (hvals 28 138 rfl) (RowIs.cons (hvals 29 139 rfl) (RowIs.cons (hvals 30 140 rfl) (RowIs.cons (hvals 31 141 rfl) (RowIs.cons hv142 (RowIs.cons (hvals 33 143 rfl) (RowIs.cons (hvals 34 144 rfl) (RowIs.cons (hvals 35 145 rfl) (RowIs.nil _ _))))))))))))))))))))))))))))))))))))))))))))))))))))))))))))))))))))))))))))))))))))))))))))))))))))))))))))))))))))))))))))))))))))))))))))))))))) rfl
            clear hsz hdf hold hvals
            subst ha
            try simp only [List.getElem_toArray, List.getElem_cons_succ, List.getElem_cons_zero]
            go_wp2_with fail
            go_ret
            exact ⟨rfl, u4.trans_nil hS⟩

end Go.Proofs.YtpkllbnaoiggkaaDoor
