/- VeilBounds: the walk. -/
import Derived.Test.YtpkllbnaoiggkaaDoorVeM
import Derived.Test.YtpkllbnaoiggkaaDoorReh
namespace Go.Proofs.YtpkllbnaoiggkaaDoor
open Go.RowKit

theorem flowsL_may {a b : Lab} (ha : mayL a = true) (hb : mayL b = true) : flowsL a b = true ↔ a.1 ≤ b.1 ∧ subN a.2 b.2 := by
  rw [flowsL_iff]; simp [ha, hb]
theorem joinL_two (a b : Lab) (ha : mayL a = true) (hb : mayL b = true) : joinL [a, b] = (max a.1 b.1, a.2 ||| b.2) := by
  have h0 : max 0 a.1 = a.1 := by unfold mayL at ha; simp at ha; omega
  unfold joinL
  rw [if_pos (by simp [ha, hb])]
  simp [joinFold, h0]
theorem meetL_two (a b : Lab) (ha : mayL a = true) (hb : mayL b = true) : meetL a b = (min a.1 b.1, a.2 &&& b.2) := by
  unfold meetL; rw [if_pos ⟨ha, hb⟩]
theorem mayL_max' {o x : Lab} (ho : mayL o = true) (hx : mayL x = true) (p : Nat) : mayL (max o.1 x.1, p) = true := by
  unfold mayL at *; simp at *; omega
theorem mayL_min' {o x : Lab} (ho : mayL o = true) (hx : mayL x = true) (p : Nat) : mayL (min o.1 x.1, p) = true := by
  unfold mayL at *; simp at *; omega
theorem flows_join {a b c : Lab} (ha : mayL a = true) (hb : mayL b = true) (hc : mayL c = true) : flowsL (max a.1 b.1, a.2 ||| b.2) c = (flowsL a c && flowsL b c) := by
  rw [Bool.eq_iff_iff, Bool.and_eq_true, flowsL_may (mayL_max' ha hb _) hc, flowsL_may ha hc, flowsL_may hb hc]
  dsimp only
  rw [subN_or]
  constructor
  · rintro ⟨h1, h2, h3⟩; exact ⟨⟨by omega, h2⟩, by omega, h3⟩
  · rintro ⟨⟨h1, h2⟩, h3, h4⟩; exact ⟨by omega, h2, h4⟩
theorem flows_meet {a b c : Lab} (ha : mayL a = true) (hb : mayL b = true) (hc : mayL c = true) : flowsL c (min a.1 b.1, a.2 &&& b.2) = (flowsL c a && flowsL c b) := by
  rw [Bool.eq_iff_iff, Bool.and_eq_true, flowsL_may hc (mayL_min' ha hb _), flowsL_may hc ha, flowsL_may hc hb]
  dsimp only
  rw [subN_and]
  constructor
  · rintro ⟨h1, h2, h3⟩; exact ⟨⟨by omega, h2⟩, by omega, h3⟩
  · rintro ⟨⟨h1, h2⟩, h3, h4⟩; exact ⟨by omega, h2, h4⟩

set_option maxHeartbeats 8000000 in
set_option maxRecDepth 100000 in
theorem bounds_walk (a b c : Lab) (ha : a.2 < 4294967296) (hb : b.2 < 4294967296) (hc : c.2 < 4294967296) (ha1 : -9223372036854775808 ≤ a.1 ∧ a.1 ≤ 9223372036854775807) (hb1 : -9223372036854775808 ≤ b.1 ∧ b.1 ≤ 9223372036854775807) (hc1 : -9223372036854775808 ≤ c.1 ∧ c.1 ≤ 9223372036854775807) (w : World) (hO : LaidOk w) :
    Calls Tryd.prog 5 #[labV a, labV b, labV c] w fun e w' => e = .returned (.bool true) ∧ Upd [] w w' := by
  obtain ⟨L, P⟩ := a
  obtain ⟨M, Q⟩ := b
  obtain ⟨N, R⟩ := c
  dsimp only at *
  obtain ⟨⟨m, h1⟩, h5⟩ := hO
  have u2 := (((Upd.refl [] w).alloc (.cells #[.int .i64 L, .int .u32 P] 24)).alloc (.cells #[.int .i64 M, .int .u32 Q] 24)).alloc (.cells #[.int .i64 N, .int .u32 R] 24)
  have hA2 := ((Blk.new w #[.int .i64 L, .int .u32 P] 24).alloc (.cells #[.int .i64 M, .int .u32 Q] 24)).alloc (.cells #[.int .i64 N, .int .u32 R] 24)
  have hB2 := (Blk.new_at (w := w.alloc (.cells #[.int .i64 L, .int .u32 P] 24)) (cs := #[.int .i64 M, .int .u32 Q]) (l := [.int .i64 M, .int .u32 Q]) (T := 24) (n := w.heap.size + 1) (by simp) rfl).alloc (.cells #[.int .i64 N, .int .u32 R] 24)
  have hC2 := Blk.new_at (w := (w.alloc (.cells #[.int .i64 L, .int .u32 P] 24)).alloc (.cells #[.int .i64 M, .int .u32 Q] 24)) (cs := #[.int .i64 N, .int .u32 R]) (l := [.int .i64 N, .int .u32 R]) (T := 24) (n := w.heap.size + 2) (by simp) rfl
  go_enter Tryd.func5, Tryd.ntmps5
  unfold labV
  go_upto_region 1 with fail
  generalize ((w.alloc (.cells #[.int .i64 L, .int .u32 P] 24)).alloc (.cells #[.int .i64 M, .int .u32 Q] 24)).alloc (.cells #[.int .i64 N, .int .u32 R] 24) = W at *
  generalize hg : w.heap.size = t2 at *
  have z1 := (u2.cell (lt_of_cell h1) (by simp)).trans h1
  have z5 := (u2.cell (lt_of_cell h5) (by simp)).trans h5
  go_upto_region 3 with (go_at_call 17; refine (works_any _ m z1 z5).mono ?_; rintro e w3 ⟨rfl, hu3⟩)
  have u3 := u2.trans_nil hu3
  have hA3 := hA2.upd_nil hu3
  have hB3 := hB2.upd_nil hu3
  have hC3 := hC2.upd_nil hu3
  clear hA2 hB2 hC2 u2 z1 z5 hu3
  refine wp_region_blk [(.eq (.agg #[.int .i64 L, .int .u32 P])), (.eq (.agg #[.int .i64 (L % 8), .int .u32 P])), (.eq (.agg #[.int .i64 M, .int .u32 Q])), (.eq (.agg #[.int .i64 (M % 8), .int .u32 Q])), (.eq (.agg #[.int .i64 N, .int .u32 R])), (.eq (.agg #[.int .i64 (N % 8), .int .u32 R])), .any, .any, .any] [⟨6, (t2), ([.int .i64 L, .int .u32 P]), ([.int .i64 (L % 8), .int .u32 P]), (24)⟩, ⟨7, (t2 + 1), ([.int .i64 M, .int .u32 Q]), ([.int .i64 (M % 8), .int .u32 Q]), (24)⟩, ⟨8, (t2 + 1 + 1), ([.int .i64 N, .int .u32 R]), ([.int .i64 (N % 8), .int .u32 R]), (24)⟩] (by kernel_rfl) (by kernel_rfl) rfl ?ne ?pre ?step ?fin
  case ne => intro x hx y hy hxy; simp only [List.mem_cons, List.not_mem_nil, or_false] at hx hy; rcases hx with rfl | rfl | rfl <;> rcases hy with rfl | rfl | rfl <;> first | (exact absurd rfl hxy) | (dsimp only; omega)
  case pre => intro x hx; simp only [List.mem_cons, List.not_mem_nil, or_false] at hx; rcases hx with rfl | rfl | rfl <;> assumption
  case step =>
    intro i o ho a w' hS hold hneed hun K' hK
    match i, ho with
    | 0, ho =>
      obtain rfl := Option.some.inj ho
      have q6 := hun 6 (.inr (by kernel_rfl))
      have q7 := hun 7 (.inr (by kernel_rfl))
      have q8 := hun 8 (.inr (by kernel_rfl))
      replace hneed := fun j hj => (hneed j hj).2
      replace hK := fun v w1 h u => hK v w1 h trivial u
      clear hun
      have d3 := hold 3 _ (by kernel_rfl) rfl
      clear hold hneed ho
      (have p0 := q6.cell 0 rfl; have p1 := q6.cell 1 rfl; go_simp; exact hK _ _ rfl (Upd.refl [] _))
    | 1, ho =>
      obtain rfl := Option.some.inj ho
      have q6 := hun 6 (.inr (by kernel_rfl))
      have q7 := hun 7 (.inr (by kernel_rfl))
      have q8 := hun 8 (.inr (by kernel_rfl))
      replace hneed := fun j hj => (hneed j hj).2
      replace hK := fun v w1 h u => hK v w1 h trivial u
      clear hun
      have d13 := get_of_at (hneed 0 (of_decide_eq_true (by kernel_rfl)) 13 rfl) (by simp [undef])
      clear hold hneed ho
      (go_simp; refine (vnear L P _ ha1.1 ha1.2).mono ?_; rintro e w3 ⟨rfl, hu3⟩; exact hK _ _ rfl hu3)
    | 2, ho =>
      obtain rfl := Option.some.inj ho
      have q6 := hun 6 (.inr (by kernel_rfl))
      have q7 := hun 7 (.inr (by kernel_rfl))
      have q8 := hun 8 (.inr (by kernel_rfl))
      replace hneed := fun j hj => (hneed j hj).2
      replace hK := fun v w1 h u => hK v w1 h trivial u
      clear hun
      have d4 := hold 4 _ (by kernel_rfl) rfl
      clear hold hneed ho
      (have p0 := q7.cell 0 rfl; have p1 := q7.cell 1 rfl; go_simp; exact hK _ _ rfl (Upd.refl [] _))
    | 3, ho =>
      obtain rfl := Option.some.inj ho
      have q6 := hun 6 (.inr (by kernel_rfl))
      have q7 := hun 7 (.inr (by kernel_rfl))
      have q8 := hun 8 (.inr (by kernel_rfl))
      replace hneed := fun j hj => (hneed j hj).2
      replace hK := fun v w1 h u => hK v w1 h trivial u
      clear hun
      have d15 := get_of_at (hneed 2 (of_decide_eq_true (by kernel_rfl)) 15 rfl) (by simp [undef])
      clear hold hneed ho
      (go_simp; refine (vnear M Q _ hb1.1 hb1.2).mono ?_; rintro e w3 ⟨rfl, hu3⟩; exact hK _ _ rfl hu3)
    | 4, ho =>
      obtain rfl := Option.some.inj ho
      have q6 := hun 6 (.inr (by kernel_rfl))
      have q7 := hun 7 (.inr (by kernel_rfl))
      have q8 := hun 8 (.inr (by kernel_rfl))
      replace hneed := fun j hj => (hneed j hj).2
      replace hK := fun v w1 h u => hK v w1 h trivial u
      clear hun
      have d5 := hold 5 _ (by kernel_rfl) rfl
      clear hold hneed ho
      (have p0 := q8.cell 0 rfl; have p1 := q8.cell 1 rfl; go_simp; exact hK _ _ rfl (Upd.refl [] _))
    | 5, ho =>
      obtain rfl := Option.some.inj ho
      have q6 := hun 6 (.inr (by kernel_rfl))
      have q7 := hun 7 (.inr (by kernel_rfl))
      have q8 := hun 8 (.inr (by kernel_rfl))
      replace hneed := fun j hj => (hneed j hj).2
      replace hK := fun v w1 h u => hK v w1 h trivial u
      clear hun
      have d17 := get_of_at (hneed 4 (of_decide_eq_true (by kernel_rfl)) 17 rfl) (by simp [undef])
      clear hold hneed ho
      (go_simp; refine (vnear N R _ hc1.1 hc1.2).mono ?_; rintro e w3 ⟨rfl, hu3⟩; exact hK _ _ rfl hu3)
    | 6, ho =>
      obtain rfl := Option.some.inj ho
      have q6 := hun 6 (.inl rfl)
      have q7 := hun 7 (.inr (by kernel_rfl))
      have q8 := hun 8 (.inr (by kernel_rfl))
      change Blk _ _ _ _ at q6
      replace hneed := fun j hj => (hneed j hj).2
      clear hun
      have d3 := hold 3 _ (by kernel_rfl) rfl
      have d14 := get_of_at (hneed 1 (of_decide_eq_true (by kernel_rfl)) 14 rfl) (by simp [undef])
      clear hold hneed ho
      (have p0 := q6.cell 0 rfl; have p1 := q6.cell 1 rfl; have f0 := q6.free 0; have f1 := q6.free 1; go_simp; exact hK undef _ trivial ((q6.set 0 _).set 1 _) (((Upd.refl _ _).setCell (Or.inl (by simp [effOf, BE.eff])) _).setCell (Or.inl (by simp [effOf, BE.eff])) _))
    | 7, ho =>
      obtain rfl := Option.some.inj ho
      have r6 := (hneed 6 (of_decide_eq_true (by kernel_rfl))).1
      have q7 := hun 7 (.inl rfl)
      have q8 := hun 8 (.inr (by kernel_rfl))
      change Blk _ _ _ _ at q7
      replace hneed := fun j hj => (hneed j hj).2
      clear hun
      have d4 := hold 4 _ (by kernel_rfl) rfl
      have d16 := get_of_at (hneed 3 (of_decide_eq_true (by kernel_rfl)) 16 rfl) (by simp [undef])
      clear hold hneed ho
      (have p0 := q7.cell 0 rfl; have p1 := q7.cell 1 rfl; have f0 := q7.free 0; have f1 := q7.free 1; go_simp; exact hK undef _ trivial ((q7.set 0 _).set 1 _) (((Upd.refl _ _).setCell (Or.inl (by simp [effOf, BE.eff])) _).setCell (Or.inl (by simp [effOf, BE.eff])) _))
    | 8, ho =>
      obtain rfl := Option.some.inj ho
      have r6 := (hneed 6 (of_decide_eq_true (by kernel_rfl))).1
      have r7 := (hneed 7 (of_decide_eq_true (by kernel_rfl))).1
      have q8 := hun 8 (.inl rfl)
      change Blk _ _ _ _ at q8
      replace hneed := fun j hj => (hneed j hj).2
      clear hun
      have d5 := hold 5 _ (by kernel_rfl) rfl
      have d18 := get_of_at (hneed 5 (of_decide_eq_true (by kernel_rfl)) 18 rfl) (by simp [undef])
      clear hold hneed ho
      (have p0 := q8.cell 0 rfl; have p1 := q8.cell 1 rfl; have f0 := q8.free 0; have f1 := q8.free 1; go_simp; exact hK undef _ trivial ((q8.set 0 _).set 1 _) (((Upd.refl _ _).setCell (Or.inl (by simp [effOf, BE.eff])) _).setCell (Or.inl (by simp [effOf, BE.eff])) _))
    | _ + 9, ho => exact absurd ho (by simp)
  case fin =>
    intro a w' hS hsz hdf hold hvals hposts
    have hP6 : Blk w' (t2) ([.int .i64 (L % 8), .int .u32 P]) (24) := hposts 6 (of_decide_eq_true (by kernel_rfl))
    have hP7 : Blk w' (t2 + 1) ([.int .i64 (M % 8), .int .u32 Q]) (24) := hposts 7 (of_decide_eq_true (by kernel_rfl))
    have hP8 : Blk w' (t2 + 1 + 1) ([.int .i64 (N % 8), .int .u32 R]) (24) := hposts 8 (of_decide_eq_true (by kernel_rfl))
    have ha := act_lit hsz hdf (RowIs.cons (at_of_get (hold 0 _ (by kernel_rfl) rfl)) (RowIs.cons (at_of_get (hold 1 _ (by kernel_rfl) rfl)) (RowIs.cons (at_of_get (hold 2 _ (by kernel_rfl) rfl)) (RowIs.cons (at_of_get (hold 3 _ (by kernel_rfl) rfl)) (RowIs.cons (at_of_get (hold 4 _ (by kernel_rfl) rfl)) (RowIs.cons (at_of_get (hold 5 _ (by kernel_rfl) rfl)) (RowIs.cons (at_of_get (hold 6 _ (by kernel_rfl) rfl)) (RowIs.cons (at_of_get (hold 7 _ (by kernel_rfl) rfl)) (RowIs.cons (at_of_get (hold 8 _ (by kernel_rfl) rfl)) (RowIs.cons (at_of_get (hold 9 _ (by kernel_rfl) rfl)) (RowIs.cons (at_of_get (hold 10 _ (by kernel_rfl) rfl)) (RowIs.cons (at_of_get (hold 11 _ (by kernel_rfl) rfl)) (RowIs.cons (at_of_get (hold 12 _ (by kernel_rfl) rfl)) (RowIs.cons (hvals 0 13 rfl) (RowIs.cons (hvals 1 14 rfl) (RowIs.cons (hvals 2 15 rfl) (RowIs.cons (hvals 3 16 rfl) (RowIs.cons (hvals 4 17 rfl) (RowIs.cons (hvals 5 18 rfl) (RowIs.cons (at_of_get (hold 19 _ (by kernel_rfl) rfl)) (RowIs.cons (at_of_get (hold 20 _ (by kernel_rfl) rfl)) (RowIs.cons (at_of_get (hold 21 _ (by kernel_rfl) rfl)) (RowIs.cons (at_of_get (hold 22 _ (by kernel_rfl) rfl)) (RowIs.cons (at_of_get (hold 23 _ (by kernel_rfl) rfl)) (RowIs.cons (at_of_get (hold 24 _ (by kernel_rfl) rfl)) (RowIs.cons (at_of_get (hold 25 _ (by kernel_rfl) rfl)) (RowIs.cons (at_of_get (hold 26 _ (by kernel_rfl) rfl)) (RowIs.cons (at_of_get (hold 27 _ (by kernel_rfl) rfl)) (RowIs.cons (at_of_get (hold 28 _ (by kernel_rfl) rfl)) (RowIs.cons (at_of_get (hold 29 _ (by kernel_rfl) rfl)) (RowIs.cons (at_of_get (hold 30 _ (by kernel_rfl) rfl)) (RowIs.cons (at_of_get (hold 31 _ (by kernel_rfl) rfl)) (RowIs.cons (at_of_get (hold 32 _ (by kernel_rfl) rfl)) (RowIs.cons (at_of_get (hold 33 _ (by kernel_rfl) rfl)) (RowIs.cons (at_of_get (hold 34 _ (by kernel_rfl) rfl)) (RowIs.cons (at_of_get (hold 35 _ (by kernel_rfl) rfl)) (RowIs.cons (at_of_get (hold 36 _ (by kernel_rfl) rfl)) (RowIs.cons (at_of_get (hold 37 _ (by kernel_rfl) rfl)) (RowIs.cons (at_of_get (hold 38 _ (by kernel_rfl) rfl)) (RowIs.cons (at_of_get (hold 39 _ (by kernel_rfl) rfl)) (RowIs.cons (at_of_get (hold 40 _ (by kernel_rfl) rfl)) (RowIs.cons (at_of_get (hold 41 _ (by kernel_rfl) rfl)) (RowIs.cons (at_of_get (hold 42 _ (by kernel_rfl) rfl)) (RowIs.cons (at_of_get (hold 43 _ (by kernel_rfl) rfl)) (RowIs.cons (at_of_get (hold 44 _ (by kernel_rfl) rfl)) (RowIs.cons (at_of_get (hold 45 _ (by kernel_rfl) rfl)) (RowIs.cons (at_of_get (hold 46 _ (by kernel_rfl) rfl)) (RowIs.cons (at_of_get (hold 47 _ (by kernel_rfl) rfl)) (RowIs.cons (at_of_get (hold 48 _ (by kernel_rfl) rfl)) (RowIs.cons (at_of_get (hold 49 _ (by kernel_rfl) rfl)) (RowIs.cons (at_of_get (hold 50 _ (by kernel_rfl) rfl)) (RowIs.cons (at_of_get (hold 51 _ (by kernel_rfl) rfl)) (RowIs.cons (at_of_get (hold 52 _ (by kernel_rfl) rfl)) (RowIs.cons (at_of_get (hold 53 _ (by kernel_rfl) rfl)) (RowIs.cons (at_of_get (hold 54 _ (by kernel_rfl) rfl)) (RowIs.cons (at_of_get (hold 55 _ (by kernel_rfl) rfl)) (RowIs.cons (at_of_get (hold 56 _ (by kernel_rfl) rfl)) (RowIs.cons (at_of_get (hold 57 _ (by kernel_rfl) rfl)) (RowIs.cons (at_of_get (hold 58 _ (by kernel_rfl) rfl)) (RowIs.cons (at_of_get (hold 59 _ (by kernel_rfl) rfl)) (RowIs.cons (at_of_get (hold 60 _ (by kernel_rfl) rfl)) (RowIs.cons (at_of_get (hold 61 _ (by kernel_rfl) rfl)) (RowIs.cons (at_of_get (hold 62 _ (by kernel_rfl) rfl)) (RowIs.cons (at_of_get (hold 63 _ (by kernel_rfl) rfl)) (RowIs.cons (at_of_get (hold 64 _ (by kernel_rfl) rfl)) (RowIs.cons (at_of_get (hold 65 _ (by kernel_rfl) rfl)) (RowIs.cons (at_of_get (hold 66 _ (by kernel_rfl) rfl)) (RowIs.cons (at_of_get (hold 67 _ (by kernel_rfl) rfl)) (RowIs.cons (at_of_get (hold 68 _ (by kernel_rfl) rfl)) (RowIs.cons (at_of_get (hold 69 _ (by kernel_rfl) rfl)) (RowIs.cons (at_of_get (hold 70 _ (by kernel_rfl) rfl)) (RowIs.cons (at_of_get (hold 71 _ (by kernel_rfl) rfl)) (RowIs.cons (at_of_get (hold 72 _ (by kernel_rfl) rfl)) (RowIs.cons (at_of_get (hold 73 _ (by kernel_rfl) rfl)) (RowIs.cons (at_of_get (hold 74 _ (by kernel_rfl) rfl)) (RowIs.cons (at_of_get (hold 75 _ (by kernel_rfl) rfl)) (RowIs.cons (at_of_get (hold 76 _ (by kernel_rfl) rfl)) (RowIs.cons (at_of_get (hold 77 _ (by kernel_rfl) rfl)) (RowIs.cons (at_of_get (hold 78 _ (by kernel_rfl) rfl)) (RowIs.cons (at_of_get (hold 79 _ (by kernel_rfl) rfl)) (RowIs.cons (at_of_get (hold 80 _ (by kernel_rfl) rfl)) (RowIs.cons (at_of_get (hold 81 _ (by kernel_rfl) rfl)) (RowIs.cons (at_of_get (hold 82 _ (by kernel_rfl) rfl)) (RowIs.cons (at_of_get (hold 83 _ (by kernel_rfl) rfl)) (RowIs.cons (at_of_get (hold 84 _ (by kernel_rfl) rfl)) (RowIs.cons (at_of_get (hold 85 _ (by kernel_rfl) rfl)) (RowIs.cons (at_of_get (hold 86 _ (by kernel_rfl) rfl)) (RowIs.cons (at_of_get (hold 87 _ (by kernel_rfl) rfl)) (RowIs.cons (at_of_get (hold 88 _ (by kernel_rfl) rfl)) (RowIs.cons (at_of_get (hold 89 _ (by kernel_rfl) rfl)) (RowIs.cons (at_of_get (hold 90 _ (by kernel_rfl) rfl)) (RowIs.cons (at_of_get (hold 91 _ (by kernel_rfl) rfl)) (RowIs.nil _ _))))))))))))))))))))))))))))))))))))))))))))))))))))))))))))))))))))))))))))))))))))))))))))) rfl
    clear hsz hdf hold hvals hposts
    subst ha
    try simp only [List.getElem_toArray, List.getElem_cons_succ, List.getElem_cons_zero]
    have u4 := u3.trans_nil' hS (by simp; omega)
    have hA := hP6
    have hB := hP7
    have hC := hP8
    clear hP6 hP7 hP8 hS u3 hA3 hB3 hC3
    have mx : mayL (L % 8, P) = true := by unfold mayL; simp; omega
    have my : mayL (M % 8, Q) = true := by unfold mayL; simp; omega
    have mz : mayL (N % 8, R) = true := by unfold mayL; simp; omega
    generalize L % 8 = x at *
    generalize M % 8 = y at *
    generalize N % 8 = z at *
    obtain ⟨wo, rfl⟩ : ∃ wo, wo = w' := ⟨_, rfl⟩
    have a0 := hA.cell 0 rfl
    have a1 := hA.cell 1 rfl
    have b0 := hB.cell 0 rfl
    have b1 := hB.cell 1 rfl
    have c0 := hC.cell 0 rfl
    have c1 := hC.cell 1 rfl
    have hjv := joinL_two (x, P) (y, Q) mx my
    have hmv := meetL_two (x, P) (y, Q) mx my
    obtain ⟨Jl, Jp, HJ, eJ⟩ : ∃ Jl Jp, Hid (joinL [(x, P), (y, Q)] = (Jl, Jp)) ∧ (Jl, Jp) = (max x y, P ||| Q) := ⟨_, _, Lib.hid hjv, rfl⟩
    obtain ⟨Ml, Mp, HM, eM⟩ : ∃ Ml Mp, Hid (meetL (x, P) (y, Q) = (Ml, Mp)) ∧ (Ml, Mp) = (min x y, P &&& Q) := ⟨_, _, Lib.hid hmv, rfl⟩
    have hJp : Jp < 4294967296 := by rw [(Prod.mk.inj eJ).2]; exact or_lt ha hb
    have hMp : Mp < 4294967296 := by rw [(Prod.mk.inj eM).2]; exact and_lt ha
    obtain ⟨fab, Fab⟩ : ∃ f, Hid (flowsL (x, P) (y, Q) = f) := ⟨_, Lib.hid rfl⟩
    obtain ⟨fac, Fac⟩ : ∃ f, Hid (flowsL (x, P) (z, R) = f) := ⟨_, Lib.hid rfl⟩
    obtain ⟨fbc, Fbc⟩ : ∃ f, Hid (flowsL (y, Q) (z, R) = f) := ⟨_, Lib.hid rfl⟩
    obtain ⟨fca, Fca⟩ : ∃ f, Hid (flowsL (z, R) (x, P) = f) := ⟨_, Lib.hid rfl⟩
    obtain ⟨fcb, Fcb⟩ : ∃ f, Hid (flowsL (z, R) (y, Q) = f) := ⟨_, Lib.hid rfl⟩
    have Fjc : Hid (flowsL (Jl, Jp) (z, R) = (fac && fbc)) := Lib.hid (by rw [eJ, ← Fac.out, ← Fbc.out]; exact flows_join mx my mz)
    have Fcm : Hid (flowsL (z, R) (Ml, Mp) = (fca && fcb)) := Lib.hid (by rw [eM, ← Fca.out, ← Fcb.out]; exact flows_meet mx my mz)
    have mJ : mayL (Jl, Jp) = true := by rw [eJ]; exact mayL_max' mx my _
    have mM : mayL (Ml, Mp) = true := by rw [eM]; exact mayL_min' mx my _
    have Faj : Hid (flowsL (x, P) (Jl, Jp) = true) := Lib.hid ((flowsL_may mx mJ).2 (by rw [eJ]; exact ⟨by dsimp only; omega, subN_or_left _ _⟩))
    have Fbj : Hid (flowsL (y, Q) (Jl, Jp) = true) := Lib.hid ((flowsL_may my mJ).2 (by rw [eJ]; exact ⟨by dsimp only; omega, subN_or_right _ _⟩))
    have Fma : Hid (flowsL (Ml, Mp) (x, P) = true) := Lib.hid ((flowsL_may mM mx).2 (by rw [eM]; exact ⟨by dsimp only; omega, subN_and_left _ _⟩))
    have Fmb : Hid (flowsL (Ml, Mp) (y, Q) = true) := Lib.hid ((flowsL_may mM my).2 (by rw [eM]; exact ⟨by dsimp only; omega, subN_and_right _ _⟩))
    have Ejb : Hid (decide (Jl = y ∧ Jp = Q) = fab) := Lib.hid (by
      rw [← Fab.out, Bool.eq_iff_iff, decide_eq_true_eq, flowsL_may mx my, (Prod.mk.inj eJ).1, (Prod.mk.inj eJ).2]
      dsimp only
      rw [subN_or_eq]
      constructor
      · rintro ⟨h1, h2⟩; exact ⟨by omega, h2⟩
      · rintro ⟨h1, h2⟩; exact ⟨by omega, h2⟩)
    have Ema : Hid (decide (Ml = x ∧ Mp = P) = fab) := Lib.hid (by
      rw [← Fab.out, Bool.eq_iff_iff, decide_eq_true_eq, flowsL_may mx my, (Prod.mk.inj eM).1, (Prod.mk.inj eM).2]
      dsimp only
      rw [subN_and_eq]
      constructor
      · rintro ⟨h1, h2⟩; exact ⟨by omega, h2⟩
      · rintro ⟨h1, h2⟩; exact ⟨by omega, h2⟩)
    have hab : ∀ x1 ∈ ([(x, P), (y, Q)] : List Lab), x1.2 < 4294967296 := by
      intro x1 hx1
      simp at hx1
      rcases hx1 with rfl | rfl
      · exact ha
      · exact hb
    clear hjv hmv eJ eM mJ mM mx my mz
    go_upto_region 4 with fail
    refine wp_region_head 9 [(.eq (.agg #[.int .i64 x, .int .u32 P])), (.eq (.agg #[.int .i64 y, .int .u32 Q])), (.sl 2 2 [.int .i64 x, .int .u32 P, .int .i64 y, .int .u32 Q] 24), (.eq (.agg #[.int .i64 Jl, .int .u32 Jp])), (.eq (.agg #[.int .i64 x, .int .u32 P])), (.eq (.agg #[.int .i64 y, .int .u32 Q])), (.eq (.agg #[.int .i64 Ml, .int .u32 Mp])), (.pt [.int .i64 0, .int .u32 0] 24), (.pt [.int .i64 0, .int .u32 0] 24)] [] (by kernel_rfl) (by kernel_rfl) (by kernel_rfl) rfl ?ne ?pre ?step ?fin
    case ne => intro x hx; cases hx
    case pre => intro x hx; cases hx
    case step =>
      intro i o him ho a w' hS hold hneed hun K' hK
      match i, him, ho with
      | 0, _, ho =>
        obtain rfl := Option.some.inj ho
        replace hneed := fun j hj => (hneed j hj).2
        replace hK := fun v w1 h u => hK v w1 h trivial u
        clear hun
        have d3 := hold 3 _ (by kernel_rfl) rfl
        clear hold hneed ho
        (have p0 := (hS.cell hA.lt (by simp)).trans a0; have p1 := (hS.cell hA.lt (by simp)).trans a1; go_simp; exact hK _ _ rfl (Upd.refl [] _))
      | 1, _, ho =>
        obtain rfl := Option.some.inj ho
        replace hneed := fun j hj => (hneed j hj).2
        replace hK := fun v w1 h u => hK v w1 h trivial u
        clear hun
        have d4 := hold 4 _ (by kernel_rfl) rfl
        clear hold hneed ho
        (have p0 := (hS.cell hB.lt (by simp)).trans b0; have p1 := (hS.cell hB.lt (by simp)).trans b1; go_simp; exact hK _ _ rfl (Upd.refl [] _))
      | 2, _, ho =>
        obtain rfl := Option.some.inj ho
        replace hneed := fun j hj => (hneed j hj).2
        replace hK := fun v w1 h u => hK v w1 h trivial u
        clear hun
        have d19 := get_of_at (hneed 0 (of_decide_eq_true (by kernel_rfl)) 19 rfl) (by simp [undef])
        have d20 := get_of_at (hneed 1 (of_decide_eq_true (by kernel_rfl)) 20 rfl) (by simp [undef])
        clear hold hneed ho
        (go_simp; exact hK _ _ ⟨_, rfl, hS.size, Blk.new _ _ _⟩ ((Upd.refl [] _).alloc _))
      | 3, _, ho =>
        obtain rfl := Option.some.inj ho
        replace hneed := fun j hj => (hneed j hj).2
        replace hK := fun v w1 h u => hK v w1 h trivial u
        clear hun
        obtain ⟨b21, e21, _, hB21⟩ := hneed 2 (of_decide_eq_true (by kernel_rfl)) 21 rfl
        have d21 := get_of_at e21 (by simp [undef])
        clear hold hneed ho
        (go_simp; refine (vjoin (LabsAt.two (x := (x, P)) (y := (y, Q)) hB21) 2 (by simp [maxLen]) hab).mono ?_; rw [HJ.out]; unfold labV; rintro e w3 ⟨rfl, hu3⟩; exact hK _ _ rfl hu3)
      | 4, _, ho =>
        obtain rfl := Option.some.inj ho
        replace hneed := fun j hj => (hneed j hj).2
        replace hK := fun v w1 h u => hK v w1 h trivial u
        clear hun
        have d3 := hold 3 _ (by kernel_rfl) rfl
        clear hold hneed ho
        (have p0 := (hS.cell hA.lt (by simp)).trans a0; have p1 := (hS.cell hA.lt (by simp)).trans a1; go_simp; exact hK _ _ rfl (Upd.refl [] _))
      | 5, _, ho =>
        obtain rfl := Option.some.inj ho
        replace hneed := fun j hj => (hneed j hj).2
        replace hK := fun v w1 h u => hK v w1 h trivial u
        clear hun
        have d4 := hold 4 _ (by kernel_rfl) rfl
        clear hold hneed ho
        (have p0 := (hS.cell hB.lt (by simp)).trans b0; have p1 := (hS.cell hB.lt (by simp)).trans b1; go_simp; exact hK _ _ rfl (Upd.refl [] _))
      | 6, _, ho =>
        obtain rfl := Option.some.inj ho
        replace hneed := fun j hj => (hneed j hj).2
        replace hK := fun v w1 h u => hK v w1 h trivial u
        clear hun
        have d23 := get_of_at (hneed 4 (of_decide_eq_true (by kernel_rfl)) 23 rfl) (by simp [undef])
        have d24 := get_of_at (hneed 5 (of_decide_eq_true (by kernel_rfl)) 24 rfl) (by simp [undef])
        clear hold hneed ho
        (go_simp; refine (vmeet (x, P) (y, Q) ha hb _).mono ?_; rw [HM.out]; unfold labV; rintro e w3 ⟨rfl, hu3⟩; exact hK _ _ rfl hu3)
      | 7, _, ho =>
        obtain rfl := Option.some.inj ho
        replace hneed := fun j hj => (hneed j hj).2
        replace hK := fun v w1 h u => hK v w1 h trivial u
        clear hun
        clear hold hneed ho
        (go_simp; exact hK _ _ ⟨_, rfl, Nat.le_refl _, Blk.new _ _ _⟩ ((Upd.refl [] _).alloc _))
      | 8, _, ho =>
        obtain rfl := Option.some.inj ho
        replace hneed := fun j hj => (hneed j hj).2
        replace hK := fun v w1 h u => hK v w1 h trivial u
        clear hun
        clear hold hneed ho
        (go_simp; exact hK _ _ ⟨_, rfl, Nat.le_refl _, Blk.new _ _ _⟩ ((Upd.refl [] _).alloc _))
      | _ + 9, him, _ => exact absurd him (by omega)
    case fin =>
      intro a w' hS hsz hdf hold hvals hposts hap
      obtain ⟨b7, hv7, hN7, hB7⟩ := hvals 7 7 (of_decide_eq_true (by kernel_rfl)) rfl
      obtain ⟨b8, hv8, hN8, hB8⟩ := hvals 8 8 (of_decide_eq_true (by kernel_rfl)) rfl
      obtain ⟨b21, hv21, _, hB21⟩ := hvals 2 21 (of_decide_eq_true (by kernel_rfl)) rfl
      have ha := act_lit hsz hdf (RowIs.cons (at_of_get (hold 0 _ (by kernel_rfl) rfl)) (RowIs.cons (at_of_get (hold 1 _ (by kernel_rfl) rfl)) (RowIs.cons (at_of_get (hold 2 _ (by kernel_rfl) rfl)) (RowIs.cons (at_of_get (hold 3 _ (by kernel_rfl) rfl)) (RowIs.cons (at_of_get (hold 4 _ (by kernel_rfl) rfl)) (RowIs.cons (at_of_get (hold 5 _ (by kernel_rfl) rfl)) (RowIs.cons (at_of_get (hold 6 _ (by kernel_rfl) rfl)) (RowIs.cons hv7 (RowIs.cons hv8 (RowIs.cons (at_of_get (hold 9 _ (by kernel_rfl) rfl)) (RowIs.cons (at_of_get (hold 10 _ (by kernel_rfl) rfl)) (RowIs.cons (at_of_get (hold 11 _ (by kernel_rfl) rfl)) (RowIs.cons (at_of_get (hold 12 _ (by kernel_rfl) rfl)) (RowIs.cons (at_of_get (hold 13 _ (by kernel_rfl) rfl)) (RowIs.cons (at_of_get (hold 14 _ (by kernel_rfl) rfl)) (RowIs.cons (at_of_get (hold 15 _ (by kernel_rfl) rfl)) (RowIs.cons (at_of_get (hold 16 _ (by kernel_rfl) rfl)) (RowIs.cons (at_of_get (hold 17 _ (by kernel_rfl) rfl)) (RowIs.cons (at_of_get (hold 18 _ (by kernel_rfl) rfl)) (RowIs.cons (hvals 0 19 (of_decide_eq_true (by kernel_rfl)) rfl) (RowIs.cons (hvals 1 20 (of_decide_eq_true (by kernel_rfl)) rfl) (RowIs.cons hv21 (RowIs.cons (hvals 3 22 (of_decide_eq_true (by kernel_rfl)) rfl) (RowIs.cons (hvals 4 23 (of_decide_eq_true (by kernel_rfl)) rfl) (RowIs.cons (hvals 5 24 (of_decide_eq_true (by kernel_rfl)) rfl) (RowIs.cons (hvals 6 25 (of_decide_eq_true (by kernel_rfl)) rfl) (RowIs.cons (at_of_get (hold 26 _ (by kernel_rfl) rfl)) (RowIs.cons (at_of_get (hold 27 _ (by kernel_rfl) rfl)) (RowIs.cons (at_of_get (hold 28 _ (by kernel_rfl) rfl)) (RowIs.cons (at_of_get (hold 29 _ (by kernel_rfl) rfl)) (RowIs.cons (at_of_get (hold 30 _ (by kernel_rfl) rfl)) (RowIs.cons (at_of_get (hold 31 _ (by kernel_rfl) rfl)) (RowIs.cons (at_of_get (hold 32 _ (by kernel_rfl) rfl)) (RowIs.cons (at_of_get (hold 33 _ (by kernel_rfl) rfl)) (RowIs.cons (at_of_get (hold 34 _ (by kernel_rfl) rfl)) (RowIs.cons (at_of_get (hold 35 _ (by kernel_rfl) rfl)) (RowIs.cons (at_of_get (hold 36 _ (by kernel_rfl) rfl)) (RowIs.cons (at_of_get (hold 37 _ (by kernel_rfl) rfl)) (RowIs.cons (at_of_get (hold 38 _ (by kernel_rfl) rfl)) (RowIs.cons (at_of_get (hold 39 _ (by kernel_rfl) rfl)) (RowIs.cons (at_of_get (hold 40 _ (by kernel_rfl) rfl)) (RowIs.cons (at_of_get (hold 41 _ (by kernel_rfl) rfl)) (RowIs.cons (at_of_get (hold 42 _ (by kernel_rfl) rfl)) (RowIs.cons (at_of_get (hold 43 _ (by kernel_rfl) rfl)) (RowIs.cons (at_of_get (hold 44 _ (by kernel_rfl) rfl)) (RowIs.cons (at_of_get (hold 45 _ (by kernel_rfl) rfl)) (RowIs.cons (at_of_get (hold 46 _ (by kernel_rfl) rfl)) (RowIs.cons (at_of_get (hold 47 _ (by kernel_rfl) rfl)) (RowIs.cons (at_of_get (hold 48 _ (by kernel_rfl) rfl)) (RowIs.cons (at_of_get (hold 49 _ (by kernel_rfl) rfl)) (RowIs.cons (at_of_get (hold 50 _ (by kernel_rfl) rfl)) (RowIs.cons (at_of_get (hold 51 _ (by kernel_rfl) rfl)) (RowIs.cons (at_of_get (hold 52 _ (by kernel_rfl) rfl)) (RowIs.cons (at_of_get (hold 53 _ (by kernel_rfl) rfl)) (RowIs.cons (at_of_get (hold 54 _ (by kernel_rfl) rfl)) (RowIs.cons (at_of_get (hold 55 _ (by kernel_rfl) rfl)) (RowIs.cons (at_of_get (hold 56 _ (by kernel_rfl) rfl)) (RowIs.cons (at_of_get (hold 57 _ (by kernel_rfl) rfl)) (RowIs.cons (at_of_get (hold 58 _ (by kernel_rfl) rfl)) (RowIs.cons (at_of_get (hold 59 _ (by kernel_rfl) rfl)) (RowIs.cons (at_of_get (hold 60 _ (by kernel_rfl) rfl)) (RowIs.cons (at_of_get (hold 61 _ (by kernel_rfl) rfl)) (RowIs.cons (at_of_get (hold 62 _ (by kernel_rfl) rfl)) (RowIs.cons (at_of_get (hold 63 _ (by kernel_rfl) rfl)) (RowIs.cons (at_of_get (hold 64 _ (by kernel_rfl) rfl)) (RowIs.cons (at_of_get (hold 65 _ (by kernel_rfl) rfl)) (RowIs.cons (at_of_get (hold 66 _ (by kernel_rfl) rfl)) (RowIs.cons (at_of_get (hold 67 _ (by kernel_rfl) rfl)) (RowIs.cons (at_of_get (hold 68 _ (by kernel_rfl) rfl)) (RowIs.cons (at_of_get (hold 69 _ (by kernel_rfl) rfl)) (RowIs.cons (at_of_get (hold 70 _ (by kernel_rfl) rfl)) (RowIs.cons (at_of_get (hold 71 _ (by kernel_rfl) rfl)) (RowIs.cons (at_of_get (hold 72 _ (by kernel_rfl) rfl)) (RowIs.cons (at_of_get (hold 73 _ (by kernel_rfl) rfl)) (RowIs.cons (at_of_get (hold 74 _ (by kernel_rfl) rfl)) (RowIs.cons (at_of_get (hold 75 _ (by kernel_rfl) rfl)) (RowIs.cons (at_of_get (hold 76 _ (by kernel_rfl) rfl)) (RowIs.cons (at_of_get (hold 77 _ (by kernel_rfl) rfl)) (RowIs.cons (at_of_get (hold 78 _ (by kernel_rfl) rfl)) (RowIs.cons (at_of_get (hold 79 _ (by kernel_rfl) rfl)) (RowIs.cons (at_of_get (hold 80 _ (by kernel_rfl) rfl)) (RowIs.cons (at_of_get (hold 81 _ (by kernel_rfl) rfl)) (RowIs.cons (at_of_get (hold 82 _ (by kernel_rfl) rfl)) (RowIs.cons (at_of_get (hold 83 _ (by kernel_rfl) rfl)) (RowIs.cons (at_of_get (hold 84 _ (by kernel_rfl) rfl)) (RowIs.cons (at_of_get (hold 85 _ (by kernel_rfl) rfl)) (RowIs.cons (at_of_get (hold 86 _ (by kernel_rfl) rfl)) (RowIs.cons (at_of_get (hold 87 _ (by kernel_rfl) rfl)) (RowIs.cons (at_of_get (hold 88 _ (by kernel_rfl) rfl)) (RowIs.cons (at_of_get (hold 89 _ (by kernel_rfl) rfl)) (RowIs.cons (at_of_get (hold 90 _ (by kernel_rfl) rfl)) (RowIs.cons (at_of_get (hold 91 _ (by kernel_rfl) rfl)) (RowIs.nil _ _))))))))))))))))))))))))))))))))))))))))))))))))))))))))))))))))))))))))))))))))))))))))))))) rfl
      have ne7_8 : b7 ≠ b8 := by have h := hap 7 8 7 8 (by omega) (by omega) (by omega) rfl rfl rfl rfl; rw [hv7, hv8] at h; exact fun e => h (by rw [e])
      clear hsz hdf hold hvals hposts hap
      subst ha
      simp only [List.getElem_toArray, List.getElem_cons_succ, List.getElem_cons_zero, List.drop_succ_cons, List.drop_zero]
      have f70 := hB7.free 0
      have f71 := hB7.free 1
      have f80 := hB8.free 0
      have f81 := hB8.free 1
      have g70 := hB7.cell 0 rfl
      have g71 := hB7.cell 1 rfl
      have g80 := hB8.cell 0 rfl
      have g81 := hB8.cell 1 rfl
      have hsz := hS.size
      have hlA := hA.lt
      have hlC := hC.lt
      have u5 := u4.trans_nil hS
      have hA5 := hA.upd_nil hS
      have hB5 := hB.upd_nil hS
      have hC5 := hC.upd_nil hS
      have hu4s := u4.size
      go_upto_region 5 with fail
      have n8 : w.heap.size ≤ b8 := by omega
      have n7 : w.heap.size ≤ b7 := by omega
      have hJ := (((hB7.set 0 (.int .i64 Jl)).set 1 (.int .u32 Jp)).set_ne ⟨b8, 0, none⟩ ne7_8 (.int .i64 Ml)).set_ne ⟨b8, 1, none⟩ ne7_8 (.int .u32 Mp)
      have hM := (((hB8.set_ne ⟨b7, 0, none⟩ (Ne.symm ne7_8) (.int .i64 Jl)).set_ne ⟨b7, 1, none⟩ (Ne.symm ne7_8) (.int .u32 Jp)).set 0 (.int .i64 Ml)).set 1 (.int .u32 Mp)
      have hA := (((hA5.set_ne ⟨b7, 0, none⟩ (by dsimp only; omega) (.int .i64 Jl)).set_ne ⟨b7, 1, none⟩ (by dsimp only; omega) (.int .u32 Jp)).set_ne ⟨b8, 0, none⟩ (by dsimp only; omega) (.int .i64 Ml)).set_ne ⟨b8, 1, none⟩ (by dsimp only; omega) (.int .u32 Mp)
      have hB := (((hB5.set_ne ⟨b7, 0, none⟩ (by dsimp only; omega) (.int .i64 Jl)).set_ne ⟨b7, 1, none⟩ (by dsimp only; omega) (.int .u32 Jp)).set_ne ⟨b8, 0, none⟩ (by dsimp only; omega) (.int .i64 Ml)).set_ne ⟨b8, 1, none⟩ (by dsimp only; omega) (.int .u32 Mp)
      have hC := (((hC5.set_ne ⟨b7, 0, none⟩ (by dsimp only; omega) (.int .i64 Jl)).set_ne ⟨b7, 1, none⟩ (by dsimp only; omega) (.int .u32 Jp)).set_ne ⟨b8, 0, none⟩ (by dsimp only; omega) (.int .i64 Ml)).set_ne ⟨b8, 1, none⟩ (by dsimp only; omega) (.int .u32 Mp)
      have u6 := (((u5.setCell (p := ⟨b7, 0, none⟩) (Or.inr n7) (.int .i64 Jl)).setCell (p := ⟨b7, 1, none⟩) (Or.inr n7) (.int .u32 Jp)).setCell (p := ⟨b8, 0, none⟩) (Or.inr n8) (.int .i64 Ml)).setCell (p := ⟨b8, 1, none⟩) (Or.inr n8) (.int .u32 Mp)
      clear hA5 hB5 hC5 hB7 hB8 f70 f71 f80 f81 g70 g71 g80 g81 hS u5 u4 a0 a1 b0 b1 c0 c1
      generalize (((w'.setCell ⟨b7, 0, none⟩ (.int .i64 Jl)).setCell ⟨b7, 1, none⟩ (.int .u32 Jp)).setCell ⟨b8, 0, none⟩ (.int .i64 Ml)).setCell ⟨b8, 1, none⟩ (.int .u32 Mp) = W6 at *
      have a0 := hA.cell 0 rfl
      have a1 := hA.cell 1 rfl
      have b0 := hB.cell 0 rfl
      have b1 := hB.cell 1 rfl
      have c0 := hC.cell 0 rfl
      have c1 := hC.cell 1 rfl
      have j0 := hJ.cell 0 rfl
      have j1 := hJ.cell 1 rfl
      have m0 := hM.cell 0 rfl
      have m1 := hM.cell 1 rfl
      refine wp_region_spec [(.eq (.agg #[.int .i64 x, .int .u32 P])), (.eq (.agg #[.int .i64 Jl, .int .u32 Jp])), (.eq (.bool true)), (.eq (.bool true)), (.eq (.agg #[.int .i64 y, .int .u32 Q])), (.eq (.agg #[.int .i64 Jl, .int .u32 Jp])), (.eq (.bool true)), (.eq (.bool true)), (.eq (.bool true)), (.eq (.agg #[.int .i64 Jl, .int .u32 Jp])), (.eq (.agg #[.int .i64 z, .int .u32 R])), (.eq (.bool (fac && fbc))), (.eq (.agg #[.int .i64 x, .int .u32 P])), (.eq (.agg #[.int .i64 z, .int .u32 R])), (.eq (.bool fac)), (.eq (.bool fac)), (.wh (fac) (.agg #[.int .i64 y, .int .u32 Q])), (.wh (fac) (.agg #[.int .i64 z, .int .u32 R])), (.wh (fac) (.bool fbc)), (.eq (.bool (fac && fbc))), (.eq (.bool true)), (.eq (.bool true)), (.eq (.bool true))] (by kernel_rfl) (by kernel_rfl) rfl ?step ?fin
      case step =>
        intro i o ho a w' hS hold hneed K' hK
        match i, ho with
        | 0, ho =>
          obtain rfl := Option.some.inj ho
          have d3 := hold 3 _ (by kernel_rfl) rfl
          clear hold hneed ho
          (have p0 := (hS.cell hA.lt (by simp)).trans a0; have p1 := (hS.cell hA.lt (by simp)).trans a1; go_simp; (first | exact hK _ _ rfl (Upd.refl [] _) | exact hK _ _ (fun h => Bool.noConfusion h) (Upd.refl [] _) | exact hK _ _ (fun _ => rfl) (Upd.refl [] _)))
        | 1, ho =>
          obtain rfl := Option.some.inj ho
          have d7 := hold 7 _ (by kernel_rfl) rfl
          clear hold hneed ho
          (have p0 := (hS.cell hJ.lt (by simp)).trans j0; have p1 := (hS.cell hJ.lt (by simp)).trans j1; go_simp; (first | exact hK _ _ rfl (Upd.refl [] _) | exact hK _ _ (fun h => Bool.noConfusion h) (Upd.refl [] _) | exact hK _ _ (fun _ => rfl) (Upd.refl [] _)))
        | 2, ho =>
          obtain rfl := Option.some.inj ho
          have d26 := get_of_at (hneed 0 (of_decide_eq_true (by kernel_rfl)) 26 rfl) (by simp [undef])
          have d27 := get_of_at (hneed 1 (of_decide_eq_true (by kernel_rfl)) 27 rfl) (by simp [undef])
          clear hold hneed ho
          (go_simp; refine (vflows (x, P) (Jl, Jp) ha hJp _).mono ?_; rw [Faj.out]; rintro e w3 ⟨rfl, hu3⟩; exact hK _ _ rfl hu3)
        | 3, ho =>
          obtain rfl := Option.some.inj ho
          have d28 := get_of_at (hneed 2 (of_decide_eq_true (by kernel_rfl)) 28 rfl) (by simp [undef])
          clear hold hneed ho
          (go_simp; (first | exact hK _ _ rfl (Upd.refl [] _) | exact hK _ _ (fun h => Bool.noConfusion h) (Upd.refl [] _) | exact hK _ _ (fun _ => rfl) (Upd.refl [] _)))
        | 4, ho =>
          obtain rfl := Option.some.inj ho
          have d4 := hold 4 _ (by kernel_rfl) rfl
          have d29 := get_of_at (hneed 3 (of_decide_eq_true (by kernel_rfl)) 29 rfl) (by simp [undef])
          clear hold hneed ho
          (have p0 := (hS.cell hB.lt (by simp)).trans b0; have p1 := (hS.cell hB.lt (by simp)).trans b1; go_simp; (first | exact hK _ _ rfl (Upd.refl [] _) | exact hK _ _ (fun h => Bool.noConfusion h) (Upd.refl [] _) | exact hK _ _ (fun _ => rfl) (Upd.refl [] _)))
        | 5, ho =>
          obtain rfl := Option.some.inj ho
          have d7 := hold 7 _ (by kernel_rfl) rfl
          have d29 := get_of_at (hneed 3 (of_decide_eq_true (by kernel_rfl)) 29 rfl) (by simp [undef])
          clear hold hneed ho
          (have p0 := (hS.cell hJ.lt (by simp)).trans j0; have p1 := (hS.cell hJ.lt (by simp)).trans j1; go_simp; (first | exact hK _ _ rfl (Upd.refl [] _) | exact hK _ _ (fun h => Bool.noConfusion h) (Upd.refl [] _) | exact hK _ _ (fun _ => rfl) (Upd.refl [] _)))
        | 6, ho =>
          obtain rfl := Option.some.inj ho
          have d30 := get_of_at (hneed 4 (of_decide_eq_true (by kernel_rfl)) 30 rfl) (by simp [undef])
          have d31 := get_of_at (hneed 5 (of_decide_eq_true (by kernel_rfl)) 31 rfl) (by simp [undef])
          have d29 := get_of_at (hneed 3 (of_decide_eq_true (by kernel_rfl)) 29 rfl) (by simp [undef])
          clear hold hneed ho
          (go_simp; refine (vflows (y, Q) (Jl, Jp) hb hJp _).mono ?_; rw [Fbj.out]; rintro e w3 ⟨rfl, hu3⟩; exact hK _ _ rfl hu3)
        | 7, ho =>
          obtain rfl := Option.some.inj ho
          have d29 := get_of_at (hneed 3 (of_decide_eq_true (by kernel_rfl)) 29 rfl) (by simp [undef])
          have d32 := get_of_at (hneed 6 (of_decide_eq_true (by kernel_rfl)) 32 rfl) (by simp [undef])
          clear hold hneed ho
          (go_simp; (first | exact hK _ _ rfl (Upd.refl [] _) | exact hK _ _ (fun h => Bool.noConfusion h) (Upd.refl [] _) | exact hK _ _ (fun _ => rfl) (Upd.refl [] _)))
        | 8, ho =>
          obtain rfl := Option.some.inj ho
          have d33 := get_of_at (hneed 7 (of_decide_eq_true (by kernel_rfl)) 33 rfl) (by simp [undef])
          clear hold hneed ho
          (go_simp; (first | exact hK _ _ rfl (Upd.refl [] _) | exact hK _ _ (fun h => Bool.noConfusion h) (Upd.refl [] _) | exact hK _ _ (fun _ => rfl) (Upd.refl [] _)))
        | 9, ho =>
          obtain rfl := Option.some.inj ho
          have d7 := hold 7 _ (by kernel_rfl) rfl
          have d34 := get_of_at (hneed 8 (of_decide_eq_true (by kernel_rfl)) 34 rfl) (by simp [undef])
          clear hold hneed ho
          (have p0 := (hS.cell hJ.lt (by simp)).trans j0; have p1 := (hS.cell hJ.lt (by simp)).trans j1; go_simp; (first | exact hK _ _ rfl (Upd.refl [] _) | exact hK _ _ (fun h => Bool.noConfusion h) (Upd.refl [] _) | exact hK _ _ (fun _ => rfl) (Upd.refl [] _)))
        | 10, ho =>
          obtain rfl := Option.some.inj ho
          have d5 := hold 5 _ (by kernel_rfl) rfl
          have d34 := get_of_at (hneed 8 (of_decide_eq_true (by kernel_rfl)) 34 rfl) (by simp [undef])
          clear hold hneed ho
          (have p0 := (hS.cell hC.lt (by simp)).trans c0; have p1 := (hS.cell hC.lt (by simp)).trans c1; go_simp; (first | exact hK _ _ rfl (Upd.refl [] _) | exact hK _ _ (fun h => Bool.noConfusion h) (Upd.refl [] _) | exact hK _ _ (fun _ => rfl) (Upd.refl [] _)))
        | 11, ho =>
          obtain rfl := Option.some.inj ho
          have d35 := get_of_at (hneed 9 (of_decide_eq_true (by kernel_rfl)) 35 rfl) (by simp [undef])
          have d36 := get_of_at (hneed 10 (of_decide_eq_true (by kernel_rfl)) 36 rfl) (by simp [undef])
          have d34 := get_of_at (hneed 8 (of_decide_eq_true (by kernel_rfl)) 34 rfl) (by simp [undef])
          clear hold hneed ho
          (go_simp; refine (vflows (Jl, Jp) (z, R) hJp hc _).mono ?_; rw [Fjc.out]; rintro e w3 ⟨rfl, hu3⟩; exact hK _ _ rfl hu3)
        | 12, ho =>
          obtain rfl := Option.some.inj ho
          have d3 := hold 3 _ (by kernel_rfl) rfl
          have d34 := get_of_at (hneed 8 (of_decide_eq_true (by kernel_rfl)) 34 rfl) (by simp [undef])
          clear hold hneed ho
          (have p0 := (hS.cell hA.lt (by simp)).trans a0; have p1 := (hS.cell hA.lt (by simp)).trans a1; go_simp; (first | exact hK _ _ rfl (Upd.refl [] _) | exact hK _ _ (fun h => Bool.noConfusion h) (Upd.refl [] _) | exact hK _ _ (fun _ => rfl) (Upd.refl [] _)))
        | 13, ho =>
          obtain rfl := Option.some.inj ho
          have d5 := hold 5 _ (by kernel_rfl) rfl
          have d34 := get_of_at (hneed 8 (of_decide_eq_true (by kernel_rfl)) 34 rfl) (by simp [undef])
          clear hold hneed ho
          (have p0 := (hS.cell hC.lt (by simp)).trans c0; have p1 := (hS.cell hC.lt (by simp)).trans c1; go_simp; (first | exact hK _ _ rfl (Upd.refl [] _) | exact hK _ _ (fun h => Bool.noConfusion h) (Upd.refl [] _) | exact hK _ _ (fun _ => rfl) (Upd.refl [] _)))
        | 14, ho =>
          obtain rfl := Option.some.inj ho
          have d38 := get_of_at (hneed 12 (of_decide_eq_true (by kernel_rfl)) 38 rfl) (by simp [undef])
          have d39 := get_of_at (hneed 13 (of_decide_eq_true (by kernel_rfl)) 39 rfl) (by simp [undef])
          have d34 := get_of_at (hneed 8 (of_decide_eq_true (by kernel_rfl)) 34 rfl) (by simp [undef])
          clear hold hneed ho
          (go_simp; refine (vflows (x, P) (z, R) ha hc _).mono ?_; rw [Fac.out]; rintro e w3 ⟨rfl, hu3⟩; exact hK _ _ rfl hu3)
        | 15, ho =>
          obtain rfl := Option.some.inj ho
          have d40 := get_of_at (hneed 14 (of_decide_eq_true (by kernel_rfl)) 40 rfl) (by simp [undef])
          have d34 := get_of_at (hneed 8 (of_decide_eq_true (by kernel_rfl)) 34 rfl) (by simp [undef])
          clear hold hneed ho
          (go_simp; (first | exact hK _ _ rfl (Upd.refl [] _) | exact hK _ _ (fun h => Bool.noConfusion h) (Upd.refl [] _) | exact hK _ _ (fun _ => rfl) (Upd.refl [] _)))
        | 16, ho =>
          obtain rfl := Option.some.inj ho
          have d4 := hold 4 _ (by kernel_rfl) rfl
          have d41 := get_of_at (hneed 15 (of_decide_eq_true (by kernel_rfl)) 41 rfl) (by simp [undef])
          clear hold hneed ho
          (cases fac <;> (have p0 := (hS.cell hB.lt (by simp)).trans b0; have p1 := (hS.cell hB.lt (by simp)).trans b1; go_simp; (first | exact hK _ _ rfl (Upd.refl [] _) | exact hK _ _ (fun h => Bool.noConfusion h) (Upd.refl [] _) | exact hK _ _ (fun _ => rfl) (Upd.refl [] _))))
        | 17, ho =>
          obtain rfl := Option.some.inj ho
          have d5 := hold 5 _ (by kernel_rfl) rfl
          have d41 := get_of_at (hneed 15 (of_decide_eq_true (by kernel_rfl)) 41 rfl) (by simp [undef])
          clear hold hneed ho
          (cases fac <;> (have p0 := (hS.cell hC.lt (by simp)).trans c0; have p1 := (hS.cell hC.lt (by simp)).trans c1; go_simp; (first | exact hK _ _ rfl (Upd.refl [] _) | exact hK _ _ (fun h => Bool.noConfusion h) (Upd.refl [] _) | exact hK _ _ (fun _ => rfl) (Upd.refl [] _))))
        | 18, ho =>
          obtain rfl := Option.some.inj ho
          have d42 := fun h => get_of_at (hneed 16 (of_decide_eq_true (by kernel_rfl)) 42 rfl h) (by simp [undef])
          have d43 := fun h => get_of_at (hneed 17 (of_decide_eq_true (by kernel_rfl)) 43 rfl h) (by simp [undef])
          have d41 := get_of_at (hneed 15 (of_decide_eq_true (by kernel_rfl)) 41 rfl) (by simp [undef])
          clear hold hneed ho
          (cases fac <;> (try replace d42 := d42 rfl) <;> (try replace d43 := d43 rfl) <;> (go_simp; first | exact hK _ _ (fun h => Bool.noConfusion h) (Upd.refl [] _) | (refine (vflows (y, Q) (z, R) hb hc _).mono ?_; rw [Fbc.out]; rintro e w3 ⟨rfl, hu3⟩; exact hK _ _ (fun _ => rfl) hu3)))
        | 19, ho =>
          obtain rfl := Option.some.inj ho
          have d41 := get_of_at (hneed 15 (of_decide_eq_true (by kernel_rfl)) 41 rfl) (by simp [undef])
          have d44 := fun h => get_of_at (hneed 18 (of_decide_eq_true (by kernel_rfl)) 44 rfl h) (by simp [undef])
          have d34 := get_of_at (hneed 8 (of_decide_eq_true (by kernel_rfl)) 34 rfl) (by simp [undef])
          clear hold hneed ho
          (cases fac <;> (try replace d44 := d44 rfl) <;> (go_simp; (first | exact hK _ _ rfl (Upd.refl [] _) | exact hK _ _ (fun h => Bool.noConfusion h) (Upd.refl [] _) | exact hK _ _ (fun _ => rfl) (Upd.refl [] _))))
        | 20, ho =>
          obtain rfl := Option.some.inj ho
          have d37 := get_of_at (hneed 11 (of_decide_eq_true (by kernel_rfl)) 37 rfl) (by simp [undef])
          have d45 := get_of_at (hneed 19 (of_decide_eq_true (by kernel_rfl)) 45 rfl) (by simp [undef])
          have d34 := get_of_at (hneed 8 (of_decide_eq_true (by kernel_rfl)) 34 rfl) (by simp [undef])
          clear hold hneed ho
          (cases fac <;> cases fbc <;> (go_simp; (first | exact hK _ _ rfl (Upd.refl [] _) | exact hK _ _ (fun h => Bool.noConfusion h) (Upd.refl [] _) | exact hK _ _ (fun _ => rfl) (Upd.refl [] _))))
        | 21, ho =>
          obtain rfl := Option.some.inj ho
          have d34 := get_of_at (hneed 8 (of_decide_eq_true (by kernel_rfl)) 34 rfl) (by simp [undef])
          have d46 := get_of_at (hneed 20 (of_decide_eq_true (by kernel_rfl)) 46 rfl) (by simp [undef])
          clear hold hneed ho
          (go_simp; (first | exact hK _ _ rfl (Upd.refl [] _) | exact hK _ _ (fun h => Bool.noConfusion h) (Upd.refl [] _) | exact hK _ _ (fun _ => rfl) (Upd.refl [] _)))
        | 22, ho =>
          obtain rfl := Option.some.inj ho
          have d47 := get_of_at (hneed 21 (of_decide_eq_true (by kernel_rfl)) 47 rfl) (by simp [undef])
          clear hold hneed ho
          (go_simp; (first | exact hK _ _ rfl (Upd.refl [] _) | exact hK _ _ (fun h => Bool.noConfusion h) (Upd.refl [] _) | exact hK _ _ (fun _ => rfl) (Upd.refl [] _)))
        | _ + 23, ho => exact absurd ho (by simp)
      case fin =>
        intro a w' hS hsz hdf hold hvals
        obtain ⟨v42, hv42⟩ : ∃ v, at_ a 42 = v := ⟨_, rfl⟩
        obtain ⟨v43, hv43⟩ : ∃ v, at_ a 43 = v := ⟨_, rfl⟩
        obtain ⟨v44, hv44⟩ : ∃ v, at_ a 44 = v := ⟨_, rfl⟩
        have ha := act_lit hsz hdf (RowIs.cons (at_of_get (hold 0 _ (by kernel_rfl) rfl)) (RowIs.cons (at_of_get (hold 1 _ (by kernel_rfl) rfl)) (RowIs.cons (at_of_get (hold 2 _ (by kernel_rfl) rfl)) (RowIs.cons (at_of_get (hold 3 _ (by kernel_rfl) rfl)) (RowIs.cons (at_of_get (hold 4 _ (by kernel_rfl) rfl)) (RowIs.cons (at_of_get (hold 5 _ (by kernel_rfl) rfl)) (RowIs.cons (at_of_get (hold 6 _ (by kernel_rfl) rfl)) (RowIs.cons (at_of_get (hold 7 _ (by kernel_rfl) rfl)) (RowIs.cons (at_of_get (hold 8 _ (by kernel_rfl) rfl)) (RowIs.cons (hvals 22 9 rfl) (RowIs.cons (at_of_get (hold 10 _ (by kernel_rfl) rfl)) (RowIs.cons (at_of_get (hold 11 _ (by kernel_rfl) rfl)) (RowIs.cons (at_of_get (hold 12 _ (by kernel_rfl) rfl)) (RowIs.cons (at_of_get (hold 13 _ (by kernel_rfl) rfl)) (RowIs.cons (at_of_get (hold 14 _ (by kernel_rfl) rfl)) (RowIs.cons (at_of_get (hold 15 _ (by kernel_rfl) rfl)) (RowIs.cons (at_of_get (hold 16 _ (by kernel_rfl) rfl)) (RowIs.cons (at_of_get (hold 17 _ (by kernel_rfl) rfl)) (RowIs.cons (at_of_get (hold 18 _ (by kernel_rfl) rfl)) (RowIs.cons (at_of_get (hold 19 _ (by kernel_rfl) rfl)) (RowIs.cons (at_of_get (hold 20 _ (by kernel_rfl) rfl)) (RowIs.cons (at_of_get (hold 21 _ (by kernel_rfl) rfl)) (RowIs.cons (at_of_get (hold 22 _ (by kernel_rfl) rfl)) (RowIs.cons (at_of_get (hold 23 _ (by kernel_rfl) rfl)) (RowIs.cons (at_of_get (hold 24 _ (by kernel_rfl) rfl)) (RowIs.cons (at_of_get (hold 25 _ (by kernel_rfl) rfl)) (RowIs.cons (hvals 0 26 rfl) (RowIs.cons (hvals 1 27 rfl) (RowIs.cons (hvals 2 28 rfl) (RowIs.cons (hvals 3 29 rfl) (RowIs.cons (hvals 4 30 rfl) (RowIs.cons (hvals 5 31 rfl) (RowIs.cons (hvals 6 32 rfl) (RowIs.cons (hvals 7 33 rfl) (RowIs.cons (hvals 8 34 rfl) (RowIs.cons (hvals 9 35 rfl) (RowIs.cons (hvals 10 36 rfl) (RowIs.cons (hvals 11 37 rfl) (RowIs.cons (hvals 12 38 rfl) (RowIs.cons (hvals 13 39 rfl) (RowIs.cons (hvals 14 40 rfl) (RowIs.cons (hvals 15 41 rfl) (RowIs.cons hv42 (RowIs.cons hv43 (RowIs.cons hv44 (RowIs.cons (hvals 19 45 rfl) (RowIs.cons (hvals 20 46 rfl) (RowIs.cons (hvals 21 47 rfl) (RowIs.cons (at_of_get (hold 48 _ (by kernel_rfl) rfl)) (RowIs.cons (at_of_get (hold 49 _ (by kernel_rfl) rfl)) (RowIs.cons (at_of_get (hold 50 _ (by kernel_rfl) rfl)) (RowIs.cons (at_of_get (hold 51 _ (by kernel_rfl) rfl)) (RowIs.cons (at_of_get (hold 52 _ (by kernel_rfl) rfl)) (RowIs.cons (at_of_get (hold 53 _ (by kernel_rfl) rfl)) (RowIs.cons (at_of_get (hold 54 _ (by kernel_rfl) rfl)) (RowIs.cons (at_of_get (hold 55 _ (by kernel_rfl) rfl)) (RowIs.cons (at_of_get (hold 56 _ (by kernel_rfl) rfl)) (RowIs.cons (at_of_get (hold 57 _ (by kernel_rfl) rfl)) (RowIs.cons (at_of_get (hold 58 _ (by kernel_rfl) rfl)) (RowIs.cons (at_of_get (hold 59 _ (by kernel_rfl) rfl)) (RowIs.cons (at_of_get (hold 60 _ (by kernel_rfl) rfl)) (RowIs.cons (at_of_get (hold 61 _ (by kernel_rfl) rfl)) (RowIs.cons (at_of_get (hold 62 _ (by kernel_rfl) rfl)) (RowIs.cons (at_of_get (hold 63 _ (by kernel_rfl) rfl)) (RowIs.cons (at_of_get (hold 64 _ (by kernel_rfl) rfl)) (RowIs.cons (at_of_get (hold 65 _ (by kernel_rfl) rfl)) (RowIs.cons (at_of_get (hold 66 _ (by kernel_rfl) rfl)) (RowIs.cons (at_of_get (hold 67 _ (by kernel_rfl) rfl)) (RowIs.cons (at_of_get (hold 68 _ (by kernel_rfl) rfl)) (RowIs.cons (at_of_get (hold 69 _ (by kernel_rfl) rfl)) (RowIs.cons (at_of_get (hold 70 _ (by kernel_rfl) rfl)) (RowIs.cons (at_of_get (hold 71 _ (by kernel_rfl) rfl)) (RowIs.cons (at_of_get (hold 72 _ (by kernel_rfl) rfl)) (RowIs.cons (at_of_get (hold 73 _ (by kernel_rfl) rfl)) (RowIs.cons (at_of_get (hold 74 _ (by kernel_rfl) rfl)) (RowIs.cons (at_of_get (hold 75 _ (by kernel_rfl) rfl)) (RowIs.cons (at_of_get (hold 76 _ (by kernel_rfl) rfl)) (RowIs.cons (at_of_get (hold 77 _ (by kernel_rfl) rfl)) (RowIs.cons (at_of_get (hold 78 _ (by kernel_rfl) rfl)) (RowIs.cons (at_of_get (hold 79 _ (by kernel_rfl) rfl)) (RowIs.cons (at_of_get (hold 80 _ (by kernel_rfl) rfl)) (RowIs.cons (at_of_get (hold 81 _ (by kernel_rfl) rfl)) (RowIs.cons (at_of_get (hold 82 _ (by kernel_rfl) rfl)) (RowIs.cons (at_of_get (hold 83 _ (by kernel_rfl) rfl)) (RowIs.cons (at_of_get (hold 84 _ (by kernel_rfl) rfl)) (RowIs.cons (at_of_get (hold 85 _ (by kernel_rfl) rfl)) (RowIs.cons (at_of_get (hold 86 _ (by kernel_rfl) rfl)) (RowIs.cons (at_of_get (hold 87 _ (by kernel_rfl) rfl)) (RowIs.cons (at_of_get (hold 88 _ (by kernel_rfl) rfl)) (RowIs.cons (at_of_get (hold 89 _ (by kernel_rfl) rfl)) (RowIs.cons (at_of_get (hold 90 _ (by kernel_rfl) rfl)) (RowIs.cons (at_of_get (hold 91 _ (by kernel_rfl) rfl)) (RowIs.nil _ _))))))))))))))))))))))))))))))))))))))))))))))))))))))))))))))))))))))))))))))))))))))))))))) rfl
        clear hsz hdf hold hvals
        subst ha
        try simp only [List.getElem_toArray, List.getElem_cons_succ, List.getElem_cons_zero]
        replace u6 := u6.trans_nil hS
        replace hA := hA.upd_nil hS
        replace hB := hB.upd_nil hS
        replace hC := hC.upd_nil hS
        replace hJ := hJ.upd_nil hS
        replace hM := hM.upd_nil hS
        clear hS a0 a1 b0 b1 c0 c1 j0 j1 m0 m1
        obtain ⟨wp, rfl⟩ : ∃ wp, wp = w' := ⟨_, rfl⟩
        have a0 := hA.cell 0 rfl
        have a1 := hA.cell 1 rfl
        have b0 := hB.cell 0 rfl
        have b1 := hB.cell 1 rfl
        have c0 := hC.cell 0 rfl
        have c1 := hC.cell 1 rfl
        have j0 := hJ.cell 0 rfl
        have j1 := hJ.cell 1 rfl
        have m0 := hM.cell 0 rfl
        have m1 := hM.cell 1 rfl
        go_upto_region 6 with fail
        refine wp_region_spec [(.eq (.agg #[.int .i64 Ml, .int .u32 Mp])), (.eq (.agg #[.int .i64 x, .int .u32 P])), (.eq (.bool true)), (.eq (.bool true)), (.eq (.agg #[.int .i64 Ml, .int .u32 Mp])), (.eq (.agg #[.int .i64 y, .int .u32 Q])), (.eq (.bool true)), (.eq (.bool true)), (.eq (.bool true)), (.eq (.agg #[.int .i64 z, .int .u32 R])), (.eq (.agg #[.int .i64 Ml, .int .u32 Mp])), (.eq (.bool (fca && fcb))), (.eq (.agg #[.int .i64 z, .int .u32 R])), (.eq (.agg #[.int .i64 x, .int .u32 P])), (.eq (.bool fca)), (.eq (.bool fca)), (.wh (fca) (.agg #[.int .i64 z, .int .u32 R])), (.wh (fca) (.agg #[.int .i64 y, .int .u32 Q])), (.wh (fca) (.bool fcb)), (.eq (.bool (fca && fcb))), (.eq (.bool true)), (.eq (.bool true)), (.eq (.bool true))] (by kernel_rfl) (by kernel_rfl) rfl ?step ?fin
        case step =>
          intro i o ho a w' hS hold hneed K' hK
          match i, ho with
          | 0, ho =>
            obtain rfl := Option.some.inj ho
            have d8 := hold 8 _ (by kernel_rfl) rfl
            clear hold hneed ho
            (have p0 := (hS.cell hM.lt (by simp)).trans m0; have p1 := (hS.cell hM.lt (by simp)).trans m1; go_simp; (first | exact hK _ _ rfl (Upd.refl [] _) | exact hK _ _ (fun h => Bool.noConfusion h) (Upd.refl [] _) | exact hK _ _ (fun _ => rfl) (Upd.refl [] _)))
          | 1, ho =>
            obtain rfl := Option.some.inj ho
            have d3 := hold 3 _ (by kernel_rfl) rfl
            clear hold hneed ho
            (have p0 := (hS.cell hA.lt (by simp)).trans a0; have p1 := (hS.cell hA.lt (by simp)).trans a1; go_simp; (first | exact hK _ _ rfl (Upd.refl [] _) | exact hK _ _ (fun h => Bool.noConfusion h) (Upd.refl [] _) | exact hK _ _ (fun _ => rfl) (Upd.refl [] _)))
          | 2, ho =>
            obtain rfl := Option.some.inj ho
            have d48 := get_of_at (hneed 0 (of_decide_eq_true (by kernel_rfl)) 48 rfl) (by simp [undef])
            have d49 := get_of_at (hneed 1 (of_decide_eq_true (by kernel_rfl)) 49 rfl) (by simp [undef])
            clear hold hneed ho
            (go_simp; refine (vflows (Ml, Mp) (x, P) hMp ha _).mono ?_; rw [Fma.out]; rintro e w3 ⟨rfl, hu3⟩; exact hK _ _ rfl hu3)
          | 3, ho =>
            obtain rfl := Option.some.inj ho
            have d50 := get_of_at (hneed 2 (of_decide_eq_true (by kernel_rfl)) 50 rfl) (by simp [undef])
            clear hold hneed ho
            (go_simp; (first | exact hK _ _ rfl (Upd.refl [] _) | exact hK _ _ (fun h => Bool.noConfusion h) (Upd.refl [] _) | exact hK _ _ (fun _ => rfl) (Upd.refl [] _)))
          | 4, ho =>
            obtain rfl := Option.some.inj ho
            have d8 := hold 8 _ (by kernel_rfl) rfl
            have d51 := get_of_at (hneed 3 (of_decide_eq_true (by kernel_rfl)) 51 rfl) (by simp [undef])
            clear hold hneed ho
            (have p0 := (hS.cell hM.lt (by simp)).trans m0; have p1 := (hS.cell hM.lt (by simp)).trans m1; go_simp; (first | exact hK _ _ rfl (Upd.refl [] _) | exact hK _ _ (fun h => Bool.noConfusion h) (Upd.refl [] _) | exact hK _ _ (fun _ => rfl) (Upd.refl [] _)))
          | 5, ho =>
            obtain rfl := Option.some.inj ho
            have d4 := hold 4 _ (by kernel_rfl) rfl
            have d51 := get_of_at (hneed 3 (of_decide_eq_true (by kernel_rfl)) 51 rfl) (by simp [undef])
            clear hold hneed ho
            (have p0 := (hS.cell hB.lt (by simp)).trans b0; have p1 := (hS.cell hB.lt (by simp)).trans b1; go_simp; (first | exact hK _ _ rfl (Upd.refl [] _) | exact hK _ _ (fun h => Bool.noConfusion h) (Upd.refl [] _) | exact hK _ _ (fun _ => rfl) (Upd.refl [] _)))
          | 6, ho =>
            obtain rfl := Option.some.inj ho
            have d52 := get_of_at (hneed 4 (of_decide_eq_true (by kernel_rfl)) 52 rfl) (by simp [undef])
            have d53 := get_of_at (hneed 5 (of_decide_eq_true (by kernel_rfl)) 53 rfl) (by simp [undef])
            have d51 := get_of_at (hneed 3 (of_decide_eq_true (by kernel_rfl)) 51 rfl) (by simp [undef])
            clear hold hneed ho
            (go_simp; refine (vflows (Ml, Mp) (y, Q) hMp hb _).mono ?_; rw [Fmb.out]; rintro e w3 ⟨rfl, hu3⟩; exact hK _ _ rfl hu3)
          | 7, ho =>
            obtain rfl := Option.some.inj ho
            have d51 := get_of_at (hneed 3 (of_decide_eq_true (by kernel_rfl)) 51 rfl) (by simp [undef])
            have d54 := get_of_at (hneed 6 (of_decide_eq_true (by kernel_rfl)) 54 rfl) (by simp [undef])
            clear hold hneed ho
            (go_simp; (first | exact hK _ _ rfl (Upd.refl [] _) | exact hK _ _ (fun h => Bool.noConfusion h) (Upd.refl [] _) | exact hK _ _ (fun _ => rfl) (Upd.refl [] _)))
          | 8, ho =>
            obtain rfl := Option.some.inj ho
            have d55 := get_of_at (hneed 7 (of_decide_eq_true (by kernel_rfl)) 55 rfl) (by simp [undef])
            clear hold hneed ho
            (go_simp; (first | exact hK _ _ rfl (Upd.refl [] _) | exact hK _ _ (fun h => Bool.noConfusion h) (Upd.refl [] _) | exact hK _ _ (fun _ => rfl) (Upd.refl [] _)))
          | 9, ho =>
            obtain rfl := Option.some.inj ho
            have d5 := hold 5 _ (by kernel_rfl) rfl
            have d56 := get_of_at (hneed 8 (of_decide_eq_true (by kernel_rfl)) 56 rfl) (by simp [undef])
            clear hold hneed ho
            (have p0 := (hS.cell hC.lt (by simp)).trans c0; have p1 := (hS.cell hC.lt (by simp)).trans c1; go_simp; (first | exact hK _ _ rfl (Upd.refl [] _) | exact hK _ _ (fun h => Bool.noConfusion h) (Upd.refl [] _) | exact hK _ _ (fun _ => rfl) (Upd.refl [] _)))
          | 10, ho =>
            obtain rfl := Option.some.inj ho
            have d8 := hold 8 _ (by kernel_rfl) rfl
            have d56 := get_of_at (hneed 8 (of_decide_eq_true (by kernel_rfl)) 56 rfl) (by simp [undef])
            clear hold hneed ho
            (have p0 := (hS.cell hM.lt (by simp)).trans m0; have p1 := (hS.cell hM.lt (by simp)).trans m1; go_simp; (first | exact hK _ _ rfl (Upd.refl [] _) | exact hK _ _ (fun h => Bool.noConfusion h) (Upd.refl [] _) | exact hK _ _ (fun _ => rfl) (Upd.refl [] _)))
          | 11, ho =>
            obtain rfl := Option.some.inj ho
            have d57 := get_of_at (hneed 9 (of_decide_eq_true (by kernel_rfl)) 57 rfl) (by simp [undef])
            have d58 := get_of_at (hneed 10 (of_decide_eq_true (by kernel_rfl)) 58 rfl) (by simp [undef])
            have d56 := get_of_at (hneed 8 (of_decide_eq_true (by kernel_rfl)) 56 rfl) (by simp [undef])
            clear hold hneed ho
            (go_simp; refine (vflows (z, R) (Ml, Mp) hc hMp _).mono ?_; rw [Fcm.out]; rintro e w3 ⟨rfl, hu3⟩; exact hK _ _ rfl hu3)
          | 12, ho =>
            obtain rfl := Option.some.inj ho
            have d5 := hold 5 _ (by kernel_rfl) rfl
            have d56 := get_of_at (hneed 8 (of_decide_eq_true (by kernel_rfl)) 56 rfl) (by simp [undef])
            clear hold hneed ho
            (have p0 := (hS.cell hC.lt (by simp)).trans c0; have p1 := (hS.cell hC.lt (by simp)).trans c1; go_simp; (first | exact hK _ _ rfl (Upd.refl [] _) | exact hK _ _ (fun h => Bool.noConfusion h) (Upd.refl [] _) | exact hK _ _ (fun _ => rfl) (Upd.refl [] _)))
          | 13, ho =>
            obtain rfl := Option.some.inj ho
            have d3 := hold 3 _ (by kernel_rfl) rfl
            have d56 := get_of_at (hneed 8 (of_decide_eq_true (by kernel_rfl)) 56 rfl) (by simp [undef])
            clear hold hneed ho
            (have p0 := (hS.cell hA.lt (by simp)).trans a0; have p1 := (hS.cell hA.lt (by simp)).trans a1; go_simp; (first | exact hK _ _ rfl (Upd.refl [] _) | exact hK _ _ (fun h => Bool.noConfusion h) (Upd.refl [] _) | exact hK _ _ (fun _ => rfl) (Upd.refl [] _)))
          | 14, ho =>
            obtain rfl := Option.some.inj ho
            have d60 := get_of_at (hneed 12 (of_decide_eq_true (by kernel_rfl)) 60 rfl) (by simp [undef])
            have d61 := get_of_at (hneed 13 (of_decide_eq_true (by kernel_rfl)) 61 rfl) (by simp [undef])
            have d56 := get_of_at (hneed 8 (of_decide_eq_true (by kernel_rfl)) 56 rfl) (by simp [undef])
            clear hold hneed ho
            (go_simp; refine (vflows (z, R) (x, P) hc ha _).mono ?_; rw [Fca.out]; rintro e w3 ⟨rfl, hu3⟩; exact hK _ _ rfl hu3)
          | 15, ho =>
            obtain rfl := Option.some.inj ho
            have d62 := get_of_at (hneed 14 (of_decide_eq_true (by kernel_rfl)) 62 rfl) (by simp [undef])
            have d56 := get_of_at (hneed 8 (of_decide_eq_true (by kernel_rfl)) 56 rfl) (by simp [undef])
            clear hold hneed ho
            (go_simp; (first | exact hK _ _ rfl (Upd.refl [] _) | exact hK _ _ (fun h => Bool.noConfusion h) (Upd.refl [] _) | exact hK _ _ (fun _ => rfl) (Upd.refl [] _)))
          | 16, ho =>
            obtain rfl := Option.some.inj ho
            have d5 := hold 5 _ (by kernel_rfl) rfl
            have d63 := get_of_at (hneed 15 (of_decide_eq_true (by kernel_rfl)) 63 rfl) (by simp [undef])
            clear hold hneed ho
            (cases fca <;> (have p0 := (hS.cell hC.lt (by simp)).trans c0; have p1 := (hS.cell hC.lt (by simp)).trans c1; go_simp; (first | exact hK _ _ rfl (Upd.refl [] _) | exact hK _ _ (fun h => Bool.noConfusion h) (Upd.refl [] _) | exact hK _ _ (fun _ => rfl) (Upd.refl [] _))))
          | 17, ho =>
            obtain rfl := Option.some.inj ho
            have d4 := hold 4 _ (by kernel_rfl) rfl
            have d63 := get_of_at (hneed 15 (of_decide_eq_true (by kernel_rfl)) 63 rfl) (by simp [undef])
            clear hold hneed ho
            (cases fca <;> (have p0 := (hS.cell hB.lt (by simp)).trans b0; have p1 := (hS.cell hB.lt (by simp)).trans b1; go_simp; (first | exact hK _ _ rfl (Upd.refl [] _) | exact hK _ _ (fun h => Bool.noConfusion h) (Upd.refl [] _) | exact hK _ _ (fun _ => rfl) (Upd.refl [] _))))
          | 18, ho =>
            obtain rfl := Option.some.inj ho
            have d64 := fun h => get_of_at (hneed 16 (of_decide_eq_true (by kernel_rfl)) 64 rfl h) (by simp [undef])
            have d65 := fun h => get_of_at (hneed 17 (of_decide_eq_true (by kernel_rfl)) 65 rfl h) (by simp [undef])
            have d63 := get_of_at (hneed 15 (of_decide_eq_true (by kernel_rfl)) 63 rfl) (by simp [undef])
            clear hold hneed ho
            (cases fca <;> (try replace d64 := d64 rfl) <;> (try replace d65 := d65 rfl) <;> (go_simp; first | exact hK _ _ (fun h => Bool.noConfusion h) (Upd.refl [] _) | (refine (vflows (z, R) (y, Q) hc hb _).mono ?_; rw [Fcb.out]; rintro e w3 ⟨rfl, hu3⟩; exact hK _ _ (fun _ => rfl) hu3)))
          | 19, ho =>
            obtain rfl := Option.some.inj ho
            have d63 := get_of_at (hneed 15 (of_decide_eq_true (by kernel_rfl)) 63 rfl) (by simp [undef])
            have d66 := fun h => get_of_at (hneed 18 (of_decide_eq_true (by kernel_rfl)) 66 rfl h) (by simp [undef])
            have d56 := get_of_at (hneed 8 (of_decide_eq_true (by kernel_rfl)) 56 rfl) (by simp [undef])
            clear hold hneed ho
            (cases fca <;> (try replace d66 := d66 rfl) <;> (go_simp; (first | exact hK _ _ rfl (Upd.refl [] _) | exact hK _ _ (fun h => Bool.noConfusion h) (Upd.refl [] _) | exact hK _ _ (fun _ => rfl) (Upd.refl [] _))))
          | 20, ho =>
            obtain rfl := Option.some.inj ho
            have d59 := get_of_at (hneed 11 (of_decide_eq_true (by kernel_rfl)) 59 rfl) (by simp [undef])
            have d67 := get_of_at (hneed 19 (of_decide_eq_true (by kernel_rfl)) 67 rfl) (by simp [undef])
            have d56 := get_of_at (hneed 8 (of_decide_eq_true (by kernel_rfl)) 56 rfl) (by simp [undef])
            clear hold hneed ho
            (cases fca <;> cases fcb <;> (go_simp; (first | exact hK _ _ rfl (Upd.refl [] _) | exact hK _ _ (fun h => Bool.noConfusion h) (Upd.refl [] _) | exact hK _ _ (fun _ => rfl) (Upd.refl [] _))))
          | 21, ho =>
            obtain rfl := Option.some.inj ho
            have d56 := get_of_at (hneed 8 (of_decide_eq_true (by kernel_rfl)) 56 rfl) (by simp [undef])
            have d68 := get_of_at (hneed 20 (of_decide_eq_true (by kernel_rfl)) 68 rfl) (by simp [undef])
            clear hold hneed ho
            (go_simp; (first | exact hK _ _ rfl (Upd.refl [] _) | exact hK _ _ (fun h => Bool.noConfusion h) (Upd.refl [] _) | exact hK _ _ (fun _ => rfl) (Upd.refl [] _)))
          | 22, ho =>
            obtain rfl := Option.some.inj ho
            have d69 := get_of_at (hneed 21 (of_decide_eq_true (by kernel_rfl)) 69 rfl) (by simp [undef])
            clear hold hneed ho
            (go_simp; (first | exact hK _ _ rfl (Upd.refl [] _) | exact hK _ _ (fun h => Bool.noConfusion h) (Upd.refl [] _) | exact hK _ _ (fun _ => rfl) (Upd.refl [] _)))
          | _ + 23, ho => exact absurd ho (by simp)
        case fin =>
          intro a w' hS hsz hdf hold hvals
          obtain ⟨v64, hv64⟩ : ∃ v, at_ a 64 = v := ⟨_, rfl⟩
          obtain ⟨v65, hv65⟩ : ∃ v, at_ a 65 = v := ⟨_, rfl⟩
          obtain ⟨v66, hv66⟩ : ∃ v, at_ a 66 = v := ⟨_, rfl⟩
          have ha := act_lit hsz hdf (RowIs.cons (at_of_get (hold 0 _ (by kernel_rfl) rfl)) (RowIs.cons (at_of_get (hold 1 _ (by kernel_rfl) rfl)) (RowIs.cons (at_of_get (hold 2 _ (by kernel_rfl) rfl)) (RowIs.cons (at_of_get (hold 3 _ (by kernel_rfl) rfl)) (RowIs.cons (at_of_get (hold 4 _ (by kernel_rfl) rfl)) (RowIs.cons (at_of_get (hold 5 _ (by kernel_rfl) rfl)) (RowIs.cons (at_of_get (hold 6 _ (by kernel_rfl) rfl)) (RowIs.cons (at_of_get (hold 7 _ (by kernel_rfl) rfl)) (RowIs.cons (at_of_get (hold 8 _ (by kernel_rfl) rfl)) (RowIs.cons (at_of_get (hold 9 _ (by kernel_rfl) rfl)) (RowIs.cons (hvals 22 10 rfl) (RowIs.cons (at_of_get (hold 11 _ (by kernel_rfl) rfl)) (RowIs.cons (at_of_get (hold 12 _ (by kernel_rfl) rfl)) (RowIs.cons (at_of_get (hold 13 _ (by kernel_rfl) rfl)) (RowIs.cons (at_of_get (hold 14 _ (by kernel_rfl) rfl)) (RowIs.cons (at_of_get (hold 15 _ (by kernel_rfl) rfl)) (RowIs.cons (at_of_get (hold 16 _ (by kernel_rfl) rfl)) (RowIs.cons (at_of_get (hold 17 _ (by kernel_rfl) rfl)) (RowIs.cons (at_of_get (hold 18 _ (by kernel_rfl) rfl)) (RowIs.cons (at_of_get (hold 19 _ (by kernel_rfl) rfl)) (RowIs.cons (at_of_get (hold 20 _ (by kernel_rfl) rfl)) (RowIs.cons (at_of_get (hold 21 _ (by kernel_rfl) rfl)) (RowIs.cons (at_of_get (hold 22 _ (by kernel_rfl) rfl)) (RowIs.cons (at_of_get (hold 23 _ (by kernel_rfl) rfl)) (RowIs.cons (at_of_get (hold 24 _ (by kernel_rfl) rfl)) (RowIs.cons (at_of_get (hold 25 _ (by kernel_rfl) rfl)) (RowIs.cons (at_of_get (hold 26 _ (by kernel_rfl) rfl)) (RowIs.cons (at_of_get (hold 27 _ (by kernel_rfl) rfl)) (RowIs.cons (at_of_get (hold 28 _ (by kernel_rfl) rfl)) (RowIs.cons (at_of_get (hold 29 _ (by kernel_rfl) rfl)) (RowIs.cons (at_of_get (hold 30 _ (by kernel_rfl) rfl)) (RowIs.cons (at_of_get (hold 31 _ (by kernel_rfl) rfl)) (RowIs.cons (at_of_get (hold 32 _ (by kernel_rfl) rfl)) (RowIs.cons (at_of_get (hold 33 _ (by kernel_rfl) rfl)) (RowIs.cons (at_of_get (hold 34 _ (by kernel_rfl) rfl)) (RowIs.cons (at_of_get (hold 35 _ (by kernel_rfl) rfl)) (RowIs.cons (at_of_get (hold 36 _ (by kernel_rfl) rfl)) (RowIs.cons (at_of_get (hold 37 _ (by kernel_rfl) rfl)) (RowIs.cons (at_of_get (hold 38 _ (by kernel_rfl) rfl)) (RowIs.cons (at_of_get (hold 39 _ (by kernel_rfl) rfl)) (RowIs.cons (at_of_get (hold 40 _ (by kernel_rfl) rfl)) (RowIs.cons (at_of_get (hold 41 _ (by kernel_rfl) rfl)) (RowIs.cons (at_of_get (hold 42 _ (by kernel_rfl) rfl)) (RowIs.cons (at_of_get (hold 43 _ (by kernel_rfl) rfl)) (RowIs.cons (at_of_get (hold 44 _ (by kernel_rfl) rfl)) (RowIs.cons (at_of_get (hold 45 _ (by kernel_rfl) rfl)) (RowIs.cons (at_of_get (hold 46 _ (by kernel_rfl) rfl)) (RowIs.cons (at_of_get (hold 47 _ (by kernel_rfl) rfl)) (RowIs.cons (hvals 0 48 rfl) (RowIs.cons (hvals 1 49 rfl) (RowIs.cons (hvals 2 50 rfl) (RowIs.cons (hvals 3 51 rfl) (RowIs.cons (hvals 4 52 rfl) (RowIs.cons (hvals 5 53 rfl) (RowIs.cons (hvals 6 54 rfl) (RowIs.cons (hvals 7 55 rfl) (RowIs.cons (hvals 8 56 rfl) (RowIs.cons (hvals 9 57 rfl) (RowIs.cons (hvals 10 58 rfl) (RowIs.cons (hvals 11 59 rfl) (RowIs.cons (hvals 12 60 rfl) (RowIs.cons (hvals 13 61 rfl) (RowIs.cons (hvals 14 62 rfl) (RowIs.cons (hvals 15 63 rfl) (RowIs.cons hv64 (RowIs.cons hv65 (RowIs.cons hv66 (RowIs.cons (hvals 19 67 rfl) (RowIs.cons (hvals 20 68 rfl) (RowIs.cons (hvals 21 69 rfl) (RowIs.cons (at_of_get (hold 70 _ (by kernel_rfl) rfl)) (RowIs.cons (at_of_get (hold 71 _ (by kernel_rfl) rfl)) (RowIs.cons (at_of_get (hold 72 _ (by kernel_rfl) rfl)) (RowIs.cons (at_of_get (hold 73 _ (by kernel_rfl) rfl)) (RowIs.cons (at_of_get (hold 74 _ (by kernel_rfl) rfl)) (RowIs.cons (at_of_get (hold 75 _ (by kernel_rfl) rfl)) (RowIs.cons (at_of_get (hold 76 _ (by kernel_rfl) rfl)) (RowIs.cons (at_of_get (hold 77 _ (by kernel_rfl) rfl)) (RowIs.cons (at_of_get (hold 78 _ (by kernel_rfl) rfl)) (RowIs.cons (at_of_get (hold 79 _ (by kernel_rfl) rfl)) (RowIs.cons (at_of_get (hold 80 _ (by kernel_rfl) rfl)) (RowIs.cons (at_of_get (hold 81 _ (by kernel_rfl) rfl)) (RowIs.cons (at_of_get (hold 82 _ (by kernel_rfl) rfl)) (RowIs.cons (at_of_get (hold 83 _ (by kernel_rfl) rfl)) (RowIs.cons (at_of_get (hold 84 _ (by kernel_rfl) rfl)) (RowIs.cons (at_of_get (hold 85 _ (by kernel_rfl) rfl)) (RowIs.cons (at_of_get (hold 86 _ (by kernel_rfl) rfl)) (RowIs.cons (at_of_get (hold 87 _ (by kernel_rfl) rfl)) (RowIs.cons (at_of_get (hold 88 _ (by kernel_rfl) rfl)) (RowIs.cons (at_of_get (hold 89 _ (by kernel_rfl) rfl)) (RowIs.cons (at_of_get (hold 90 _ (by kernel_rfl) rfl)) (RowIs.cons (at_of_get (hold 91 _ (by kernel_rfl) rfl)) (RowIs.nil _ _))))))))))))))))))))))))))))))))))))))))))))))))))))))))))))))))))))))))))))))))))))))))))))) rfl
          clear hsz hdf hold hvals
          subst ha
          try simp only [List.getElem_toArray, List.getElem_cons_succ, List.getElem_cons_zero]
          replace u6 := u6.trans_nil hS
          replace hA := hA.upd_nil hS
          replace hB := hB.upd_nil hS
          replace hJ := hJ.upd_nil hS
          replace hM := hM.upd_nil hS
          clear hS a0 a1 b0 b1 c0 c1 j0 j1 m0 m1
          obtain ⟨wq, rfl⟩ : ∃ wq, wq = w' := ⟨_, rfl⟩
          have a0 := hA.cell 0 rfl
          have a1 := hA.cell 1 rfl
          have b0 := hB.cell 0 rfl
          have b1 := hB.cell 1 rfl
          have j0 := hJ.cell 0 rfl
          have j1 := hJ.cell 1 rfl
          have m0 := hM.cell 0 rfl
          have m1 := hM.cell 1 rfl
          go_upto_region 7 with fail
          refine wp_region_spec [(.eq (.bool true)), (.eq (.bool true)), (.eq (.bool true)), (.eq (.bool true)), (.eq (.bool true)), (.eq (.agg #[.int .i64 x, .int .u32 P])), (.eq (.agg #[.int .i64 y, .int .u32 Q])), (.eq (.bool fab)), (.eq (.agg #[.int .i64 Jl, .int .u32 Jp])), (.eq (.agg #[.int .i64 y, .int .u32 Q])), (.eq (.bool fab)), (.eq (.bool true)), (.eq (.bool true)), (.eq (.bool true)), (.eq (.agg #[.int .i64 x, .int .u32 P])), (.eq (.agg #[.int .i64 y, .int .u32 Q])), (.eq (.bool fab)), (.eq (.agg #[.int .i64 Ml, .int .u32 Mp])), (.eq (.agg #[.int .i64 x, .int .u32 P])), (.eq (.bool fab)), (.eq (.bool true)), (.eq (.bool true)), (.eq (.bool true))] (by kernel_rfl) (by kernel_rfl) rfl ?step ?fin
          case step =>
            intro i o ho a w' hS hold hneed K' hK
            match i, ho with
            | 0, ho =>
              obtain rfl := Option.some.inj ho
              have d9 := hold 9 _ (by kernel_rfl) rfl
              clear hold hneed ho
              (go_simp; (first | exact hK _ _ rfl (Upd.refl [] _) | exact hK _ _ (fun h => Bool.noConfusion h) (Upd.refl [] _) | exact hK _ _ (fun _ => rfl) (Upd.refl [] _)))
            | 1, ho =>
              obtain rfl := Option.some.inj ho
              have d70 := get_of_at (hneed 0 (of_decide_eq_true (by kernel_rfl)) 70 rfl) (by simp [undef])
              clear hold hneed ho
              (go_simp; (first | exact hK _ _ rfl (Upd.refl [] _) | exact hK _ _ (fun h => Bool.noConfusion h) (Upd.refl [] _) | exact hK _ _ (fun _ => rfl) (Upd.refl [] _)))
            | 2, ho =>
              obtain rfl := Option.some.inj ho
              have d10 := hold 10 _ (by kernel_rfl) rfl
              have d71 := get_of_at (hneed 1 (of_decide_eq_true (by kernel_rfl)) 71 rfl) (by simp [undef])
              clear hold hneed ho
              (go_simp; (first | exact hK _ _ rfl (Upd.refl [] _) | exact hK _ _ (fun h => Bool.noConfusion h) (Upd.refl [] _) | exact hK _ _ (fun _ => rfl) (Upd.refl [] _)))
            | 3, ho =>
              obtain rfl := Option.some.inj ho
              have d71 := get_of_at (hneed 1 (of_decide_eq_true (by kernel_rfl)) 71 rfl) (by simp [undef])
              have d72 := get_of_at (hneed 2 (of_decide_eq_true (by kernel_rfl)) 72 rfl) (by simp [undef])
              clear hold hneed ho
              (go_simp; (first | exact hK _ _ rfl (Upd.refl [] _) | exact hK _ _ (fun h => Bool.noConfusion h) (Upd.refl [] _) | exact hK _ _ (fun _ => rfl) (Upd.refl [] _)))
            | 4, ho =>
              obtain rfl := Option.some.inj ho
              have d73 := get_of_at (hneed 3 (of_decide_eq_true (by kernel_rfl)) 73 rfl) (by simp [undef])
              clear hold hneed ho
              (go_simp; (first | exact hK _ _ rfl (Upd.refl [] _) | exact hK _ _ (fun h => Bool.noConfusion h) (Upd.refl [] _) | exact hK _ _ (fun _ => rfl) (Upd.refl [] _)))
            | 5, ho =>
              obtain rfl := Option.some.inj ho
              have d3 := hold 3 _ (by kernel_rfl) rfl
              have d74 := get_of_at (hneed 4 (of_decide_eq_true (by kernel_rfl)) 74 rfl) (by simp [undef])
              clear hold hneed ho
              (have p0 := (hS.cell hA.lt (by simp)).trans a0; have p1 := (hS.cell hA.lt (by simp)).trans a1; go_simp; (first | exact hK _ _ rfl (Upd.refl [] _) | exact hK _ _ (fun h => Bool.noConfusion h) (Upd.refl [] _) | exact hK _ _ (fun _ => rfl) (Upd.refl [] _)))
            | 6, ho =>
              obtain rfl := Option.some.inj ho
              have d4 := hold 4 _ (by kernel_rfl) rfl
              have d74 := get_of_at (hneed 4 (of_decide_eq_true (by kernel_rfl)) 74 rfl) (by simp [undef])
              clear hold hneed ho
              (have p0 := (hS.cell hB.lt (by simp)).trans b0; have p1 := (hS.cell hB.lt (by simp)).trans b1; go_simp; (first | exact hK _ _ rfl (Upd.refl [] _) | exact hK _ _ (fun h => Bool.noConfusion h) (Upd.refl [] _) | exact hK _ _ (fun _ => rfl) (Upd.refl [] _)))
            | 7, ho =>
              obtain rfl := Option.some.inj ho
              have d75 := get_of_at (hneed 5 (of_decide_eq_true (by kernel_rfl)) 75 rfl) (by simp [undef])
              have d76 := get_of_at (hneed 6 (of_decide_eq_true (by kernel_rfl)) 76 rfl) (by simp [undef])
              have d74 := get_of_at (hneed 4 (of_decide_eq_true (by kernel_rfl)) 74 rfl) (by simp [undef])
              clear hold hneed ho
              (go_simp; refine (vflows (x, P) (y, Q) ha hb _).mono ?_; rw [Fab.out]; rintro e w3 ⟨rfl, hu3⟩; exact hK _ _ rfl hu3)
            | 8, ho =>
              obtain rfl := Option.some.inj ho
              have d7 := hold 7 _ (by kernel_rfl) rfl
              have d74 := get_of_at (hneed 4 (of_decide_eq_true (by kernel_rfl)) 74 rfl) (by simp [undef])
              clear hold hneed ho
              (have p0 := (hS.cell hJ.lt (by simp)).trans j0; have p1 := (hS.cell hJ.lt (by simp)).trans j1; go_simp; (first | exact hK _ _ rfl (Upd.refl [] _) | exact hK _ _ (fun h => Bool.noConfusion h) (Upd.refl [] _) | exact hK _ _ (fun _ => rfl) (Upd.refl [] _)))
            | 9, ho =>
              obtain rfl := Option.some.inj ho
              have d4 := hold 4 _ (by kernel_rfl) rfl
              have d74 := get_of_at (hneed 4 (of_decide_eq_true (by kernel_rfl)) 74 rfl) (by simp [undef])
              clear hold hneed ho
              (have p0 := (hS.cell hB.lt (by simp)).trans b0; have p1 := (hS.cell hB.lt (by simp)).trans b1; go_simp; (first | exact hK _ _ rfl (Upd.refl [] _) | exact hK _ _ (fun h => Bool.noConfusion h) (Upd.refl [] _) | exact hK _ _ (fun _ => rfl) (Upd.refl [] _)))
            | 10, ho =>
              obtain rfl := Option.some.inj ho
              have d78 := get_of_at (hneed 8 (of_decide_eq_true (by kernel_rfl)) 78 rfl) (by simp [undef])
              have d79 := get_of_at (hneed 9 (of_decide_eq_true (by kernel_rfl)) 79 rfl) (by simp [undef])
              have d74 := get_of_at (hneed 4 (of_decide_eq_true (by kernel_rfl)) 74 rfl) (by simp [undef])
              clear hold hneed ho
              (by_cases h1 : Jl = y <;> by_cases h2 : (Jp : Int) = (Q : Int) <;> (go_simp; exact hK _ _ (show Value.bool _ = Value.bool fab from congrArg Value.bool (by rw [← Ejb.out]; first | exact (decide_eq_true (by omega)).symm | exact (decide_eq_false (by omega)).symm)) (Upd.refl [] _)))
            | 11, ho =>
              obtain rfl := Option.some.inj ho
              have d77 := get_of_at (hneed 7 (of_decide_eq_true (by kernel_rfl)) 77 rfl) (by simp [undef])
              have d80 := get_of_at (hneed 10 (of_decide_eq_true (by kernel_rfl)) 80 rfl) (by simp [undef])
              have d74 := get_of_at (hneed 4 (of_decide_eq_true (by kernel_rfl)) 74 rfl) (by simp [undef])
              clear hold hneed ho
              (cases fab <;> (go_simp; (first | exact hK _ _ rfl (Upd.refl [] _) | exact hK _ _ (fun h => Bool.noConfusion h) (Upd.refl [] _) | exact hK _ _ (fun _ => rfl) (Upd.refl [] _))))
            | 12, ho =>
              obtain rfl := Option.some.inj ho
              have d74 := get_of_at (hneed 4 (of_decide_eq_true (by kernel_rfl)) 74 rfl) (by simp [undef])
              have d81 := get_of_at (hneed 11 (of_decide_eq_true (by kernel_rfl)) 81 rfl) (by simp [undef])
              clear hold hneed ho
              (go_simp; (first | exact hK _ _ rfl (Upd.refl [] _) | exact hK _ _ (fun h => Bool.noConfusion h) (Upd.refl [] _) | exact hK _ _ (fun _ => rfl) (Upd.refl [] _)))
            | 13, ho =>
              obtain rfl := Option.some.inj ho
              have d82 := get_of_at (hneed 12 (of_decide_eq_true (by kernel_rfl)) 82 rfl) (by simp [undef])
              clear hold hneed ho
              (go_simp; (first | exact hK _ _ rfl (Upd.refl [] _) | exact hK _ _ (fun h => Bool.noConfusion h) (Upd.refl [] _) | exact hK _ _ (fun _ => rfl) (Upd.refl [] _)))
            | 14, ho =>
              obtain rfl := Option.some.inj ho
              have d3 := hold 3 _ (by kernel_rfl) rfl
              have d83 := get_of_at (hneed 13 (of_decide_eq_true (by kernel_rfl)) 83 rfl) (by simp [undef])
              clear hold hneed ho
              (have p0 := (hS.cell hA.lt (by simp)).trans a0; have p1 := (hS.cell hA.lt (by simp)).trans a1; go_simp; (first | exact hK _ _ rfl (Upd.refl [] _) | exact hK _ _ (fun h => Bool.noConfusion h) (Upd.refl [] _) | exact hK _ _ (fun _ => rfl) (Upd.refl [] _)))
            | 15, ho =>
              obtain rfl := Option.some.inj ho
              have d4 := hold 4 _ (by kernel_rfl) rfl
              have d83 := get_of_at (hneed 13 (of_decide_eq_true (by kernel_rfl)) 83 rfl) (by simp [undef])
              clear hold hneed ho
              (have p0 := (hS.cell hB.lt (by simp)).trans b0; have p1 := (hS.cell hB.lt (by simp)).trans b1; go_simp; (first | exact hK _ _ rfl (Upd.refl [] _) | exact hK _ _ (fun h => Bool.noConfusion h) (Upd.refl [] _) | exact hK _ _ (fun _ => rfl) (Upd.refl [] _)))
            | 16, ho =>
              obtain rfl := Option.some.inj ho
              have d84 := get_of_at (hneed 14 (of_decide_eq_true (by kernel_rfl)) 84 rfl) (by simp [undef])
              have d85 := get_of_at (hneed 15 (of_decide_eq_true (by kernel_rfl)) 85 rfl) (by simp [undef])
              have d83 := get_of_at (hneed 13 (of_decide_eq_true (by kernel_rfl)) 83 rfl) (by simp [undef])
              clear hold hneed ho
              (go_simp; refine (vflows (x, P) (y, Q) ha hb _).mono ?_; rw [Fab.out]; rintro e w3 ⟨rfl, hu3⟩; exact hK _ _ rfl hu3)
            | 17, ho =>
              obtain rfl := Option.some.inj ho
              have d8 := hold 8 _ (by kernel_rfl) rfl
              have d83 := get_of_at (hneed 13 (of_decide_eq_true (by kernel_rfl)) 83 rfl) (by simp [undef])
              clear hold hneed ho
              (have p0 := (hS.cell hM.lt (by simp)).trans m0; have p1 := (hS.cell hM.lt (by simp)).trans m1; go_simp; (first | exact hK _ _ rfl (Upd.refl [] _) | exact hK _ _ (fun h => Bool.noConfusion h) (Upd.refl [] _) | exact hK _ _ (fun _ => rfl) (Upd.refl [] _)))
            | 18, ho =>
              obtain rfl := Option.some.inj ho
              have d3 := hold 3 _ (by kernel_rfl) rfl
              have d83 := get_of_at (hneed 13 (of_decide_eq_true (by kernel_rfl)) 83 rfl) (by simp [undef])
              clear hold hneed ho
              (have p0 := (hS.cell hA.lt (by simp)).trans a0; have p1 := (hS.cell hA.lt (by simp)).trans a1; go_simp; (first | exact hK _ _ rfl (Upd.refl [] _) | exact hK _ _ (fun h => Bool.noConfusion h) (Upd.refl [] _) | exact hK _ _ (fun _ => rfl) (Upd.refl [] _)))
            | 19, ho =>
              obtain rfl := Option.some.inj ho
              have d87 := get_of_at (hneed 17 (of_decide_eq_true (by kernel_rfl)) 87 rfl) (by simp [undef])
              have d88 := get_of_at (hneed 18 (of_decide_eq_true (by kernel_rfl)) 88 rfl) (by simp [undef])
              have d83 := get_of_at (hneed 13 (of_decide_eq_true (by kernel_rfl)) 83 rfl) (by simp [undef])
              clear hold hneed ho
              (by_cases h1 : Ml = x <;> by_cases h2 : (Mp : Int) = (P : Int) <;> (go_simp; exact hK _ _ (show Value.bool _ = Value.bool fab from congrArg Value.bool (by rw [← Ema.out]; first | exact (decide_eq_true (by omega)).symm | exact (decide_eq_false (by omega)).symm)) (Upd.refl [] _)))
            | 20, ho =>
              obtain rfl := Option.some.inj ho
              have d86 := get_of_at (hneed 16 (of_decide_eq_true (by kernel_rfl)) 86 rfl) (by simp [undef])
              have d89 := get_of_at (hneed 19 (of_decide_eq_true (by kernel_rfl)) 89 rfl) (by simp [undef])
              have d83 := get_of_at (hneed 13 (of_decide_eq_true (by kernel_rfl)) 83 rfl) (by simp [undef])
              clear hold hneed ho
              (cases fab <;> (go_simp; (first | exact hK _ _ rfl (Upd.refl [] _) | exact hK _ _ (fun h => Bool.noConfusion h) (Upd.refl [] _) | exact hK _ _ (fun _ => rfl) (Upd.refl [] _))))
            | 21, ho =>
              obtain rfl := Option.some.inj ho
              have d83 := get_of_at (hneed 13 (of_decide_eq_true (by kernel_rfl)) 83 rfl) (by simp [undef])
              have d90 := get_of_at (hneed 20 (of_decide_eq_true (by kernel_rfl)) 90 rfl) (by simp [undef])
              clear hold hneed ho
              (go_simp; (first | exact hK _ _ rfl (Upd.refl [] _) | exact hK _ _ (fun h => Bool.noConfusion h) (Upd.refl [] _) | exact hK _ _ (fun _ => rfl) (Upd.refl [] _)))
            | 22, ho =>
              obtain rfl := Option.some.inj ho
              have d91 := get_of_at (hneed 21 (of_decide_eq_true (by kernel_rfl)) 91 rfl) (by simp [undef])
              clear hold hneed ho
              (go_simp; (first | exact hK _ _ rfl (Upd.refl [] _) | exact hK _ _ (fun h => Bool.noConfusion h) (Upd.refl [] _) | exact hK _ _ (fun _ => rfl) (Upd.refl [] _)))
            | _ + 23, ho => exact absurd ho (by simp)
          case fin =>
            intro a w' hS hsz hdf hold hvals
            have ha := act_lit hsz hdf (RowIs.cons (at_of_get (hold 0 _ (by kernel_rfl) rfl)) (RowIs.cons (at_of_get (hold 1 _ (by kernel_rfl) rfl)) (RowIs.cons (at_of_get (hold 2 _ (by kernel_rfl) rfl)) (RowIs.cons (at_of_get (hold 3 _ (by kernel_rfl) rfl)) (RowIs.cons (at_of_get (hold 4 _ (by kernel_rfl) rfl)) (RowIs.cons (at_of_get (hold 5 _ (by kernel_rfl) rfl)) (RowIs.cons (hvals 22 6 rfl) (RowIs.cons (at_of_get (hold 7 _ (by kernel_rfl) rfl)) (RowIs.cons (at_of_get (hold 8 _ (by kernel_rfl) rfl)) (RowIs.cons (at_of_get (hold 9 _ (by kernel_rfl) rfl)) (RowIs.cons (at_of_get (hold 10 _ (by kernel_rfl) rfl)) (RowIs.cons (at_of_get (hold 11 _ (by kernel_rfl) rfl)) (RowIs.cons (at_of_get (hold 12 _ (by kernel_rfl) rfl)) (RowIs.cons (at_of_get (hold 13 _ (by kernel_rfl) rfl)) (RowIs.cons (at_of_get (hold 14 _ (by kernel_rfl) rfl)) (RowIs.cons (at_of_get (hold 15 _ (by kernel_rfl) rfl)) (RowIs.cons (at_of_get (hold 16 _ (by kernel_rfl) rfl)) (RowIs.cons (at_of_get (hold 17 _ (by kernel_rfl) rfl)) (RowIs.cons (at_of_get (hold 18 _ (by kernel_rfl) rfl)) (RowIs.cons (at_of_get (hold 19 _ (by kernel_rfl) rfl)) (RowIs.cons (at_of_get (hold 20 _ (by kernel_rfl) rfl)) (RowIs.cons (at_of_get (hold 21 _ (by kernel_rfl) rfl)) (RowIs.cons (at_of_get (hold 22 _ (by kernel_rfl) rfl)) (RowIs.cons (at_of_get (hold 23 _ (by kernel_rfl) rfl)) (RowIs.cons (at_of_get (hold 24 _ (by kernel_rfl) rfl)) (RowIs.cons (at_of_get (hold 25 _ (by kernel_rfl) rfl)) (RowIs.cons (at_of_get (hold 26 _ (by kernel_rfl) rfl)) (RowIs.cons (at_of_get (hold 27 _ (by kernel_rfl) rfl)) (RowIs.cons (at_of_get (hold 28 _ (by kernel_rfl) rfl)) (RowIs.cons (at_of_get (hold 29 _ (by kernel_rfl) rfl)) (RowIs.cons (at_of_get (hold 30 _ (by kernel_rfl) rfl)) (RowIs.cons (at_of_get (hold 31 _ (by kernel_rfl) rfl)) (RowIs.cons (at_of_get (hold 32 _ (by kernel_rfl) rfl)) (RowIs.cons (at_of_get (hold 33 _ (by kernel_rfl) rfl)) (RowIs.cons (at_of_get (hold 34 _ (by kernel_rfl) rfl)) (RowIs.cons (at_of_get (hold 35 _ (by kernel_rfl) rfl)) (RowIs.cons (at_of_get (hold 36 _ (by kernel_rfl) rfl)) (RowIs.cons (at_of_get (hold 37 _ (by kernel_rfl) rfl)) (RowIs.cons (at_of_get (hold 38 _ (by kernel_rfl) rfl)) (RowIs.cons (at_of_get (hold 39 _ (by kernel_rfl) rfl)) (RowIs.cons (at_of_get (hold 40 _ (by kernel_rfl) rfl)) (RowIs.cons (at_of_get (hold 41 _ (by kernel_rfl) rfl)) (RowIs.cons (at_of_get (hold 42 _ (by kernel_rfl) rfl)) (RowIs.cons (at_of_get (hold 43 _ (by kernel_rfl) rfl)) (RowIs.cons (at_of_get (hold 44 _ (by kernel_rfl) rfl)) (RowIs.cons (at_of_get (hold 45 _ (by kernel_rfl) rfl)) (RowIs.cons (at_of_get (hold 46 _ (by kernel_rfl) rfl)) (RowIs.cons (at_of_get (hold 47 _ (by kernel_rfl) rfl)) (RowIs.cons (at_of_get (hold 48 _ (by kernel_rfl) rfl)) (RowIs.cons (at_of_get (hold 49 _ (by kernel_rfl) rfl)) (RowIs.cons (at_of_get (hold 50 _ (by kernel_rfl) rfl)) (RowIs.cons (at_of_get (hold 51 _ (by kernel_rfl) rfl)) (RowIs.cons (at_of_get (hold 52 _ (by kernel_rfl) rfl)) (RowIs.cons (at_of_get (hold 53 _ (by kernel_rfl) rfl)) (RowIs.cons (at_of_get (hold 54 _ (by kernel_rfl) rfl)) (RowIs.cons (at_of_get (hold 55 _ (by kernel_rfl) rfl)) (RowIs.cons (at_of_get (hold 56 _ (by kernel_rfl) rfl)) (RowIs.cons (at_of_get (hold 57 _ (by kernel_rfl) rfl)) (RowIs.cons (at_of_get (hold 58 _ (by kernel_rfl) rfl)) (RowIs.cons (at_of_get (hold 59 _ (by kernel_rfl) rfl)) (RowIs.cons (at_of_get (hold 60 _ (by kernel_rfl) rfl)) (RowIs.cons (at_of_get (hold 61 _ (by kernel_rfl) rfl)) (RowIs.cons (at_of_get (hold 62 _ (by kernel_rfl) rfl)) (RowIs.cons (at_of_get (hold 63 _ (by kernel_rfl) rfl)) (RowIs.cons (at_of_get (hold 64 _ (by kernel_rfl) rfl)) (RowIs.cons (at_of_get (hold 65 _ (by kernel_rfl) rfl)) (RowIs.cons (at_of_get (hold 66 _ (by kernel_rfl) rfl)) (RowIs.cons (at_of_get (hold 67 _ (by kernel_rfl) rfl)) (RowIs.cons (at_of_get (hold 68 _ (by kernel_rfl) rfl)) (RowIs.cons (at_of_get (hold 69 _ (by kernel_rfl) rfl)) (RowIs.cons (hvals 0 70 rfl) (RowIs.cons (hvals 1 71 rfl) (RowIs.cons (hvals 2 72 rfl) (RowIs.cons (hvals 3 73 rfl) (RowIs.cons (hvals 4 74 rfl) (RowIs.cons (hvals 5 75 rfl) (RowIs.cons (hvals 6 76 rfl) (RowIs.cons (hvals 7 77 rfl) (RowIs.cons (hvals 8 78 rfl) (RowIs.cons (hvals 9 79 rfl) (RowIs.cons (hvals 10 80 rfl) (RowIs.cons (hvals 11 81 rfl) (RowIs.cons (hvals 12 82 rfl) (RowIs.cons (hvals 13 83 rfl) (RowIs.cons (hvals 14 84 rfl) (RowIs.cons (hvals 15 85 rfl) (RowIs.cons (hvals 16 86 rfl) (RowIs.cons (hvals 17 87 rfl) (RowIs.cons (hvals 18 88 rfl) (RowIs.cons (hvals 19 89 rfl) (RowIs.cons (hvals 20 90 rfl) (RowIs.cons (hvals 21 91 rfl) (RowIs.nil _ _))))))))))))))))))))))))))))))))))))))))))))))))))))))))))))))))))))))))))))))))))))))))))))) rfl
            clear hsz hdf hold hvals
            subst ha
            try simp only [List.getElem_toArray, List.getElem_cons_succ, List.getElem_cons_zero]
            go_wp2_with fail
            go_ret
            exact ⟨rfl, u6.trans_nil hS⟩

end Go.Proofs.YtpkllbnaoiggkaaDoor
