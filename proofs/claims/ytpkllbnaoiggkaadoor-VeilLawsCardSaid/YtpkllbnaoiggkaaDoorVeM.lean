/- VeilOrder, VeilBounds, VeilLaws: up to near. -/
import Derived.Test.YtpkllbnaoiggkaaDoorVeH
import Derived.Test.YtpkllbnaoiggkaaDoorVeO
import Derived.Test.YtpkllbnaoiggkaaDoorRew
namespace Go.Proofs.YtpkllbnaoiggkaaDoor
open Go.RowKit

theorem Upd.trans_nil' {bs : List Nat} {a b c : World} (h : Upd [] a b) (k : Upd bs b c) (hc : ∀ x ∈ bs, a.heap.size ≤ x) : Upd [] a c := h.trans k (fun x hx => Or.inr (hc x hx))

set_option maxHeartbeats 4000000 in
set_option maxRecDepth 100000 in
theorem order_walk (a b c : Lab) (ha : a.2 < 4294967296) (hb : b.2 < 4294967296) (hc : c.2 < 4294967296) (ha1 : -9223372036854775808 ≤ a.1 ∧ a.1 ≤ 9223372036854775807) (hb1 : -9223372036854775808 ≤ b.1 ∧ b.1 ≤ 9223372036854775807) (hc1 : -9223372036854775808 ≤ c.1 ∧ c.1 ≤ 9223372036854775807) (w : World) (hO : LaidOk w) :
    Calls Tryd.prog 4 #[labV a, labV b, labV c] w fun e w' => e = .returned (.bool true) ∧ Upd [] w w' := by
  obtain ⟨L, P⟩ := a
  obtain ⟨M, Q⟩ := b
  obtain ⟨N, R⟩ := c
  dsimp only at *
  obtain ⟨⟨m, h1⟩, h5⟩ := hO
  have u2 := (((Upd.refl [] w).alloc (.cells #[.int .i64 L, .int .u32 P] 24)).alloc (.cells #[.int .i64 M, .int .u32 Q] 24)).alloc (.cells #[.int .i64 N, .int .u32 R] 24)
  have hA2 := ((Blk.new w #[.int .i64 L, .int .u32 P] 24).alloc (.cells #[.int .i64 M, .int .u32 Q] 24)).alloc (.cells #[.int .i64 N, .int .u32 R] 24)
  have hB2 := (Blk.new_at (w := w.alloc (.cells #[.int .i64 L, .int .u32 P] 24)) (cs := #[.int .i64 M, .int .u32 Q]) (l := [.int .i64 M, .int .u32 Q]) (T := 24) (n := w.heap.size + 1) (by simp) rfl).alloc (.cells #[.int .i64 N, .int .u32 R] 24)
  have hC2 := Blk.new_at (w := (w.alloc (.cells #[.int .i64 L, .int .u32 P] 24)).alloc (.cells #[.int .i64 M, .int .u32 Q] 24)) (cs := #[.int .i64 N, .int .u32 R]) (l := [.int .i64 N, .int .u32 R]) (T := 24) (n := w.heap.size + 2) (by simp) rfl
  go_enter Tryd.func4, Tryd.ntmps4
  unfold labV
  go_upto_region 1 with fail
  generalize ((w.alloc (.cells #[.int .i64 L, .int .u32 P] 24)).alloc (.cells #[.int .i64 M, .int .u32 Q] 24)).alloc (.cells #[.int .i64 N, .int .u32 R] 24) = W at *
  generalize hg : w.heap.size = t2 at *
  have z1 := (u2.cell (lt_of_cell h1) (by simp)).trans h1
  have z5 := (u2.cell (lt_of_cell h5) (by simp)).trans h5
  go_upto_region 3 with (go_at_call 17; refine (works_any _ m z1 z5).mono ?_; rintro e w3 ⟨rfl, hu3⟩)
  have u3 := u2.trans_nil hu3
  have hA3 := hA2.upd_nil hu3
  have hB3 := hB2.upd_nil hu3
  have hC3 := hC2.upd_nil hu3
  clear hA2 hB2 hC2 u2 z1 z5 hu3
  refine wp_region_blk [(.eq (.agg #[.int .i64 L, .int .u32 P])), (.eq (.agg #[.int .i64 (L % 8), .int .u32 P])), (.eq (.agg #[.int .i64 M, .int .u32 Q])), (.eq (.agg #[.int .i64 (M % 8), .int .u32 Q])), (.eq (.agg #[.int .i64 N, .int .u32 R])), (.eq (.agg #[.int .i64 (N % 8), .int .u32 R])), .any, .any, .any] [⟨6, (t2), ([.int .i64 L, .int .u32 P]), ([.int .i64 (L % 8), .int .u32 P]), (24)⟩, ⟨7, (t2 + 1), ([.int .i64 M, .int .u32 Q]), ([.int .i64 (M % 8), .int .u32 Q]), (24)⟩, ⟨8, (t2 + 1 + 1), ([.int .i64 N, .int .u32 R]), ([.int .i64 (N % 8), .int .u32 R]), (24)⟩] (by kernel_rfl) (by kernel_rfl) rfl ?ne ?pre ?step ?fin
  case ne => intro x hx y hy hxy; simp only [List.mem_cons, List.not_mem_nil, or_false] at hx hy; rcases hx with rfl | rfl | rfl <;> rcases hy with rfl | rfl | rfl <;> first | (exact absurd rfl hxy) | (dsimp only; omega)
  case pre => intro x hx; simp only [List.mem_cons, List.not_mem_nil, or_false] at hx; rcases hx with rfl | rfl | rfl <;> assumption
  case step =>
    intro i o ho a w' hS hold hneed hun K' hK
    match i, ho with
    | 0, ho =>
      obtain rfl := Option.some.inj ho
      have q6 := hun 6 (.inr (by kernel_rfl))
      have q7 := hun 7 (.inr (by kernel_rfl))
      have q8 := hun 8 (.inr (by kernel_rfl))
      replace hneed := fun j hj => (hneed j hj).2
      replace hK := fun v w1 h u => hK v w1 h trivial u
      clear hun
      have d3 := hold 3 _ (by kernel_rfl) rfl
      clear hold hneed ho
      (have p0 := q6.cell 0 rfl; have p1 := q6.cell 1 rfl; go_simp; exact hK _ _ rfl (Upd.refl [] _))
    | 1, ho =>
      obtain rfl := Option.some.inj ho
      have q6 := hun 6 (.inr (by kernel_rfl))
      have q7 := hun 7 (.inr (by kernel_rfl))
      have q8 := hun 8 (.inr (by kernel_rfl))
      replace hneed := fun j hj => (hneed j hj).2
      replace hK := fun v w1 h u => hK v w1 h trivial u
      clear hun
      have d12 := get_of_at (hneed 0 (of_decide_eq_true (by kernel_rfl)) 12 rfl) (by simp [undef])
      clear hold hneed ho
      (go_simp; refine (vnear L P _ ha1.1 ha1.2).mono ?_; rintro e w3 ⟨rfl, hu3⟩; exact hK _ _ rfl hu3)
    | 2, ho =>
      obtain rfl := Option.some.inj ho
      have q6 := hun 6 (.inr (by kernel_rfl))
      have q7 := hun 7 (.inr (by kernel_rfl))
      have q8 := hun 8 (.inr (by kernel_rfl))
      replace hneed := fun j hj => (hneed j hj).2
      replace hK := fun v w1 h u => hK v w1 h trivial u
      clear hun
      have d4 := hold 4 _ (by kernel_rfl) rfl
      clear hold hneed ho
      (have p0 := q7.cell 0 rfl; have p1 := q7.cell 1 rfl; go_simp; exact hK _ _ rfl (Upd.refl [] _))
    | 3, ho =>
      obtain rfl := Option.some.inj ho
      have q6 := hun 6 (.inr (by kernel_rfl))
      have q7 := hun 7 (.inr (by kernel_rfl))
      have q8 := hun 8 (.inr (by kernel_rfl))
      replace hneed := fun j hj => (hneed j hj).2
      replace hK := fun v w1 h u => hK v w1 h trivial u
      clear hun
      have d14 := get_of_at (hneed 2 (of_decide_eq_true (by kernel_rfl)) 14 rfl) (by simp [undef])
      clear hold hneed ho
      (go_simp; refine (vnear M Q _ hb1.1 hb1.2).mono ?_; rintro e w3 ⟨rfl, hu3⟩; exact hK _ _ rfl hu3)
    | 4, ho =>
      obtain rfl := Option.some.inj ho
      have q6 := hun 6 (.inr (by kernel_rfl))
      have q7 := hun 7 (.inr (by kernel_rfl))
      have q8 := hun 8 (.inr (by kernel_rfl))
      replace hneed := fun j hj => (hneed j hj).2
      replace hK := fun v w1 h u => hK v w1 h trivial u
      clear hun
      have d5 := hold 5 _ (by kernel_rfl) rfl
      clear hold hneed ho
      (have p0 := q8.cell 0 rfl; have p1 := q8.cell 1 rfl; go_simp; exact hK _ _ rfl (Upd.refl [] _))
    | 5, ho =>
      obtain rfl := Option.some.inj ho
      have q6 := hun 6 (.inr (by kernel_rfl))
      have q7 := hun 7 (.inr (by kernel_rfl))
      have q8 := hun 8 (.inr (by kernel_rfl))
      replace hneed := fun j hj => (hneed j hj).2
      replace hK := fun v w1 h u => hK v w1 h trivial u
      clear hun
      have d16 := get_of_at (hneed 4 (of_decide_eq_true (by kernel_rfl)) 16 rfl) (by simp [undef])
      clear hold hneed ho
      (go_simp; refine (vnear N R _ hc1.1 hc1.2).mono ?_; rintro e w3 ⟨rfl, hu3⟩; exact hK _ _ rfl hu3)
    | 6, ho =>
      obtain rfl := Option.some.inj ho
      have q6 := hun 6 (.inl rfl)
      have q7 := hun 7 (.inr (by kernel_rfl))
      have q8 := hun 8 (.inr (by kernel_rfl))
      change Blk _ _ _ _ at q6
      replace hneed := fun j hj => (hneed j hj).2
      clear hun
      have d3 := hold 3 _ (by kernel_rfl) rfl
      have d13 := get_of_at (hneed 1 (of_decide_eq_true (by kernel_rfl)) 13 rfl) (by simp [undef])
      clear hold hneed ho
      (have p0 := q6.cell 0 rfl; have p1 := q6.cell 1 rfl; have f0 := q6.free 0; have f1 := q6.free 1; go_simp; exact hK undef _ trivial ((q6.set 0 _).set 1 _) (((Upd.refl _ _).setCell (Or.inl (by simp [effOf, BE.eff])) _).setCell (Or.inl (by simp [effOf, BE.eff])) _))
    | 7, ho =>
      obtain rfl := Option.some.inj ho
      have r6 := (hneed 6 (of_decide_eq_true (by kernel_rfl))).1
      have q7 := hun 7 (.inl rfl)
      have q8 := hun 8 (.inr (by kernel_rfl))
      change Blk _ _ _ _ at q7
      replace hneed := fun j hj => (hneed j hj).2
      clear hun
      have d4 := hold 4 _ (by kernel_rfl) rfl
      have d15 := get_of_at (hneed 3 (of_decide_eq_true (by kernel_rfl)) 15 rfl) (by simp [undef])
      clear hold hneed ho
      (have p0 := q7.cell 0 rfl; have p1 := q7.cell 1 rfl; have f0 := q7.free 0; have f1 := q7.free 1; go_simp; exact hK undef _ trivial ((q7.set 0 _).set 1 _) (((Upd.refl _ _).setCell (Or.inl (by simp [effOf, BE.eff])) _).setCell (Or.inl (by simp [effOf, BE.eff])) _))
    | 8, ho =>
      obtain rfl := Option.some.inj ho
      have r6 := (hneed 6 (of_decide_eq_true (by kernel_rfl))).1
      have r7 := (hneed 7 (of_decide_eq_true (by kernel_rfl))).1
      have q8 := hun 8 (.inl rfl)
      change Blk _ _ _ _ at q8
      replace hneed := fun j hj => (hneed j hj).2
      clear hun
      have d5 := hold 5 _ (by kernel_rfl) rfl
      have d17 := get_of_at (hneed 5 (of_decide_eq_true (by kernel_rfl)) 17 rfl) (by simp [undef])
      clear hold hneed ho
      (have p0 := q8.cell 0 rfl; have p1 := q8.cell 1 rfl; have f0 := q8.free 0; have f1 := q8.free 1; go_simp; exact hK undef _ trivial ((q8.set 0 _).set 1 _) (((Upd.refl _ _).setCell (Or.inl (by simp [effOf, BE.eff])) _).setCell (Or.inl (by simp [effOf, BE.eff])) _))
    | _ + 9, ho => exact absurd ho (by simp)
  case fin =>
    intro a w' hS hsz hdf hold hvals hposts
    have hP6 : Blk w' (t2) ([.int .i64 (L % 8), .int .u32 P]) (24) := hposts 6 (of_decide_eq_true (by kernel_rfl))
    have hP7 : Blk w' (t2 + 1) ([.int .i64 (M % 8), .int .u32 Q]) (24) := hposts 7 (of_decide_eq_true (by kernel_rfl))
    have hP8 : Blk w' (t2 + 1 + 1) ([.int .i64 (N % 8), .int .u32 R]) (24) := hposts 8 (of_decide_eq_true (by kernel_rfl))
    have ha := act_lit hsz hdf (RowIs.cons (at_of_get (hold 0 _ (by kernel_rfl) rfl)) (RowIs.cons (at_of_get (hold 1 _ (by kernel_rfl) rfl)) (RowIs.cons (at_of_get (hold 2 _ (by kernel_rfl) rfl)) (RowIs.cons (at_of_get (hold 3 _ (by kernel_rfl) rfl)) (RowIs.cons (at_of_get (hold 4 _ (by kernel_rfl) rfl)) (RowIs.cons (at_of_get (hold 5 _ (by kernel_rfl) rfl)) (RowIs.cons (at_of_get (hold 6 _ (by kernel_rfl) rfl)) (RowIs.cons (at_of_get (hold 7 _ (by kernel_rfl) rfl)) (RowIs.cons (at_of_get (hold 8 _ (by kernel_rfl) rfl)) (RowIs.cons (at_of_get (hold 9 _ (by kernel_rfl) rfl)) (RowIs.cons (at_of_get (hold 10 _ (by kernel_rfl) rfl)) (RowIs.cons (at_of_get (hold 11 _ (by kernel_rfl) rfl)) (RowIs.cons (hvals 0 12 rfl) (RowIs.cons (hvals 1 13 rfl) (RowIs.cons (hvals 2 14 rfl) (RowIs.cons (hvals 3 15 rfl) (RowIs.cons (hvals 4 16 rfl) (RowIs.cons (hvals 5 17 rfl) (RowIs.cons (at_of_get (hold 18 _ (by kernel_rfl) rfl)) (RowIs.cons (at_of_get (hold 19 _ (by kernel_rfl) rfl)) (RowIs.cons (at_of_get (hold 20 _ (by kernel_rfl) rfl)) (RowIs.cons (at_of_get (hold 21 _ (by kernel_rfl) rfl)) (RowIs.cons (at_of_get (hold 22 _ (by kernel_rfl) rfl)) (RowIs.cons (at_of_get (hold 23 _ (by kernel_rfl) rfl)) (RowIs.cons (at_of_get (hold 24 _ (by kernel_rfl) rfl)) (RowIs.cons (at_of_get (hold 25 _ (by kernel_rfl) rfl)) (RowIs.cons (at_of_get (hold 26 _ (by kernel_rfl) rfl)) (RowIs.cons (at_of_get (hold 27 _ (by kernel_rfl) rfl)) (RowIs.cons (at_of_get (hold 28 _ (by kernel_rfl) rfl)) (RowIs.cons (at_of_get (hold 29 _ (by kernel_rfl) rfl)) (RowIs.cons (at_of_get (hold 30 _ (by kernel_rfl) rfl)) (RowIs.cons (at_of_get (hold 31 _ (by kernel_rfl) rfl)) (RowIs.cons (at_of_get (hold 32 _ (by kernel_rfl) rfl)) (RowIs.cons (at_of_get (hold 33 _ (by kernel_rfl) rfl)) (RowIs.cons (at_of_get (hold 34 _ (by kernel_rfl) rfl)) (RowIs.cons (at_of_get (hold 35 _ (by kernel_rfl) rfl)) (RowIs.cons (at_of_get (hold 36 _ (by kernel_rfl) rfl)) (RowIs.cons (at_of_get (hold 37 _ (by kernel_rfl) rfl)) (RowIs.cons (at_of_get (hold 38 _ (by kernel_rfl) rfl)) (RowIs.cons (at_of_get (hold 39 _ (by kernel_rfl) rfl)) (RowIs.cons (at_of_get (hold 40 _ (by kernel_rfl) rfl)) (RowIs.cons (at_of_get (hold 41 _ (by kernel_rfl) rfl)) (RowIs.cons (at_of_get (hold 42 _ (by kernel_rfl) rfl)) (RowIs.cons (at_of_get (hold 43 _ (by kernel_rfl) rfl)) (RowIs.cons (at_of_get (hold 44 _ (by kernel_rfl) rfl)) (RowIs.cons (at_of_get (hold 45 _ (by kernel_rfl) rfl)) (RowIs.cons (at_of_get (hold 46 _ (by kernel_rfl) rfl)) (RowIs.cons (at_of_get (hold 47 _ (by kernel_rfl) rfl)) (RowIs.cons (at_of_get (hold 48 _ (by kernel_rfl) rfl)) (RowIs.cons (at_of_get (hold 49 _ (by kernel_rfl) rfl)) (RowIs.cons (at_of_get (hold 50 _ (by kernel_rfl) rfl)) (RowIs.cons (at_of_get (hold 51 _ (by kernel_rfl) rfl)) (RowIs.cons (at_of_get (hold 52 _ (by kernel_rfl) rfl)) (RowIs.cons (at_of_get (hold 53 _ (by kernel_rfl) rfl)) (RowIs.cons (at_of_get (hold 54 _ (by kernel_rfl) rfl)) (RowIs.cons (at_of_get (hold 55 _ (by kernel_rfl) rfl)) (RowIs.cons (at_of_get (hold 56 _ (by kernel_rfl) rfl)) (RowIs.cons (at_of_get (hold 57 _ (by kernel_rfl) rfl)) (RowIs.cons (at_of_get (hold 58 _ (by kernel_rfl) rfl)) (RowIs.cons (at_of_get (hold 59 _ (by kernel_rfl) rfl)) (RowIs.cons (at_of_get (hold 60 _ (by kernel_rfl) rfl)) (RowIs.cons (at_of_get (hold 61 _ (by kernel_rfl) rfl)) (RowIs.cons (at_of_get (hold 62 _ (by kernel_rfl) rfl)) (RowIs.cons (at_of_get (hold 63 _ (by kernel_rfl) rfl)) (RowIs.cons (at_of_get (hold 64 _ (by kernel_rfl) rfl)) (RowIs.cons (at_of_get (hold 65 _ (by kernel_rfl) rfl)) (RowIs.nil _ _))))))))))))))))))))))))))))))))))))))))))))))))))))))))))))))))))) rfl
    clear hsz hdf hold hvals hposts
    subst ha
    simp only [List.getElem_toArray, List.getElem_cons_succ, List.getElem_cons_zero]
    have u4 := u3.trans_nil' hS (by simp; omega)
    have hA := hP6
    have hB := hP7
    have hC := hP8
    clear hP6 hP7 hP8 hS u3 hA3 hB3 hC3
    have mx : mayL (L % 8, P) = true := by unfold mayL; simp; omega
    have my : mayL (M % 8, Q) = true := by unfold mayL; simp; omega
    have mz : mayL (N % 8, R) = true := by unfold mayL; simp; omega
    generalize L % 8 = x at *
    generalize M % 8 = y at *
    generalize N % 8 = z at *
    obtain ⟨wo, rfl⟩ : ∃ wo, wo = w' := ⟨_, rfl⟩
    obtain ⟨fab, Fab⟩ : ∃ f, Hid (flowsL (x, P) (y, Q) = f) := ⟨_, Lib.hid rfl⟩
    obtain ⟨fbc, Fbc⟩ : ∃ f, Hid (flowsL (y, Q) (z, R) = f) := ⟨_, Lib.hid rfl⟩
    obtain ⟨fac, Fac⟩ : ∃ f, Hid (flowsL (x, P) (z, R) = f) := ⟨_, Lib.hid rfl⟩
    obtain ⟨fba, Fba⟩ : ∃ f, Hid (flowsL (y, Q) (x, P) = f) := ⟨_, Lib.hid rfl⟩
    have Faa : Hid (flowsL (x, P) (x, P) = true) := Lib.hid ((flowsL_iff _ _).2 ⟨mx, mx, Int.le_refl _, subN_refl _⟩)
    have F0a : Hid (flowsL (0, 0) (x, P) = true) := Lib.hid ((flowsL_iff _ _).2 ⟨by decide, mx, by unfold mayL at mx; simp at mx; exact mx.1, subN_zero _⟩)
    have Fa7 : Hid (flowsL (x, P) (7, 4294967295) = true) := Lib.hid ((flowsL_iff _ _).2 ⟨mx, by decide, by unfold mayL at mx; simp at mx; exact mx.2, subN_top _ ha⟩)
    have Eab : Hid (fab = true → fba = true → x = y ∧ P = Q) := Lib.hid (fun h1 h2 => by
      have e1 := (flowsL_iff _ _).1 (Fab.out.trans h1)
      have e2 := (flowsL_iff _ _).1 (Fba.out.trans h2)
      exact ⟨Int.le_antisymm e1.2.2.1 e2.2.2.1, subN_anti e1.2.2.2 e2.2.2.2⟩)
    have Eac : Hid (fab = true → fbc = true → fac = true) := Lib.hid (fun h1 h2 => by
      have e1 := (flowsL_iff _ _).1 (Fab.out.trans h1)
      have e2 := (flowsL_iff _ _).1 (Fbc.out.trans h2)
      rw [← Fac.out]
      exact (flowsL_iff _ _).2 ⟨mx, mz, Int.le_trans e1.2.2.1 e2.2.2.1, subN_trans e1.2.2.2 e2.2.2.2⟩)
    have a0 := hA.cell 0 rfl
    have a1 := hA.cell 1 rfl
    have b0 := hB.cell 0 rfl
    have b1 := hB.cell 1 rfl
    have c0 := hC.cell 0 rfl
    have c1 := hC.cell 1 rfl
    clear mx my mz
    go_upto_region 4 with fail
    refine wp_region_spec [(.eq (.agg #[.int .i64 x, .int .u32 P])), (.eq (.agg #[.int .i64 y, .int .u32 Q])), (.eq (.bool fab)), (.eq (.agg #[.int .i64 y, .int .u32 Q])), (.eq (.agg #[.int .i64 z, .int .u32 R])), (.eq (.bool fbc)), (.eq (.agg #[.int .i64 x, .int .u32 P])), (.eq (.agg #[.int .i64 z, .int .u32 R])), (.eq (.bool fac)), (.eq (.bool fab)), (.eq (.bool fbc)), (.eq (.bool fac))] (by kernel_rfl) (by kernel_rfl) rfl ?step ?fin
    case step =>
      intro i o ho a w' hS hold hneed K' hK
      match i, ho with
      | 0, ho =>
        obtain rfl := Option.some.inj ho
        have d3 := hold 3 _ (by kernel_rfl) rfl
        clear hold hneed ho
        (have p0 := (hS.cell hA.lt (by simp)).trans a0; have p1 := (hS.cell hA.lt (by simp)).trans a1; go_simp; exact hK _ _ rfl (Upd.refl [] _))
      | 1, ho =>
        obtain rfl := Option.some.inj ho
        have d4 := hold 4 _ (by kernel_rfl) rfl
        clear hold hneed ho
        (have p0 := (hS.cell hB.lt (by simp)).trans b0; have p1 := (hS.cell hB.lt (by simp)).trans b1; go_simp; exact hK _ _ rfl (Upd.refl [] _))
      | 2, ho =>
        obtain rfl := Option.some.inj ho
        have d18 := get_of_at (hneed 0 (of_decide_eq_true (by kernel_rfl)) 18 rfl) (by simp [undef])
        have d19 := get_of_at (hneed 1 (of_decide_eq_true (by kernel_rfl)) 19 rfl) (by simp [undef])
        clear hold hneed ho
        (go_simp; refine (vflows (x, P) (y, Q) ha hb _).mono ?_; rw [Fab.out]; rintro e w3 ⟨rfl, hu3⟩; exact hK _ _ rfl hu3)
      | 3, ho =>
        obtain rfl := Option.some.inj ho
        have d4 := hold 4 _ (by kernel_rfl) rfl
        clear hold hneed ho
        (have p0 := (hS.cell hB.lt (by simp)).trans b0; have p1 := (hS.cell hB.lt (by simp)).trans b1; go_simp; exact hK _ _ rfl (Upd.refl [] _))
      | 4, ho =>
        obtain rfl := Option.some.inj ho
        have d5 := hold 5 _ (by kernel_rfl) rfl
        clear hold hneed ho
        (have p0 := (hS.cell hC.lt (by simp)).trans c0; have p1 := (hS.cell hC.lt (by simp)).trans c1; go_simp; exact hK _ _ rfl (Upd.refl [] _))
      | 5, ho =>
        obtain rfl := Option.some.inj ho
        have d21 := get_of_at (hneed 3 (of_decide_eq_true (by kernel_rfl)) 21 rfl) (by simp [undef])
        have d22 := get_of_at (hneed 4 (of_decide_eq_true (by kernel_rfl)) 22 rfl) (by simp [undef])
        clear hold hneed ho
        (go_simp; refine (vflows (y, Q) (z, R) hb hc _).mono ?_; rw [Fbc.out]; rintro e w3 ⟨rfl, hu3⟩; exact hK _ _ rfl hu3)
      | 6, ho =>
        obtain rfl := Option.some.inj ho
        have d3 := hold 3 _ (by kernel_rfl) rfl
        clear hold hneed ho
        (have p0 := (hS.cell hA.lt (by simp)).trans a0; have p1 := (hS.cell hA.lt (by simp)).trans a1; go_simp; exact hK _ _ rfl (Upd.refl [] _))
      | 7, ho =>
        obtain rfl := Option.some.inj ho
        have d5 := hold 5 _ (by kernel_rfl) rfl
        clear hold hneed ho
        (have p0 := (hS.cell hC.lt (by simp)).trans c0; have p1 := (hS.cell hC.lt (by simp)).trans c1; go_simp; exact hK _ _ rfl (Upd.refl [] _))
      | 8, ho =>
        obtain rfl := Option.some.inj ho
        have d24 := get_of_at (hneed 6 (of_decide_eq_true (by kernel_rfl)) 24 rfl) (by simp [undef])
        have d25 := get_of_at (hneed 7 (of_decide_eq_true (by kernel_rfl)) 25 rfl) (by simp [undef])
        clear hold hneed ho
        (go_simp; refine (vflows (x, P) (z, R) ha hc _).mono ?_; rw [Fac.out]; rintro e w3 ⟨rfl, hu3⟩; exact hK _ _ rfl hu3)
      | 9, ho =>
        obtain rfl := Option.some.inj ho
        have d20 := get_of_at (hneed 2 (of_decide_eq_true (by kernel_rfl)) 20 rfl) (by simp [undef])
        clear hold hneed ho
        (go_simp; exact hK _ _ rfl (Upd.refl [] _))
      | 10, ho =>
        obtain rfl := Option.some.inj ho
        have d23 := get_of_at (hneed 5 (of_decide_eq_true (by kernel_rfl)) 23 rfl) (by simp [undef])
        clear hold hneed ho
        (go_simp; exact hK _ _ rfl (Upd.refl [] _))
      | 11, ho =>
        obtain rfl := Option.some.inj ho
        have d26 := get_of_at (hneed 8 (of_decide_eq_true (by kernel_rfl)) 26 rfl) (by simp [undef])
        clear hold hneed ho
        (go_simp; exact hK _ _ rfl (Upd.refl [] _))
      | _ + 12, ho => exact absurd ho (by simp)
    case fin =>
      intro a w' hS hsz hdf hold hvals
      have ha := act_lit hsz hdf (RowIs.cons (at_of_get (hold 0 _ (by kernel_rfl) rfl)) (RowIs.cons (at_of_get (hold 1 _ (by kernel_rfl) rfl)) (RowIs.cons (at_of_get (hold 2 _ (by kernel_rfl) rfl)) (RowIs.cons (at_of_get (hold 3 _ (by kernel_rfl) rfl)) (RowIs.cons (at_of_get (hold 4 _ (by kernel_rfl) rfl)) (RowIs.cons (at_of_get (hold 5 _ (by kernel_rfl) rfl)) (RowIs.cons (at_of_get (hold 6 _ (by kernel_rfl) rfl)) (RowIs.cons (hvals 9 7 rfl) (RowIs.cons (hvals 10 8 rfl) (RowIs.cons (hvals 11 9 rfl) (RowIs.cons (at_of_get (hold 10 _ (by kernel_rfl) rfl)) (RowIs.cons (at_of_get (hold 11 _ (by kernel_rfl) rfl)) (RowIs.cons (at_of_get (hold 12 _ (by kernel_rfl) rfl)) (RowIs.cons (at_of_get (hold 13 _ (by kernel_rfl) rfl)) (RowIs.cons (at_of_get (hold 14 _ (by kernel_rfl) rfl)) (RowIs.cons (at_of_get (hold 15 _ (by kernel_rfl) rfl)) (RowIs.cons (at_of_get (hold 16 _ (by kernel_rfl) rfl)) (RowIs.cons (at_of_get (hold 17 _ (by kernel_rfl) rfl)) (RowIs.cons (hvals 0 18 rfl) (RowIs.cons (hvals 1 19 rfl) (RowIs.cons (hvals 2 20 rfl) (RowIs.cons (hvals 3 21 rfl) (RowIs.cons (hvals 4 22 rfl) (RowIs.cons (hvals 5 23 rfl) (RowIs.cons (hvals 6 24 rfl) (RowIs.cons (hvals 7 25 rfl) (RowIs.cons (hvals 8 26 rfl) (RowIs.cons (at_of_get (hold 27 _ (by kernel_rfl) rfl)) (RowIs.cons (at_of_get (hold 28 _ (by kernel_rfl) rfl)) (RowIs.cons (at_of_get (hold 29 _ (by kernel_rfl) rfl)) (RowIs.cons (at_of_get (hold 30 _ (by kernel_rfl) rfl)) (RowIs.cons (at_of_get (hold 31 _ (by kernel_rfl) rfl)) (RowIs.cons (at_of_get (hold 32 _ (by kernel_rfl) rfl)) (RowIs.cons (at_of_get (hold 33 _ (by kernel_rfl) rfl)) (RowIs.cons (at_of_get (hold 34 _ (by kernel_rfl) rfl)) (RowIs.cons (at_of_get (hold 35 _ (by kernel_rfl) rfl)) (RowIs.cons (at_of_get (hold 36 _ (by kernel_rfl) rfl)) (RowIs.cons (at_of_get (hold 37 _ (by kernel_rfl) rfl)) (RowIs.cons (at_of_get (hold 38 _ (by kernel_rfl) rfl)) (RowIs.cons (at_of_get (hold 39 _ (by kernel_rfl) rfl)) (RowIs.cons (at_of_get (hold 40 _ (by kernel_rfl) rfl)) (RowIs.cons (at_of_get (hold 41 _ (by kernel_rfl) rfl)) (RowIs.cons (at_of_get (hold 42 _ (by kernel_rfl) rfl)) (RowIs.cons (at_of_get (hold 43 _ (by kernel_rfl) rfl)) (RowIs.cons (at_of_get (hold 44 _ (by kernel_rfl) rfl)) (RowIs.cons (at_of_get (hold 45 _ (by kernel_rfl) rfl)) (RowIs.cons (at_of_get (hold 46 _ (by kernel_rfl) rfl)) (RowIs.cons (at_of_get (hold 47 _ (by kernel_rfl) rfl)) (RowIs.cons (at_of_get (hold 48 _ (by kernel_rfl) rfl)) (RowIs.cons (at_of_get (hold 49 _ (by kernel_rfl) rfl)) (RowIs.cons (at_of_get (hold 50 _ (by kernel_rfl) rfl)) (RowIs.cons (at_of_get (hold 51 _ (by kernel_rfl) rfl)) (RowIs.cons (at_of_get (hold 52 _ (by kernel_rfl) rfl)) (RowIs.cons (at_of_get (hold 53 _ (by kernel_rfl) rfl)) (RowIs.cons (at_of_get (hold 54 _ (by kernel_rfl) rfl)) (RowIs.cons (at_of_get (hold 55 _ (by kernel_rfl) rfl)) (RowIs.cons (at_of_get (hold 56 _ (by kernel_rfl) rfl)) (RowIs.cons (at_of_get (hold 57 _ (by kernel_rfl) rfl)) (RowIs.cons (at_of_get (hold 58 _ (by kernel_rfl) rfl)) (RowIs.cons (at_of_get (hold 59 _ (by kernel_rfl) rfl)) (RowIs.cons (at_of_get (hold 60 _ (by kernel_rfl) rfl)) (RowIs.cons (at_of_get (hold 61 _ (by kernel_rfl) rfl)) (RowIs.cons (at_of_get (hold 62 _ (by kernel_rfl) rfl)) (RowIs.cons (at_of_get (hold 63 _ (by kernel_rfl) rfl)) (RowIs.cons (at_of_get (hold 64 _ (by kernel_rfl) rfl)) (RowIs.cons (at_of_get (hold 65 _ (by kernel_rfl) rfl)) (RowIs.nil _ _))))))))))))))))))))))))))))))))))))))))))))))))))))))))))))))))))) rfl
      clear hsz hdf hold hvals
      subst ha
      simp only [List.getElem_toArray, List.getElem_cons_succ, List.getElem_cons_zero]
      have u5 := u4.trans_nil hS
      have hA5 := hA.upd_nil hS
      have hB5 := hB.upd_nil hS
      clear a0 a1 b0 b1 c0 c1 hA hB hC u4 hS
      have hA := hA5
      have hB := hB5
      clear hA5 hB5
      obtain ⟨wp, rfl⟩ : ∃ wp, wp = w' := ⟨_, rfl⟩
      have a0 := hA.cell 0 rfl
      have a1 := hA.cell 1 rfl
      have b0 := hB.cell 0 rfl
      have b1 := hB.cell 1 rfl
      go_upto_region 5 with fail
      refine wp_region_spec [(.eq (.agg #[.int .i64 x, .int .u32 P])), (.eq (.agg #[.int .i64 x, .int .u32 P])), (.eq (.bool true)), (.eq (.bool true)), (.eq (.bool fab)), (.eq (.bool (!fab))), (.eq (.bool (!fab))), (.wh (fab) (.agg #[.int .i64 y, .int .u32 Q])), (.wh (fab) (.agg #[.int .i64 x, .int .u32 P])), (.wh (fab) (.bool fba)), (.wh (fab) (.bool (!fba))), (.eq (.bool (!fab || !fba))), (.eq (.bool (!fab || !fba))), (.wh (fab && fba) (.agg #[.int .i64 x, .int .u32 P])), (.wh (fab && fba) (.agg #[.int .i64 x, .int .u32 P])), (.wh (fab && fba) (.bool true)), (.eq (.bool true)), (.eq (.bool true)), (.eq (.bool true)), (.eq (.bool fab)), (.eq (.bool (!fab))), (.eq (.bool (!fab))), (.wh (fab) (.bool fbc)), (.wh (fab) (.bool (!fbc))), (.eq (.bool (!fab || !fbc))), (.eq (.bool (!fab || !fbc))), (.wh (fab && fbc) (.bool true)), (.eq (.bool true)), (.eq (.bool true)), (.eq (.bool true)), (.eq (.agg #[.int .i64 0, .int .u32 0])), (.eq (.agg #[.int .i64 x, .int .u32 P])), (.eq (.bool true)), (.eq (.bool true)), (.eq (.bool true)), (.eq (.agg #[.int .i64 x, .int .u32 P])), (.eq (.agg #[.int .i64 7, .int .u32 4294967295])), (.eq (.bool true)), (.eq (.bool true)), (.eq (.bool true))] (by kernel_rfl) (by kernel_rfl) rfl ?step ?fin
      case step =>
        intro i o ho a w' hS hold hneed K' hK
        match i, ho with
        | 0, ho =>
          obtain rfl := Option.some.inj ho
          have d3 := hold 3 _ (by kernel_rfl) rfl
          clear hold hneed ho
          (have p0 := (hS.cell hA.lt (by simp)).trans a0; have p1 := (hS.cell hA.lt (by simp)).trans a1; go_simp; exact hK _ _ rfl (Upd.refl [] _))
        | 1, ho =>
          obtain rfl := Option.some.inj ho
          have d3 := hold 3 _ (by kernel_rfl) rfl
          clear hold hneed ho
          (have p0 := (hS.cell hA.lt (by simp)).trans a0; have p1 := (hS.cell hA.lt (by simp)).trans a1; go_simp; exact hK _ _ rfl (Upd.refl [] _))
        | 2, ho =>
          obtain rfl := Option.some.inj ho
          have d27 := get_of_at (hneed 0 (of_decide_eq_true (by kernel_rfl)) 27 rfl) (by simp [undef])
          have d28 := get_of_at (hneed 1 (of_decide_eq_true (by kernel_rfl)) 28 rfl) (by simp [undef])
          clear hold hneed ho
          (go_simp; refine (vflows (x, P) (x, P) ha ha _).mono ?_; rw [Faa.out]; rintro e w3 ⟨rfl, hu3⟩; exact hK _ _ rfl hu3)
        | 3, ho =>
          obtain rfl := Option.some.inj ho
          have d29 := get_of_at (hneed 2 (of_decide_eq_true (by kernel_rfl)) 29 rfl) (by simp [undef])
          clear hold hneed ho
          (go_simp; first | exact hK _ _ rfl (Upd.refl [] _) | exact hK _ _ (fun h => Bool.noConfusion h) (Upd.refl [] _) | exact hK _ _ (fun _ => rfl) (Upd.refl [] _))
        | 4, ho =>
          obtain rfl := Option.some.inj ho
          have d7 := hold 7 _ (by kernel_rfl) rfl
          have d30 := get_of_at (hneed 3 (of_decide_eq_true (by kernel_rfl)) 30 rfl) (by simp [undef])
          clear hold hneed ho
          (go_simp; first | exact hK _ _ rfl (Upd.refl [] _) | exact hK _ _ (fun h => Bool.noConfusion h) (Upd.refl [] _) | exact hK _ _ (fun _ => rfl) (Upd.refl [] _))
        | 5, ho =>
          obtain rfl := Option.some.inj ho
          have d31 := get_of_at (hneed 4 (of_decide_eq_true (by kernel_rfl)) 31 rfl) (by simp [undef])
          have d30 := get_of_at (hneed 3 (of_decide_eq_true (by kernel_rfl)) 30 rfl) (by simp [undef])
          clear hold hneed ho
          (go_simp; first | exact hK _ _ rfl (Upd.refl [] _) | exact hK _ _ (fun h => Bool.noConfusion h) (Upd.refl [] _) | exact hK _ _ (fun _ => rfl) (Upd.refl [] _))
        | 6, ho =>
          obtain rfl := Option.some.inj ho
          have d32 := get_of_at (hneed 5 (of_decide_eq_true (by kernel_rfl)) 32 rfl) (by simp [undef])
          have d30 := get_of_at (hneed 3 (of_decide_eq_true (by kernel_rfl)) 30 rfl) (by simp [undef])
          clear hold hneed ho
          (go_simp; first | exact hK _ _ rfl (Upd.refl [] _) | exact hK _ _ (fun h => Bool.noConfusion h) (Upd.refl [] _) | exact hK _ _ (fun _ => rfl) (Upd.refl [] _))
        | 7, ho =>
          obtain rfl := Option.some.inj ho
          have d4 := hold 4 _ (by kernel_rfl) rfl
          have d33 := get_of_at (hneed 6 (of_decide_eq_true (by kernel_rfl)) 33 rfl) (by simp [undef])
          clear hold hneed ho
          (cases fab <;> (have p0 := (hS.cell hB.lt (by simp)).trans b0; have p1 := (hS.cell hB.lt (by simp)).trans b1; go_simp; first | exact hK _ _ (fun h => Bool.noConfusion h) (Upd.refl [] _) | exact hK _ _ (fun _ => rfl) (Upd.refl [] _)))
        | 8, ho =>
          obtain rfl := Option.some.inj ho
          have d3 := hold 3 _ (by kernel_rfl) rfl
          have d33 := get_of_at (hneed 6 (of_decide_eq_true (by kernel_rfl)) 33 rfl) (by simp [undef])
          clear hold hneed ho
          (cases fab <;> (have p0 := (hS.cell hA.lt (by simp)).trans a0; have p1 := (hS.cell hA.lt (by simp)).trans a1; go_simp; first | exact hK _ _ (fun h => Bool.noConfusion h) (Upd.refl [] _) | exact hK _ _ (fun _ => rfl) (Upd.refl [] _)))
        | 9, ho =>
          obtain rfl := Option.some.inj ho
          have d34 := fun h => get_of_at (hneed 7 (of_decide_eq_true (by kernel_rfl)) 34 rfl h) (by simp [undef])
          have d35 := fun h => get_of_at (hneed 8 (of_decide_eq_true (by kernel_rfl)) 35 rfl h) (by simp [undef])
          have d33 := get_of_at (hneed 6 (of_decide_eq_true (by kernel_rfl)) 33 rfl) (by simp [undef])
          clear hold hneed ho
          (cases fab <;> (try replace d34 := d34 rfl) <;> (try replace d35 := d35 rfl) <;> (go_simp; first | exact hK _ _ (fun h => Bool.noConfusion h) (Upd.refl [] _) | (refine (vflows (y, Q) (x, P) hb ha _).mono ?_; rw [Fba.out]; rintro e w3 ⟨rfl, hu3⟩; exact hK _ _ (fun _ => rfl) hu3)))
        | 10, ho =>
          obtain rfl := Option.some.inj ho
          have d36 := fun h => get_of_at (hneed 9 (of_decide_eq_true (by kernel_rfl)) 36 rfl h) (by simp [undef])
          have d33 := get_of_at (hneed 6 (of_decide_eq_true (by kernel_rfl)) 33 rfl) (by simp [undef])
          clear hold hneed ho
          (cases fab <;> (try replace d36 := d36 rfl) <;> (go_simp; first | exact hK _ _ rfl (Upd.refl [] _) | exact hK _ _ (fun h => Bool.noConfusion h) (Upd.refl [] _) | exact hK _ _ (fun _ => rfl) (Upd.refl [] _)))
        | 11, ho =>
          obtain rfl := Option.some.inj ho
          have d33 := get_of_at (hneed 6 (of_decide_eq_true (by kernel_rfl)) 33 rfl) (by simp [undef])
          have d37 := fun h => get_of_at (hneed 10 (of_decide_eq_true (by kernel_rfl)) 37 rfl h) (by simp [undef])
          have d30 := get_of_at (hneed 3 (of_decide_eq_true (by kernel_rfl)) 30 rfl) (by simp [undef])
          clear hold hneed ho
          (cases fab <;> cases fba <;> (try replace d37 := d37 rfl) <;> (go_simp; exact hK _ _ rfl (Upd.refl [] _)))
        | 12, ho =>
          obtain rfl := Option.some.inj ho
          have d38 := get_of_at (hneed 11 (of_decide_eq_true (by kernel_rfl)) 38 rfl) (by simp [undef])
          have d30 := get_of_at (hneed 3 (of_decide_eq_true (by kernel_rfl)) 30 rfl) (by simp [undef])
          clear hold hneed ho
          (cases fab <;> cases fba <;> (go_simp; exact hK _ _ rfl (Upd.refl [] _)))
        | 13, ho =>
          obtain rfl := Option.some.inj ho
          have d3 := hold 3 _ (by kernel_rfl) rfl
          have d39 := get_of_at (hneed 12 (of_decide_eq_true (by kernel_rfl)) 39 rfl) (by simp [undef])
          clear hold hneed ho
          (cases fab <;> cases fba <;> (have p0 := (hS.cell hA.lt (by simp)).trans a0; have p1 := (hS.cell hA.lt (by simp)).trans a1; go_simp; first | exact hK _ _ (fun h => Bool.noConfusion h) (Upd.refl [] _) | exact hK _ _ (fun _ => rfl) (Upd.refl [] _)))
        | 14, ho =>
          obtain rfl := Option.some.inj ho
          have d4 := hold 4 _ (by kernel_rfl) rfl
          have d39 := get_of_at (hneed 12 (of_decide_eq_true (by kernel_rfl)) 39 rfl) (by simp [undef])
          clear hold hneed ho
          (cases fab <;> cases fba <;> (have p0 := (hS.cell hB.lt (by simp)).trans b0; have p1 := (hS.cell hB.lt (by simp)).trans b1; go_simp; first | exact hK _ _ (fun h => Bool.noConfusion h) (Upd.refl [] _) | (have e := Eab.out rfl rfl; exact hK _ _ (fun _ => by rw [e.1, e.2]) (Upd.refl [] _))))
        | 15, ho =>
          obtain rfl := Option.some.inj ho
          have d40 := fun h => get_of_at (hneed 13 (of_decide_eq_true (by kernel_rfl)) 40 rfl h) (by simp [undef])
          have d41 := fun h => get_of_at (hneed 14 (of_decide_eq_true (by kernel_rfl)) 41 rfl h) (by simp [undef])
          have d39 := get_of_at (hneed 12 (of_decide_eq_true (by kernel_rfl)) 39 rfl) (by simp [undef])
          clear hold hneed ho
          (cases fab <;> cases fba <;> (try replace d40 := d40 rfl) <;> (try replace d41 := d41 rfl) <;> (go_simp; first | exact hK _ _ rfl (Upd.refl [] _) | exact hK _ _ (fun h => Bool.noConfusion h) (Upd.refl [] _) | exact hK _ _ (fun _ => rfl) (Upd.refl [] _)))
        | 16, ho =>
          obtain rfl := Option.some.inj ho
          have d39 := get_of_at (hneed 12 (of_decide_eq_true (by kernel_rfl)) 39 rfl) (by simp [undef])
          have d42 := fun h => get_of_at (hneed 15 (of_decide_eq_true (by kernel_rfl)) 42 rfl h) (by simp [undef])
          have d30 := get_of_at (hneed 3 (of_decide_eq_true (by kernel_rfl)) 30 rfl) (by simp [undef])
          clear hold hneed ho
          (cases fab <;> cases fba <;> (try replace d42 := d42 rfl) <;> (go_simp; exact hK _ _ rfl (Upd.refl [] _)))
        | 17, ho =>
          obtain rfl := Option.some.inj ho
          have d30 := get_of_at (hneed 3 (of_decide_eq_true (by kernel_rfl)) 30 rfl) (by simp [undef])
          have d43 := get_of_at (hneed 16 (of_decide_eq_true (by kernel_rfl)) 43 rfl) (by simp [undef])
          clear hold hneed ho
          (go_simp; first | exact hK _ _ rfl (Upd.refl [] _) | exact hK _ _ (fun h => Bool.noConfusion h) (Upd.refl [] _) | exact hK _ _ (fun _ => rfl) (Upd.refl [] _))
        | 18, ho =>
          obtain rfl := Option.some.inj ho
          have d44 := get_of_at (hneed 17 (of_decide_eq_true (by kernel_rfl)) 44 rfl) (by simp [undef])
          clear hold hneed ho
          (go_simp; first | exact hK _ _ rfl (Upd.refl [] _) | exact hK _ _ (fun h => Bool.noConfusion h) (Upd.refl [] _) | exact hK _ _ (fun _ => rfl) (Upd.refl [] _))
        | 19, ho =>
          obtain rfl := Option.some.inj ho
          have d7 := hold 7 _ (by kernel_rfl) rfl
          have d45 := get_of_at (hneed 18 (of_decide_eq_true (by kernel_rfl)) 45 rfl) (by simp [undef])
          clear hold hneed ho
          (go_simp; first | exact hK _ _ rfl (Upd.refl [] _) | exact hK _ _ (fun h => Bool.noConfusion h) (Upd.refl [] _) | exact hK _ _ (fun _ => rfl) (Upd.refl [] _))
        | 20, ho =>
          obtain rfl := Option.some.inj ho
          have d46 := get_of_at (hneed 19 (of_decide_eq_true (by kernel_rfl)) 46 rfl) (by simp [undef])
          have d45 := get_of_at (hneed 18 (of_decide_eq_true (by kernel_rfl)) 45 rfl) (by simp [undef])
          clear hold hneed ho
          (go_simp; first | exact hK _ _ rfl (Upd.refl [] _) | exact hK _ _ (fun h => Bool.noConfusion h) (Upd.refl [] _) | exact hK _ _ (fun _ => rfl) (Upd.refl [] _))
        | 21, ho =>
          obtain rfl := Option.some.inj ho
          have d47 := get_of_at (hneed 20 (of_decide_eq_true (by kernel_rfl)) 47 rfl) (by simp [undef])
          have d45 := get_of_at (hneed 18 (of_decide_eq_true (by kernel_rfl)) 45 rfl) (by simp [undef])
          clear hold hneed ho
          (go_simp; first | exact hK _ _ rfl (Upd.refl [] _) | exact hK _ _ (fun h => Bool.noConfusion h) (Upd.refl [] _) | exact hK _ _ (fun _ => rfl) (Upd.refl [] _))
        | 22, ho =>
          obtain rfl := Option.some.inj ho
          have d8 := hold 8 _ (by kernel_rfl) rfl
          have d48 := get_of_at (hneed 21 (of_decide_eq_true (by kernel_rfl)) 48 rfl) (by simp [undef])
          clear hold hneed ho
          (cases fab <;> (go_simp; first | exact hK _ _ rfl (Upd.refl [] _) | exact hK _ _ (fun h => Bool.noConfusion h) (Upd.refl [] _) | exact hK _ _ (fun _ => rfl) (Upd.refl [] _)))
        | 23, ho =>
          obtain rfl := Option.some.inj ho
          have d49 := fun h => get_of_at (hneed 22 (of_decide_eq_true (by kernel_rfl)) 49 rfl h) (by simp [undef])
          have d48 := get_of_at (hneed 21 (of_decide_eq_true (by kernel_rfl)) 48 rfl) (by simp [undef])
          clear hold hneed ho
          (cases fab <;> (try replace d49 := d49 rfl) <;> (go_simp; first | exact hK _ _ rfl (Upd.refl [] _) | exact hK _ _ (fun h => Bool.noConfusion h) (Upd.refl [] _) | exact hK _ _ (fun _ => rfl) (Upd.refl [] _)))
        | 24, ho =>
          obtain rfl := Option.some.inj ho
          have d48 := get_of_at (hneed 21 (of_decide_eq_true (by kernel_rfl)) 48 rfl) (by simp [undef])
          have d50 := fun h => get_of_at (hneed 23 (of_decide_eq_true (by kernel_rfl)) 50 rfl h) (by simp [undef])
          have d45 := get_of_at (hneed 18 (of_decide_eq_true (by kernel_rfl)) 45 rfl) (by simp [undef])
          clear hold hneed ho
          (cases fab <;> cases fbc <;> (try replace d50 := d50 rfl) <;> (go_simp; exact hK _ _ rfl (Upd.refl [] _)))
        | 25, ho =>
          obtain rfl := Option.some.inj ho
          have d51 := get_of_at (hneed 24 (of_decide_eq_true (by kernel_rfl)) 51 rfl) (by simp [undef])
          have d45 := get_of_at (hneed 18 (of_decide_eq_true (by kernel_rfl)) 45 rfl) (by simp [undef])
          clear hold hneed ho
          (cases fab <;> cases fbc <;> (go_simp; exact hK _ _ rfl (Upd.refl [] _)))
        | 26, ho =>
          obtain rfl := Option.some.inj ho
          have d9 := hold 9 _ (by kernel_rfl) rfl
          have d52 := get_of_at (hneed 25 (of_decide_eq_true (by kernel_rfl)) 52 rfl) (by simp [undef])
          clear hold hneed ho
          (cases fab <;> cases fbc <;> (go_simp; first | exact hK _ _ (fun h => Bool.noConfusion h) (Upd.refl [] _) | (have e := Eac.out rfl rfl; subst e; exact hK _ _ (fun _ => rfl) (Upd.refl [] _))))
        | 27, ho =>
          obtain rfl := Option.some.inj ho
          have d52 := get_of_at (hneed 25 (of_decide_eq_true (by kernel_rfl)) 52 rfl) (by simp [undef])
          have d53 := fun h => get_of_at (hneed 26 (of_decide_eq_true (by kernel_rfl)) 53 rfl h) (by simp [undef])
          have d45 := get_of_at (hneed 18 (of_decide_eq_true (by kernel_rfl)) 45 rfl) (by simp [undef])
          clear hold hneed ho
          (cases fab <;> cases fbc <;> (try replace d53 := d53 rfl) <;> (go_simp; exact hK _ _ rfl (Upd.refl [] _)))
        | 28, ho =>
          obtain rfl := Option.some.inj ho
          have d45 := get_of_at (hneed 18 (of_decide_eq_true (by kernel_rfl)) 45 rfl) (by simp [undef])
          have d54 := get_of_at (hneed 27 (of_decide_eq_true (by kernel_rfl)) 54 rfl) (by simp [undef])
          clear hold hneed ho
          (go_simp; first | exact hK _ _ rfl (Upd.refl [] _) | exact hK _ _ (fun h => Bool.noConfusion h) (Upd.refl [] _) | exact hK _ _ (fun _ => rfl) (Upd.refl [] _))
        | 29, ho =>
          obtain rfl := Option.some.inj ho
          have d55 := get_of_at (hneed 28 (of_decide_eq_true (by kernel_rfl)) 55 rfl) (by simp [undef])
          clear hold hneed ho
          (go_simp; first | exact hK _ _ rfl (Upd.refl [] _) | exact hK _ _ (fun h => Bool.noConfusion h) (Upd.refl [] _) | exact hK _ _ (fun _ => rfl) (Upd.refl [] _))
        | 30, ho =>
          obtain rfl := Option.some.inj ho
          have d56 := get_of_at (hneed 29 (of_decide_eq_true (by kernel_rfl)) 56 rfl) (by simp [undef])
          clear hold hneed ho
          (go_simp; refine (vatI 0 0 (by decide) _).mono ?_; rintro e w3 ⟨rfl, hu3⟩; exact hK _ _ rfl hu3)
        | 31, ho =>
          obtain rfl := Option.some.inj ho
          have d3 := hold 3 _ (by kernel_rfl) rfl
          have d56 := get_of_at (hneed 29 (of_decide_eq_true (by kernel_rfl)) 56 rfl) (by simp [undef])
          clear hold hneed ho
          (have p0 := (hS.cell hA.lt (by simp)).trans a0; have p1 := (hS.cell hA.lt (by simp)).trans a1; go_simp; exact hK _ _ rfl (Upd.refl [] _))
        | 32, ho =>
          obtain rfl := Option.some.inj ho
          have d57 := get_of_at (hneed 30 (of_decide_eq_true (by kernel_rfl)) 57 rfl) (by simp [undef])
          have d58 := get_of_at (hneed 31 (of_decide_eq_true (by kernel_rfl)) 58 rfl) (by simp [undef])
          have d56 := get_of_at (hneed 29 (of_decide_eq_true (by kernel_rfl)) 56 rfl) (by simp [undef])
          clear hold hneed ho
          (go_simp; refine (vflows (0, 0) (x, P) (by decide) ha _).mono ?_; rw [F0a.out]; rintro e w3 ⟨rfl, hu3⟩; exact hK _ _ rfl hu3)
        | 33, ho =>
          obtain rfl := Option.some.inj ho
          have d56 := get_of_at (hneed 29 (of_decide_eq_true (by kernel_rfl)) 56 rfl) (by simp [undef])
          have d59 := get_of_at (hneed 32 (of_decide_eq_true (by kernel_rfl)) 59 rfl) (by simp [undef])
          clear hold hneed ho
          (go_simp; first | exact hK _ _ rfl (Upd.refl [] _) | exact hK _ _ (fun h => Bool.noConfusion h) (Upd.refl [] _) | exact hK _ _ (fun _ => rfl) (Upd.refl [] _))
        | 34, ho =>
          obtain rfl := Option.some.inj ho
          have d60 := get_of_at (hneed 33 (of_decide_eq_true (by kernel_rfl)) 60 rfl) (by simp [undef])
          clear hold hneed ho
          (go_simp; first | exact hK _ _ rfl (Upd.refl [] _) | exact hK _ _ (fun h => Bool.noConfusion h) (Upd.refl [] _) | exact hK _ _ (fun _ => rfl) (Upd.refl [] _))
        | 35, ho =>
          obtain rfl := Option.some.inj ho
          have d3 := hold 3 _ (by kernel_rfl) rfl
          have d61 := get_of_at (hneed 34 (of_decide_eq_true (by kernel_rfl)) 61 rfl) (by simp [undef])
          clear hold hneed ho
          (have p0 := (hS.cell hA.lt (by simp)).trans a0; have p1 := (hS.cell hA.lt (by simp)).trans a1; go_simp; exact hK _ _ rfl (Upd.refl [] _))
        | 36, ho =>
          obtain rfl := Option.some.inj ho
          have d61 := get_of_at (hneed 34 (of_decide_eq_true (by kernel_rfl)) 61 rfl) (by simp [undef])
          clear hold hneed ho
          (go_simp; refine (vatI 7 4294967295 (by decide) _).mono ?_; rintro e w3 ⟨rfl, hu3⟩; exact hK _ _ rfl hu3)
        | 37, ho =>
          obtain rfl := Option.some.inj ho
          have d62 := get_of_at (hneed 35 (of_decide_eq_true (by kernel_rfl)) 62 rfl) (by simp [undef])
          have d63 := get_of_at (hneed 36 (of_decide_eq_true (by kernel_rfl)) 63 rfl) (by simp [undef])
          have d61 := get_of_at (hneed 34 (of_decide_eq_true (by kernel_rfl)) 61 rfl) (by simp [undef])
          clear hold hneed ho
          (go_simp; refine (vflows (x, P) (7, 4294967295) ha (by decide) _).mono ?_; rw [Fa7.out]; rintro e w3 ⟨rfl, hu3⟩; exact hK _ _ rfl hu3)
        | 38, ho =>
          obtain rfl := Option.some.inj ho
          have d61 := get_of_at (hneed 34 (of_decide_eq_true (by kernel_rfl)) 61 rfl) (by simp [undef])
          have d64 := get_of_at (hneed 37 (of_decide_eq_true (by kernel_rfl)) 64 rfl) (by simp [undef])
          clear hold hneed ho
          (go_simp; first | exact hK _ _ rfl (Upd.refl [] _) | exact hK _ _ (fun h => Bool.noConfusion h) (Upd.refl [] _) | exact hK _ _ (fun _ => rfl) (Upd.refl [] _))
        | 39, ho =>
          obtain rfl := Option.some.inj ho
          have d65 := get_of_at (hneed 38 (of_decide_eq_true (by kernel_rfl)) 65 rfl) (by simp [undef])
          clear hold hneed ho
          (go_simp; first | exact hK _ _ rfl (Upd.refl [] _) | exact hK _ _ (fun h => Bool.noConfusion h) (Upd.refl [] _) | exact hK _ _ (fun _ => rfl) (Upd.refl [] _))
        | _ + 40, ho => exact absurd ho (by simp)
      case fin =>
        intro a w' hS hsz hdf hold hvals
        obtain ⟨v34, hv34⟩ : ∃ v, at_ a 34 = v := ⟨_, rfl⟩
        obtain ⟨v35, hv35⟩ : ∃ v, at_ a 35 = v := ⟨_, rfl⟩
        obtain ⟨v36, hv36⟩ : ∃ v, at_ a 36 = v := ⟨_, rfl⟩
        obtain ⟨v37, hv37⟩ : ∃ v, at_ a 37 = v := ⟨_, rfl⟩
        obtain ⟨v40, hv40⟩ : ∃ v, at_ a 40 = v := ⟨_, rfl⟩
        obtain ⟨v41, hv41⟩ : ∃ v, at_ a 41 = v := ⟨_, rfl⟩
        obtain ⟨v42, hv42⟩ : ∃ v, at_ a 42 = v := ⟨_, rfl⟩
        obtain ⟨v49, hv49⟩ : ∃ v, at_ a 49 = v := ⟨_, rfl⟩
        obtain ⟨v50, hv50⟩ : ∃ v, at_ a 50 = v := ⟨_, rfl⟩
        obtain ⟨v53, hv53⟩ : ∃ v, at_ a 53 = v := ⟨_, rfl⟩
        have ha := act_lit hsz hdf (RowIs.cons (at_of_get (hold 0 _ (by kernel_rfl) rfl)) (RowIs.cons (at_of_get (hold 1 _ (by kernel_rfl) rfl)) (RowIs.cons (at_of_get (hold 2 _ (by kernel_rfl) rfl)) (RowIs.cons (at_of_get (hold 3 _ (by kernel_rfl) rfl)) (RowIs.cons (at_of_get (hold 4 _ (by kernel_rfl) rfl)) (RowIs.cons (at_of_get (hold 5 _ (by kernel_rfl) rfl)) (RowIs.cons (hvals 39 6 rfl) (RowIs.cons (at_of_get (hold 7 _ (by kernel_rfl) rfl)) (RowIs.cons (at_of_get (hold 8 _ (by kernel_rfl) rfl)) (RowIs.cons (at_of_get (hold 9 _ (by kernel_rfl) rfl)) (RowIs.cons (at_of_get (hold 10 _ (by kernel_rfl) rfl)) (RowIs.cons (at_of_get (hold 11 _ (by kernel_rfl) rfl)) (RowIs.cons (at_of_get (hold 12 _ (by kernel_rfl) rfl)) (RowIs.cons (at_of_get (hold 13 _ (by kernel_rfl) rfl)) (RowIs.cons (at_of_get (hold 14 _ (by kernel_rfl) rfl)) (RowIs.cons (at_of_get (hold 15 _ (by kernel_rfl) rfl)) (RowIs.cons (at_of_get (hold 16 _ (by kernel_rfl) rfl)) (RowIs.cons (at_of_get (hold 17 _ (by kernel_rfl) rfl)) (RowIs.cons (at_of_get (hold 18 _ (by kernel_rfl) rfl)) (RowIs.cons (at_of_get (hold 19 _ (by kernel_rfl) rfl)) (RowIs.cons (at_of_get (hold 20 _ (by kernel_rfl) rfl)) (RowIs.cons (at_of_get (hold 21 _ (by kernel_rfl) rfl)) (RowIs.cons (at_of_get (hold 22 _ (by kernel_rfl) rfl)) (RowIs.cons (at_of_get (hold 23 _ (by kernel_rfl) rfl)) (RowIs.cons (at_of_get (hold 24 _ (by kernel_rfl) rfl)) (RowIs.cons (at_of_get (hold 25 _ (by kernel_rfl) rfl)) (RowIs.cons (at_of_get (hold 26 _ (by kernel_rfl) rfl)) (RowIs.cons (hvals 0 27 rfl) (RowIs.cons (hvals 1 28 rfl) (RowIs.cons (hvals 2 29 rfl) (RowIs.cons (hvals 3 30 rfl) (RowIs.cons (hvals 4 31 rfl) (RowIs.cons (hvals 5 32 rfl) (RowIs.cons (hvals 6 33 rfl) (RowIs.cons hv34 (RowIs.cons hv35 (RowIs.cons hv36 (RowIs.cons hv37 (RowIs.cons (hvals 11 38 rfl) (RowIs.cons (hvals 12 39 rfl) (RowIs.cons hv40 (RowIs.cons hv41 (RowIs.cons hv42 (RowIs.cons (hvals 16 43 rfl) (RowIs.cons (hvals 17 44 rfl) (RowIs.cons (hvals 18 45 rfl) (RowIs.cons (hvals 19 46 rfl) (RowIs.cons (hvals 20 47 rfl) (RowIs.cons (hvals 21 48 rfl) (RowIs.cons hv49 (RowIs.cons hv50 (RowIs.cons (hvals 24 51 rfl) (RowIs.cons (hvals 25 52 rfl) (RowIs.cons hv53 (RowIs.cons (hvals 27 54 rfl) (RowIs.cons (hvals 28 55 rfl) (RowIs.cons (hvals 29 56 rfl) (RowIs.cons (hvals 30 57 rfl) (RowIs.cons (hvals 31 58 rfl) (RowIs.cons (hvals 32 59 rfl) (RowIs.cons (hvals 33 60 rfl) (RowIs.cons (hvals 34 61 rfl) (RowIs.cons (hvals 35 62 rfl) (RowIs.cons (hvals 36 63 rfl) (RowIs.cons (hvals 37 64 rfl) (RowIs.cons (hvals 38 65 rfl) (RowIs.nil _ _))))))))))))))))))))))))))))))))))))))))))))))))))))))))))))))))))) rfl
        clear hsz hdf hold hvals
        subst ha
        simp only [List.getElem_toArray, List.getElem_cons_succ, List.getElem_cons_zero]
        go_wp2_with fail
        go_ret
        exact ⟨rfl, u5.trans_nil hS⟩

end Go.Proofs.YtpkllbnaoiggkaaDoor
