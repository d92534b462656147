/- VeilTells: the walk. -/
import Derived.Test.YtpkllbnaoiggkaaDoorVeH
import Derived.Test.YtpkllbnaoiggkaaDoorVeK
import Derived.Test.YtpkllbnaoiggkaaDoorVeO
namespace Go.Proofs.YtpkllbnaoiggkaaDoor
open Go.RowKit

set_option maxHeartbeats 4000000 in
set_option maxRecDepth 100000 in
theorem tells_walk (a b : Lab) (ha : a.2 < 4294967296) (hb : b.2 < 4294967296) (q : Option Addr) (ls : List Lab) (c : Nat) (hm : ls.length ≤ maxLen) (hls : ∀ x ∈ ls, x.2 < 4294967296) (w : World) (hl : LabsAt w q ls) (hO : LaidOk w) :
    Calls Tryd.prog 3 #[labV a, labV b, .slice q ls.length c] w fun e w' => e = .returned (.bool true) ∧ Upd [] w w' := by
  obtain ⟨L, P⟩ := a
  obtain ⟨M, Q⟩ := b
  dsimp only at ha hb
  obtain ⟨⟨m, h1⟩, h5⟩ := hO
  have u2 := ((Upd.refl [] w).alloc (.cells #[.int .i64 L, .int .u32 P] 24)).alloc (.cells #[.int .i64 M, .int .u32 Q] 24)
  have hA2 := (Blk.new w #[.int .i64 L, .int .u32 P] 24).alloc (.cells #[.int .i64 M, .int .u32 Q] 24)
  have hB2 := Blk.new_at (w := w.alloc (.cells #[.int .i64 L, .int .u32 P] 24)) (cs := #[.int .i64 M, .int .u32 Q]) (l := [.int .i64 M, .int .u32 Q]) (T := 24) (n := w.heap.size + 1) (by simp) rfl
  have hab : ∀ x ∈ ([(L, P), (M, Q)] : List Lab), x.2 < 4294967296 := by
    intro x hx
    simp at hx
    rcases hx with rfl | rfl
    · exact ha
    · exact hb
  go_enter Tryd.func3, Tryd.ntmps3
  unfold labV
  go_upto_region 1 with fail
  generalize (w.alloc (.cells #[.int .i64 L, .int .u32 P] 24)).alloc (.cells #[.int .i64 M, .int .u32 Q] 24) = W at *
  generalize w.heap.size = t2 at *
  have z1 := (u2.cell (lt_of_cell h1) (by simp)).trans h1
  have z5 := (u2.cell (lt_of_cell h5) (by simp)).trans h5
  have hl1 := lt_of_cell z1
  have hl5 := lt_of_cell z5
  have zA0 := hA2.cell 0 rfl
  have zA1 := hA2.cell 1 rfl
  have zB0 := hB2.cell 0 rfl
  have zB1 := hB2.cell 1 rfl
  have hl2 := hl.upd u2
  obtain ⟨⟨Jl, Jp⟩, HJ⟩ : ∃ x, Hid (joinL [(L, P), (M, Q)] = x) := ⟨_, Lib.hid rfl⟩
  obtain ⟨⟨Kl, Kp⟩, HK⟩ : ∃ x, Hid (joinL ls = x) := ⟨_, Lib.hid rfl⟩
  obtain ⟨⟨Nl, Np⟩, HN⟩ : ∃ x, Hid (meetL (L, P) (M, Q) = x) := ⟨_, Lib.hid rfl⟩
  refine wp_region_spec [(.eq (.agg #[.int .i64 L, .int .u32 P])), (.eq (.int .i64 (chkL (L, P)))), (.eq (.agg #[.int .i64 L, .int .u32 P])), (.eq (.int .i64 (chkL (L, P)))), (.eq (.bool true)), (.eq (.bool true)), (.eq (.agg #[.int .i64 L, .int .u32 P])), (.eq (.agg #[.int .i64 M, .int .u32 Q])), (.eq (.bool (flowsL (L, P) (M, Q)))), (.eq (.agg #[.int .i64 L, .int .u32 P])), (.eq (.agg #[.int .i64 M, .int .u32 Q])), (.eq (.bool (flowsL (L, P) (M, Q)))), (.eq (.bool true)), (.eq (.bool true)), (.eq (.bool true)), (.eq (.agg #[.int .i64 L, .int .u32 P])), (.eq (.agg #[.int .i64 M, .int .u32 Q])), (.sl 2 2 [.int .i64 L, .int .u32 P, .int .i64 M, .int .u32 Q] 24), (.eq (.agg #[.int .i64 Jl, .int .u32 Jp])), (.eq (.agg #[.int .i64 L, .int .u32 P])), (.eq (.agg #[.int .i64 M, .int .u32 Q])), (.sl 2 2 [.int .i64 L, .int .u32 P, .int .i64 M, .int .u32 Q] 24), (.eq (.agg #[.int .i64 Jl, .int .u32 Jp])), (.eq (.bool true)), (.eq (.bool true)), (.eq (.bool true)), (.eq (.slice q ls.length c)), (.eq (.agg #[.int .i64 Kl, .int .u32 Kp])), (.eq (.slice q ls.length c)), (.eq (.agg #[.int .i64 Kl, .int .u32 Kp])), (.eq (.bool true)), (.eq (.bool true)), (.eq (.bool true)), (.eq (.agg #[.int .i64 L, .int .u32 P])), (.eq (.agg #[.int .i64 M, .int .u32 Q])), (.eq (.agg #[.int .i64 Nl, .int .u32 Np])), (.eq (.agg #[.int .i64 L, .int .u32 P])), (.eq (.agg #[.int .i64 M, .int .u32 Q])), (.eq (.agg #[.int .i64 Nl, .int .u32 Np])), (.eq (.bool true)), (.eq (.bool true)), (.eq (.bool true)), (.eq (.bool true)), (.eq (.bool true)), (.eq (.bool true))] (by kernel_rfl) (by kernel_rfl) rfl ?step ?fin
  case step =>
    intro i o ho a w' hS hold hneed K' hK
    match i, ho with
    | 0, ho =>
      obtain rfl := Option.some.inj ho
      have d3 := hold 3 _ (by kernel_rfl) rfl
      clear hold hneed ho
      (have p0 := (hS.cell hA2.lt (by simp)).trans zA0; have p1 := (hS.cell hA2.lt (by simp)).trans zA1; go_simp; exact hK _ _ rfl (Upd.refl [] _))
    | 1, ho =>
      obtain rfl := Option.some.inj ho
      have d7 := get_of_at (hneed 0 (of_decide_eq_true (by kernel_rfl)) 7 rfl) (by simp [undef])
      clear hold hneed ho
      (go_simp; refine (vcheck L P _).mono ?_; rintro e w3 ⟨rfl, hu3⟩; exact hK _ _ rfl hu3)
    | 2, ho =>
      obtain rfl := Option.some.inj ho
      have d3 := hold 3 _ (by kernel_rfl) rfl
      clear hold hneed ho
      (have p0 := (hS.cell hA2.lt (by simp)).trans zA0; have p1 := (hS.cell hA2.lt (by simp)).trans zA1; go_simp; exact hK _ _ rfl (Upd.refl [] _))
    | 3, ho =>
      obtain rfl := Option.some.inj ho
      have d9 := get_of_at (hneed 2 (of_decide_eq_true (by kernel_rfl)) 9 rfl) (by simp [undef])
      clear hold hneed ho
      (go_simp; refine (rcheck L P _).mono ?_; rintro e w3 ⟨rfl, hu3⟩; exact hK _ _ rfl hu3)
    | 4, ho =>
      obtain rfl := Option.some.inj ho
      have d8 := get_of_at (hneed 1 (of_decide_eq_true (by kernel_rfl)) 8 rfl) (by simp [undef])
      have d10 := get_of_at (hneed 3 (of_decide_eq_true (by kernel_rfl)) 10 rfl) (by simp [undef])
      clear hold hneed ho
      (go_simp; exact hK _ _ (by first | rfl | simp) (Upd.refl [] _))
    | 5, ho =>
      obtain rfl := Option.some.inj ho
      have d11 := get_of_at (hneed 4 (of_decide_eq_true (by kernel_rfl)) 11 rfl) (by simp [undef])
      clear hold hneed ho
      (go_simp; exact hK _ _ (by first | rfl | simp) (Upd.refl [] _))
    | 6, ho =>
      obtain rfl := Option.some.inj ho
      have d3 := hold 3 _ (by kernel_rfl) rfl
      have d12 := get_of_at (hneed 5 (of_decide_eq_true (by kernel_rfl)) 12 rfl) (by simp [undef])
      clear hold hneed ho
      (have p0 := (hS.cell hA2.lt (by simp)).trans zA0; have p1 := (hS.cell hA2.lt (by simp)).trans zA1; go_simp; exact hK _ _ rfl (Upd.refl [] _))
    | 7, ho =>
      obtain rfl := Option.some.inj ho
      have d4 := hold 4 _ (by kernel_rfl) rfl
      have d12 := get_of_at (hneed 5 (of_decide_eq_true (by kernel_rfl)) 12 rfl) (by simp [undef])
      clear hold hneed ho
      (have p0 := (hS.cell hB2.lt (by simp)).trans zB0; have p1 := (hS.cell hB2.lt (by simp)).trans zB1; go_simp; exact hK _ _ rfl (Upd.refl [] _))
    | 8, ho =>
      obtain rfl := Option.some.inj ho
      have d13 := get_of_at (hneed 6 (of_decide_eq_true (by kernel_rfl)) 13 rfl) (by simp [undef])
      have d14 := get_of_at (hneed 7 (of_decide_eq_true (by kernel_rfl)) 14 rfl) (by simp [undef])
      have d12 := get_of_at (hneed 5 (of_decide_eq_true (by kernel_rfl)) 12 rfl) (by simp [undef])
      clear hold hneed ho
      (go_simp; refine (vflows (L, P) (M, Q) ha hb _).mono ?_; rintro e w3 ⟨rfl, hu3⟩; exact hK _ _ rfl hu3)
    | 9, ho =>
      obtain rfl := Option.some.inj ho
      have d3 := hold 3 _ (by kernel_rfl) rfl
      have d12 := get_of_at (hneed 5 (of_decide_eq_true (by kernel_rfl)) 12 rfl) (by simp [undef])
      clear hold hneed ho
      (have p0 := (hS.cell hA2.lt (by simp)).trans zA0; have p1 := (hS.cell hA2.lt (by simp)).trans zA1; go_simp; exact hK _ _ rfl (Upd.refl [] _))
    | 10, ho =>
      obtain rfl := Option.some.inj ho
      have d4 := hold 4 _ (by kernel_rfl) rfl
      have d12 := get_of_at (hneed 5 (of_decide_eq_true (by kernel_rfl)) 12 rfl) (by simp [undef])
      clear hold hneed ho
      (have p0 := (hS.cell hB2.lt (by simp)).trans zB0; have p1 := (hS.cell hB2.lt (by simp)).trans zB1; go_simp; exact hK _ _ rfl (Upd.refl [] _))
    | 11, ho =>
      obtain rfl := Option.some.inj ho
      have d16 := get_of_at (hneed 9 (of_decide_eq_true (by kernel_rfl)) 16 rfl) (by simp [undef])
      have d17 := get_of_at (hneed 10 (of_decide_eq_true (by kernel_rfl)) 17 rfl) (by simp [undef])
      have d12 := get_of_at (hneed 5 (of_decide_eq_true (by kernel_rfl)) 12 rfl) (by simp [undef])
      clear hold hneed ho
      (go_simp; refine (rflows (L, P) (M, Q) ha hb _).mono ?_; rintro e w3 ⟨rfl, hu3⟩; exact hK _ _ rfl hu3)
    | 12, ho =>
      obtain rfl := Option.some.inj ho
      have d15 := get_of_at (hneed 8 (of_decide_eq_true (by kernel_rfl)) 15 rfl) (by simp [undef])
      have d18 := get_of_at (hneed 11 (of_decide_eq_true (by kernel_rfl)) 18 rfl) (by simp [undef])
      have d12 := get_of_at (hneed 5 (of_decide_eq_true (by kernel_rfl)) 12 rfl) (by simp [undef])
      clear hold hneed ho
      (go_simp; exact hK _ _ (by first | rfl | simp) (Upd.refl [] _))
    | 13, ho =>
      obtain rfl := Option.some.inj ho
      have d12 := get_of_at (hneed 5 (of_decide_eq_true (by kernel_rfl)) 12 rfl) (by simp [undef])
      have d19 := get_of_at (hneed 12 (of_decide_eq_true (by kernel_rfl)) 19 rfl) (by simp [undef])
      clear hold hneed ho
      (go_simp; exact hK _ _ (by first | rfl | simp) (Upd.refl [] _))
    | 14, ho =>
      obtain rfl := Option.some.inj ho
      have d20 := get_of_at (hneed 13 (of_decide_eq_true (by kernel_rfl)) 20 rfl) (by simp [undef])
      clear hold hneed ho
      (go_simp; exact hK _ _ (by first | rfl | simp) (Upd.refl [] _))
    | 15, ho =>
      obtain rfl := Option.some.inj ho
      have d3 := hold 3 _ (by kernel_rfl) rfl
      have d21 := get_of_at (hneed 14 (of_decide_eq_true (by kernel_rfl)) 21 rfl) (by simp [undef])
      clear hold hneed ho
      (have p0 := (hS.cell hA2.lt (by simp)).trans zA0; have p1 := (hS.cell hA2.lt (by simp)).trans zA1; go_simp; exact hK _ _ rfl (Upd.refl [] _))
    | 16, ho =>
      obtain rfl := Option.some.inj ho
      have d4 := hold 4 _ (by kernel_rfl) rfl
      have d21 := get_of_at (hneed 14 (of_decide_eq_true (by kernel_rfl)) 21 rfl) (by simp [undef])
      clear hold hneed ho
      (have p0 := (hS.cell hB2.lt (by simp)).trans zB0; have p1 := (hS.cell hB2.lt (by simp)).trans zB1; go_simp; exact hK _ _ rfl (Upd.refl [] _))
    | 17, ho =>
      obtain rfl := Option.some.inj ho
      have d22 := get_of_at (hneed 15 (of_decide_eq_true (by kernel_rfl)) 22 rfl) (by simp [undef])
      have d23 := get_of_at (hneed 16 (of_decide_eq_true (by kernel_rfl)) 23 rfl) (by simp [undef])
      have d21 := get_of_at (hneed 14 (of_decide_eq_true (by kernel_rfl)) 21 rfl) (by simp [undef])
      clear hold hneed ho
      (go_simp; exact hK _ _ ⟨_, rfl, Blk.new _ _ _⟩ ((Upd.refl [] _).alloc _))
    | 18, ho =>
      obtain rfl := Option.some.inj ho
      obtain ⟨b24, e24, hB24⟩ := hneed 17 (of_decide_eq_true (by kernel_rfl)) 24 rfl
      have d24 := get_of_at e24 (by simp [undef])
      have d21 := get_of_at (hneed 14 (of_decide_eq_true (by kernel_rfl)) 21 rfl) (by simp [undef])
      clear hold hneed ho
      (go_simp; refine (vjoin (LabsAt.two (x := (L, P)) (y := (M, Q)) hB24) 2 (by simp [maxLen]) hab).mono ?_; rw [HJ.out]; unfold labV; rintro e w3 ⟨rfl, hu3⟩; exact hK _ _ rfl hu3)
    | 19, ho =>
      obtain rfl := Option.some.inj ho
      have d3 := hold 3 _ (by kernel_rfl) rfl
      have d21 := get_of_at (hneed 14 (of_decide_eq_true (by kernel_rfl)) 21 rfl) (by simp [undef])
      clear hold hneed ho
      (have p0 := (hS.cell hA2.lt (by simp)).trans zA0; have p1 := (hS.cell hA2.lt (by simp)).trans zA1; go_simp; exact hK _ _ rfl (Upd.refl [] _))
    | 20, ho =>
      obtain rfl := Option.some.inj ho
      have d4 := hold 4 _ (by kernel_rfl) rfl
      have d21 := get_of_at (hneed 14 (of_decide_eq_true (by kernel_rfl)) 21 rfl) (by simp [undef])
      clear hold hneed ho
      (have p0 := (hS.cell hB2.lt (by simp)).trans zB0; have p1 := (hS.cell hB2.lt (by simp)).trans zB1; go_simp; exact hK _ _ rfl (Upd.refl [] _))
    | 21, ho =>
      obtain rfl := Option.some.inj ho
      have d26 := get_of_at (hneed 19 (of_decide_eq_true (by kernel_rfl)) 26 rfl) (by simp [undef])
      have d27 := get_of_at (hneed 20 (of_decide_eq_true (by kernel_rfl)) 27 rfl) (by simp [undef])
      have d21 := get_of_at (hneed 14 (of_decide_eq_true (by kernel_rfl)) 21 rfl) (by simp [undef])
      clear hold hneed ho
      (go_simp; exact hK _ _ ⟨_, rfl, Blk.new _ _ _⟩ ((Upd.refl [] _).alloc _))
    | 22, ho =>
      obtain rfl := Option.some.inj ho
      obtain ⟨b28, e28, hB28⟩ := hneed 21 (of_decide_eq_true (by kernel_rfl)) 28 rfl
      have d28 := get_of_at e28 (by simp [undef])
      have d21 := get_of_at (hneed 14 (of_decide_eq_true (by kernel_rfl)) 21 rfl) (by simp [undef])
      clear hold hneed ho
      (go_simp; refine (rjoinAll (LabsAt.two (x := (L, P)) (y := (M, Q)) hB28) 2 (by simp [maxLen]) hab).mono ?_; rw [HJ.out]; unfold labV; rintro e w3 ⟨rfl, hu3⟩; exact hK _ _ rfl hu3)
    | 23, ho =>
      obtain rfl := Option.some.inj ho
      have d25 := get_of_at (hneed 18 (of_decide_eq_true (by kernel_rfl)) 25 rfl) (by simp [undef])
      have d29 := get_of_at (hneed 22 (of_decide_eq_true (by kernel_rfl)) 29 rfl) (by simp [undef])
      have d21 := get_of_at (hneed 14 (of_decide_eq_true (by kernel_rfl)) 21 rfl) (by simp [undef])
      clear hold hneed ho
      (go_simp; exact hK _ _ (by first | rfl | simp) (Upd.refl [] _))
    | 24, ho =>
      obtain rfl := Option.some.inj ho
      have d21 := get_of_at (hneed 14 (of_decide_eq_true (by kernel_rfl)) 21 rfl) (by simp [undef])
      have d30 := get_of_at (hneed 23 (of_decide_eq_true (by kernel_rfl)) 30 rfl) (by simp [undef])
      clear hold hneed ho
      (go_simp; exact hK _ _ (by first | rfl | simp) (Upd.refl [] _))
    | 25, ho =>
      obtain rfl := Option.some.inj ho
      have d31 := get_of_at (hneed 24 (of_decide_eq_true (by kernel_rfl)) 31 rfl) (by simp [undef])
      clear hold hneed ho
      (go_simp; exact hK _ _ (by first | rfl | simp) (Upd.refl [] _))
    | 26, ho =>
      obtain rfl := Option.some.inj ho
      have d2 := hold 2 _ (by kernel_rfl) rfl
      have d32 := get_of_at (hneed 25 (of_decide_eq_true (by kernel_rfl)) 32 rfl) (by simp [undef])
      clear hold hneed ho
      (go_simp; exact hK _ _ (by first | rfl | simp) (Upd.refl [] _))
    | 27, ho =>
      obtain rfl := Option.some.inj ho
      have d33 := get_of_at (hneed 26 (of_decide_eq_true (by kernel_rfl)) 33 rfl) (by simp [undef])
      have d32 := get_of_at (hneed 25 (of_decide_eq_true (by kernel_rfl)) 32 rfl) (by simp [undef])
      clear hold hneed ho
      (go_simp; refine (vjoin (hl2.upd hS) c hm hls).mono ?_; rw [HK.out]; unfold labV; rintro e w3 ⟨rfl, hu3⟩; exact hK _ _ rfl hu3)
    | 28, ho =>
      obtain rfl := Option.some.inj ho
      have d2 := hold 2 _ (by kernel_rfl) rfl
      have d32 := get_of_at (hneed 25 (of_decide_eq_true (by kernel_rfl)) 32 rfl) (by simp [undef])
      clear hold hneed ho
      (go_simp; exact hK _ _ (by first | rfl | simp) (Upd.refl [] _))
    | 29, ho =>
      obtain rfl := Option.some.inj ho
      have d35 := get_of_at (hneed 28 (of_decide_eq_true (by kernel_rfl)) 35 rfl) (by simp [undef])
      have d32 := get_of_at (hneed 25 (of_decide_eq_true (by kernel_rfl)) 32 rfl) (by simp [undef])
      clear hold hneed ho
      (go_simp; refine (rjoinAll (hl2.upd hS) c hm hls).mono ?_; rw [HK.out]; unfold labV; rintro e w3 ⟨rfl, hu3⟩; exact hK _ _ rfl hu3)
    | 30, ho =>
      obtain rfl := Option.some.inj ho
      have d34 := get_of_at (hneed 27 (of_decide_eq_true (by kernel_rfl)) 34 rfl) (by simp [undef])
      have d36 := get_of_at (hneed 29 (of_decide_eq_true (by kernel_rfl)) 36 rfl) (by simp [undef])
      have d32 := get_of_at (hneed 25 (of_decide_eq_true (by kernel_rfl)) 32 rfl) (by simp [undef])
      clear hold hneed ho
      (go_simp; exact hK _ _ (by first | rfl | simp) (Upd.refl [] _))
    | 31, ho =>
      obtain rfl := Option.some.inj ho
      have d32 := get_of_at (hneed 25 (of_decide_eq_true (by kernel_rfl)) 32 rfl) (by simp [undef])
      have d37 := get_of_at (hneed 30 (of_decide_eq_true (by kernel_rfl)) 37 rfl) (by simp [undef])
      clear hold hneed ho
      (go_simp; exact hK _ _ (by first | rfl | simp) (Upd.refl [] _))
    | 32, ho =>
      obtain rfl := Option.some.inj ho
      have d38 := get_of_at (hneed 31 (of_decide_eq_true (by kernel_rfl)) 38 rfl) (by simp [undef])
      clear hold hneed ho
      (go_simp; exact hK _ _ (by first | rfl | simp) (Upd.refl [] _))
    | 33, ho =>
      obtain rfl := Option.some.inj ho
      have d3 := hold 3 _ (by kernel_rfl) rfl
      have d39 := get_of_at (hneed 32 (of_decide_eq_true (by kernel_rfl)) 39 rfl) (by simp [undef])
      clear hold hneed ho
      (have p0 := (hS.cell hA2.lt (by simp)).trans zA0; have p1 := (hS.cell hA2.lt (by simp)).trans zA1; go_simp; exact hK _ _ rfl (Upd.refl [] _))
    | 34, ho =>
      obtain rfl := Option.some.inj ho
      have d4 := hold 4 _ (by kernel_rfl) rfl
      have d39 := get_of_at (hneed 32 (of_decide_eq_true (by kernel_rfl)) 39 rfl) (by simp [undef])
      clear hold hneed ho
      (have p0 := (hS.cell hB2.lt (by simp)).trans zB0; have p1 := (hS.cell hB2.lt (by simp)).trans zB1; go_simp; exact hK _ _ rfl (Upd.refl [] _))
    | 35, ho =>
      obtain rfl := Option.some.inj ho
      have d40 := get_of_at (hneed 33 (of_decide_eq_true (by kernel_rfl)) 40 rfl) (by simp [undef])
      have d41 := get_of_at (hneed 34 (of_decide_eq_true (by kernel_rfl)) 41 rfl) (by simp [undef])
      have d39 := get_of_at (hneed 32 (of_decide_eq_true (by kernel_rfl)) 39 rfl) (by simp [undef])
      clear hold hneed ho
      (go_simp; refine (vmeet (L, P) (M, Q) ha hb _).mono ?_; rw [HN.out]; unfold labV; rintro e w3 ⟨rfl, hu3⟩; exact hK _ _ rfl hu3)
    | 36, ho =>
      obtain rfl := Option.some.inj ho
      have d3 := hold 3 _ (by kernel_rfl) rfl
      have d39 := get_of_at (hneed 32 (of_decide_eq_true (by kernel_rfl)) 39 rfl) (by simp [undef])
      clear hold hneed ho
      (have p0 := (hS.cell hA2.lt (by simp)).trans zA0; have p1 := (hS.cell hA2.lt (by simp)).trans zA1; go_simp; exact hK _ _ rfl (Upd.refl [] _))
    | 37, ho =>
      obtain rfl := Option.some.inj ho
      have d4 := hold 4 _ (by kernel_rfl) rfl
      have d39 := get_of_at (hneed 32 (of_decide_eq_true (by kernel_rfl)) 39 rfl) (by simp [undef])
      clear hold hneed ho
      (have p0 := (hS.cell hB2.lt (by simp)).trans zB0; have p1 := (hS.cell hB2.lt (by simp)).trans zB1; go_simp; exact hK _ _ rfl (Upd.refl [] _))
    | 38, ho =>
      obtain rfl := Option.some.inj ho
      have d43 := get_of_at (hneed 36 (of_decide_eq_true (by kernel_rfl)) 43 rfl) (by simp [undef])
      have d44 := get_of_at (hneed 37 (of_decide_eq_true (by kernel_rfl)) 44 rfl) (by simp [undef])
      have d39 := get_of_at (hneed 32 (of_decide_eq_true (by kernel_rfl)) 39 rfl) (by simp [undef])
      clear hold hneed ho
      (go_simp; refine (rmeet (L, P) (M, Q) ha hb _).mono ?_; rw [HN.out]; unfold labV; rintro e w3 ⟨rfl, hu3⟩; exact hK _ _ rfl hu3)
    | 39, ho =>
      obtain rfl := Option.some.inj ho
      have d42 := get_of_at (hneed 35 (of_decide_eq_true (by kernel_rfl)) 42 rfl) (by simp [undef])
      have d45 := get_of_at (hneed 38 (of_decide_eq_true (by kernel_rfl)) 45 rfl) (by simp [undef])
      have d39 := get_of_at (hneed 32 (of_decide_eq_true (by kernel_rfl)) 39 rfl) (by simp [undef])
      clear hold hneed ho
      (go_simp; exact hK _ _ (by first | rfl | simp) (Upd.refl [] _))
    | 40, ho =>
      obtain rfl := Option.some.inj ho
      have d39 := get_of_at (hneed 32 (of_decide_eq_true (by kernel_rfl)) 39 rfl) (by simp [undef])
      have d46 := get_of_at (hneed 39 (of_decide_eq_true (by kernel_rfl)) 46 rfl) (by simp [undef])
      clear hold hneed ho
      (go_simp; exact hK _ _ (by first | rfl | simp) (Upd.refl [] _))
    | 41, ho =>
      obtain rfl := Option.some.inj ho
      have d47 := get_of_at (hneed 40 (of_decide_eq_true (by kernel_rfl)) 47 rfl) (by simp [undef])
      clear hold hneed ho
      (go_simp; exact hK _ _ (by first | rfl | simp) (Upd.refl [] _))
    | 42, ho =>
      obtain rfl := Option.some.inj ho
      have d48 := get_of_at (hneed 41 (of_decide_eq_true (by kernel_rfl)) 48 rfl) (by simp [undef])
      clear hold hneed ho
      (go_simp; refine (works_any _ m ((hS.cell hl1 (by simp)).trans z1) ((hS.cell hl5 (by simp)).trans z5)).mono ?_; rintro e w3 ⟨rfl, hu3⟩; exact hK _ _ rfl hu3)
    | 43, ho =>
      obtain rfl := Option.some.inj ho
      have d48 := get_of_at (hneed 41 (of_decide_eq_true (by kernel_rfl)) 48 rfl) (by simp [undef])
      have d49 := get_of_at (hneed 42 (of_decide_eq_true (by kernel_rfl)) 49 rfl) (by simp [undef])
      clear hold hneed ho
      (go_simp; exact hK _ _ (by first | rfl | simp) (Upd.refl [] _))
    | 44, ho =>
      obtain rfl := Option.some.inj ho
      have d50 := get_of_at (hneed 43 (of_decide_eq_true (by kernel_rfl)) 50 rfl) (by simp [undef])
      clear hold hneed ho
      (go_simp; exact hK _ _ (by first | rfl | simp) (Upd.refl [] _))
    | _ + 45, ho => exact absurd ho (by simp)
  case fin =>
    intro a w' hS hsz hdf hold hvals
    obtain ⟨b24, hv24, hB24⟩ := hvals 17 24 rfl
    obtain ⟨b28, hv28, hB28⟩ := hvals 21 28 rfl
    have ha := act_lit hsz hdf (RowIs.cons (at_of_get (hold 0 _ (by kernel_rfl) rfl)) (RowIs.cons (at_of_get (hold 1 _ (by kernel_rfl) rfl)) (RowIs.cons (at_of_get (hold 2 _ (by kernel_rfl) rfl)) (RowIs.cons (at_of_get (hold 3 _ (by kernel_rfl) rfl)) (RowIs.cons (at_of_get (hold 4 _ (by kernel_rfl) rfl)) (RowIs.cons (at_of_get (hold 5 _ (by kernel_rfl) rfl)) (RowIs.cons (hvals 44 6 rfl) (RowIs.cons (hvals 0 7 rfl) (RowIs.cons (hvals 1 8 rfl) (RowIs.cons (hvals 2 9 rfl) (RowIs.cons (hvals 3 10 rfl) (RowIs.cons (hvals 4 11 rfl) (RowIs.cons (hvals 5 12 rfl) (RowIs.cons (hvals 6 13 rfl) (RowIs.cons (hvals 7 14 rfl) (RowIs.cons (hvals 8 15 rfl) (RowIs.cons (hvals 9 16 rfl) (RowIs.cons (hvals 10 17 rfl) (RowIs.cons (hvals 11 18 rfl) (RowIs.cons (hvals 12 19 rfl) (RowIs.cons (hvals 13 20 rfl) (RowIs.cons (hvals 14 21 rfl) (RowIs.cons (hvals 15 22 rfl) (RowIs.cons (hvals 16 23 rfl) (RowIs.cons hv24 (RowIs.cons (hvals 18 25 rfl) (RowIs.cons (hvals 19 26 rfl) (RowIs.cons (hvals 20 27 rfl) (RowIs.cons hv28 (RowIs.cons (hvals 22 29 rfl) (RowIs.cons (hvals 23 30 rfl) (RowIs.cons (hvals 24 31 rfl) (RowIs.cons (hvals 25 32 rfl) (RowIs.cons (hvals 26 33 rfl) (RowIs.cons (hvals 27 34 rfl) (RowIs.cons (hvals 28 35 rfl) (RowIs.cons (hvals 29 36 rfl) (RowIs.cons (hvals 30 37 rfl) (RowIs.cons (hvals 31 38 rfl) (RowIs.cons (hvals 32 39 rfl) (RowIs.cons (hvals 33 40 rfl) (RowIs.cons (hvals 34 41 rfl) (RowIs.cons (hvals 35 42 rfl) (RowIs.cons (hvals 36 43 rfl) (RowIs.cons (hvals 37 44 rfl) (RowIs.cons (hvals 38 45 rfl) (RowIs.cons (hvals 39 46 rfl) (RowIs.cons (hvals 40 47 rfl) (RowIs.cons (hvals 41 48 rfl) (RowIs.cons (hvals 42 49 rfl) (RowIs.cons (hvals 43 50 rfl) (RowIs.nil _ _)))))))))))))))))))))))))))))))))))))))))))))))))))) rfl
    clear hsz hdf hold hvals
    subst ha
    try simp only [List.getElem_toArray, List.getElem_cons_succ, List.getElem_cons_zero]
    go_wp2_with fail
    go_ret
    exact ⟨rfl, u2.trans_nil hS⟩

end Go.Proofs.YtpkllbnaoiggkaaDoor
