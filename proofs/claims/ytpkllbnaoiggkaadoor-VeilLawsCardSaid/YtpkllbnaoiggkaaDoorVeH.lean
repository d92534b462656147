/- Labels: works. -/
import Derived.Test.YtpkllbnaoiggkaaDoorVeG
import Derived.Test.YtpkllbnaoiggkaaDoorReg
namespace Go.Proofs.YtpkllbnaoiggkaaDoor
open Go.RowKit

theorem flowsL_closed {a b : Lab} {x : Bool} (h : (mayL a && mayL b && decide (a.1 ≤ b.1) && (a.2 &&& b.2 == a.2)) = x) : flowsL a b = x := by
  subst h
  rw [Bool.eq_iff_iff, flowsL_iff, subN_and_eq]
  simp [and_assoc]

theorem vatI (L P : Int) (h0 : 0 ≤ P) (w : World) : Calls Tryd.prog 19 #[.int .i64 L, .int .u32 P] w fun e w' => e = .returned (.agg #[.int .i64 L, .int .u32 P]) ∧ Upd [] w w' := by
  obtain ⟨p, rfl⟩ := Int.eq_ofNat_of_zero_le h0
  exact vat L p w
theorem flows_11 (w : World) : Calls Tryd.prog 11 #[.agg #[.int .i64 1, .int .u32 1], .agg #[.int .i64 2, .int .u32 3]] w fun e w' => e = .returned (.bool true) ∧ Upd [] w w' := by
  have h := vflows (1, 1) (2, 3) (by decide) (by decide) w
  rw [flowsL_closed (x := true) (by decide)] at h
  exact h
theorem flows_14 (w : World) : Calls Tryd.prog 11 #[.agg #[.int .i64 1, .int .u32 4], .agg #[.int .i64 2, .int .u32 3]] w fun e w' => e = .returned (.bool false) ∧ Upd [] w w' := by
  have h := vflows (1, 4) (2, 3) (by decide) (by decide) w
  rw [flowsL_closed (x := false) (by decide)] at h
  exact h
theorem flows_30 (w : World) : Calls Tryd.prog 11 #[.agg #[.int .i64 3, .int .u32 0], .agg #[.int .i64 2, .int .u32 3]] w fun e w' => e = .returned (.bool false) ∧ Upd [] w w' := by
  have h := vflows (3, 0) (2, 3) (by decide) (by decide) w
  rw [flowsL_closed (x := false) (by decide)] at h
  exact h
theorem join_ex {w : World} {b : Nat} (h : Blk w b [.int .i64 1, .int .u32 4, .int .i64 2, .int .u32 3] 24) : Calls Tryd.prog 13 #[.slice (some ⟨b, 0, none⟩) 2 2] w fun e w' => e = .returned (.agg #[.int .i64 2, .int .u32 7]) ∧ Upd [] w w' :=
  vjoin (LabsAt.two (x := (1, 4)) (y := (2, 3)) h) 2 (by decide) (by decide)
theorem meet_ex (w : World) : Calls Tryd.prog 15 #[.agg #[.int .i64 1, .int .u32 4], .agg #[.int .i64 2, .int .u32 6]] w fun e w' => e = .returned (.agg #[.int .i64 1, .int .u32 4]) ∧ Upd [] w w' :=
  vmeet (1, 4) (2, 6) (by decide) (by decide) w
theorem text_ex (w : World) (h : w.cell? ⟨5, 15, none⟩ = some (.int .u8 4)) : Calls Tryd.prog 21 #[.agg #[.int .i64 2, .int .u32 7]] w fun e w' => e = .returned (.string ⟨#[50, 58, 48, 48, 48, 48, 48, 48, 48, 55]⟩) ∧ Upd [] w w' :=
  text_27 w h

set_option maxHeartbeats 4000000 in
set_option maxRecDepth 100000 in
theorem works_any (w : World) (m : Int) (h1 : w.cell? ⟨1, 0, none⟩ = some (.int .i64 m)) (h5 : w.cell? ⟨5, 15, none⟩ = some (.int .u8 4)) :
    Calls Tryd.prog 17 #[] w fun e w' => e = .returned (.bool true) ∧ Upd [] w w' := by
  have hl1 : 1 < w.heap.size := lt_of_cell h1
  have hl5 : 5 < w.heap.size := lt_of_cell h5
  go_enter Tryd.func17, Tryd.ntmps17
  go_upto_region 2 with (go_at_call 24; refine (read_3 _ m h1).mono ?_; unfold labV; rintro e w1 ⟨rfl, hu1⟩; have hs1 := hu1.size)
  have u1 := hu1.alloc (.cells #[.int .i64 3, .int .u32 0] 24)
  have hA := Blk.new w1 #[.int .i64 3, .int .u32 0] 24
  have hgA : w.heap.size ≤ w1.heap.size := hs1
  generalize w1.alloc (.cells #[.int .i64 3, .int .u32 0] 24) = W1 at *
  generalize w1.heap.size = bA at *
  clear hu1 hs1
  have k1 : W1.cell? ⟨1, 0, none⟩ = some (.int .i64 m) := (u1.cell hl1 (by simp)).trans h1
  go_upto_region 3 with (go_at_call 24; refine (read_8 _ m k1).mono ?_; unfold labV; rintro e w2 ⟨rfl, hu2⟩)
  have u2 := (u1.trans_nil hu2).alloc (.cells #[.int .i64 0, .int .u32 0] 24)
  have hA2 := (hA.upd_nil hu2).alloc (.cells #[.int .i64 0, .int .u32 0] 24)
  generalize w2.alloc (.cells #[.int .i64 0, .int .u32 0] 24) = W2 at *
  generalize w2.heap.size = bB at *
  clear hu2 u1 hA k1
  have k1 : W2.cell? ⟨1, 0, none⟩ = some (.int .i64 m) := (u2.cell hl1 (by simp)).trans h1
  go_upto_region 4 with (go_at_call 24; refine (read_z _ m k1).mono ?_; unfold labV; rintro e w3 ⟨rfl, hu3⟩)
  have u3 := (u2.trans_nil hu3).alloc (.cells #[.int .i64 0, .int .u32 0] 24)
  have hA3 := (hA2.upd_nil hu3).alloc (.cells #[.int .i64 0, .int .u32 0] 24)
  generalize w3.alloc (.cells #[.int .i64 0, .int .u32 0] 24) = W3 at *
  generalize w3.heap.size = bC at *
  clear hu3 u2 hA2 k1
  have k1 : W3.cell? ⟨1, 0, none⟩ = some (.int .i64 m) := (u3.cell hl1 (by simp)).trans h1
  go_upto_region 5 with (go_at_call 24; refine (read_g _ m k1).mono ?_; unfold labV; rintro e w4 ⟨rfl, hu4⟩)
  have u4 := (u3.trans_nil hu4).alloc (.cells #[.int .i64 0, .int .u32 0] 24)
  have hA4 := (hA3.upd_nil hu4).alloc (.cells #[.int .i64 0, .int .u32 0] 24)
  generalize w4.alloc (.cells #[.int .i64 0, .int .u32 0] 24) = W4 at *
  generalize w4.heap.size = bD at *
  clear hu4 u3 hA3 k1
  go_upto_region 6 with (first
    | (go_at_call 19; refine (vatI _ _ (by decide) _).mono ?_; rintro e wn ⟨rfl, hn⟩; replace u4 := u4.trans_nil hn; replace hA4 := hA4.upd_nil hn; clear hn)
    | (go_at_call_of 11 (Value.int .u32 1); refine (flows_11 _).mono ?_; rintro e wn ⟨rfl, hn⟩; replace u4 := u4.trans_nil hn; replace hA4 := hA4.upd_nil hn; clear hn)
    | (go_at_call_of 11 (Value.int .u32 4); refine (flows_14 _).mono ?_; rintro e wn ⟨rfl, hn⟩; replace u4 := u4.trans_nil hn; replace hA4 := hA4.upd_nil hn; clear hn)
    | (go_at_call_of 11 (Value.int .u32 0); refine (flows_30 _).mono ?_; rintro e wn ⟨rfl, hn⟩; replace u4 := u4.trans_nil hn; replace hA4 := hA4.upd_nil hn; clear hn))
  have z5 : wn.cell? ⟨5, 15, none⟩ = some (.int .u8 4) := (u4.cell hl5 (by simp)).trans h5
  have hl5w : 5 < wn.heap.size := lt_of_cell z5
  have zA0 := hA4.cell 0 rfl
  have zA1 := hA4.cell 1 rfl
  refine wp_region_spec [(.eq (.bool true)), (.eq (.bool true)), (.eq (.agg #[.int .i64 1, .int .u32 4])), (.eq (.agg #[.int .i64 2, .int .u32 3])), (.sl 2 2 [.int .i64 1, .int .u32 4, .int .i64 2, .int .u32 3] 24), (.eq (.agg #[.int .i64 2, .int .u32 7])), (.eq (.agg #[.int .i64 2, .int .u32 7])), (.eq (.bool true)), (.eq (.bool true)), (.eq (.bool true)), (.eq (.agg #[.int .i64 1, .int .u32 4])), (.eq (.agg #[.int .i64 2, .int .u32 6])), (.eq (.agg #[.int .i64 1, .int .u32 4])), (.eq (.agg #[.int .i64 1, .int .u32 4])), (.eq (.bool true)), (.eq (.bool true)), (.eq (.bool true)), (.eq (.agg #[.int .i64 2, .int .u32 7])), (.eq (.string ⟨#[50, 58, 48, 48, 48, 48, 48, 48, 48, 55]⟩)), (.eq (.bool true)), (.eq (.bool true)), (.eq (.bool true)), (.eq (.int .i64 0)), (.eq (.bool true)), (.eq (.bool true)), (.eq (.bool true)), (.eq (.agg #[.int .i64 3, .int .u32 0])), (.eq (.agg #[.int .i64 3, .int .u32 0])), (.eq (.bool true)), (.eq (.bool true)), (.eq (.bool true)), (.eq (.int .i64 4)), (.eq (.bool true)), (.eq (.bool true)), (.eq (.bool true)), (.eq (.int .i64 4)), (.eq (.bool true)), (.eq (.bool true)), (.eq (.bool true)), (.eq (.int .i64 4)), (.eq (.bool true)), (.eq (.bool true)), (.eq (.bool true))] (by kernel_rfl) (by kernel_rfl) rfl ?step ?fin
  case step =>
    intro i o ho a w' hS hold hneed K' hK
    match i, ho with
    | 0, ho =>
      obtain rfl := Option.some.inj ho
      have d9 := hold 9 _ (by kernel_rfl) rfl
      clear hold hneed ho
      (go_simp; exact hK _ _ rfl (Upd.refl [] _))
    | 1, ho =>
      obtain rfl := Option.some.inj ho
      have d41 := get_of_at (hneed 0 (of_decide_eq_true (by kernel_rfl)) 41 rfl) (by simp [undef])
      clear hold hneed ho
      (go_simp; exact hK _ _ rfl (Upd.refl [] _))
    | 2, ho =>
      obtain rfl := Option.some.inj ho
      have d42 := get_of_at (hneed 1 (of_decide_eq_true (by kernel_rfl)) 42 rfl) (by simp [undef])
      clear hold hneed ho
      (go_simp; refine (vatI 1 4 (by decide) _).mono ?_; rintro e w3 ⟨rfl, hu3⟩; exact hK _ _ rfl hu3)
    | 3, ho =>
      obtain rfl := Option.some.inj ho
      have d42 := get_of_at (hneed 1 (of_decide_eq_true (by kernel_rfl)) 42 rfl) (by simp [undef])
      clear hold hneed ho
      (go_simp; refine (vatI 2 3 (by decide) _).mono ?_; rintro e w3 ⟨rfl, hu3⟩; exact hK _ _ rfl hu3)
    | 4, ho =>
      obtain rfl := Option.some.inj ho
      have d43 := get_of_at (hneed 2 (of_decide_eq_true (by kernel_rfl)) 43 rfl) (by simp [undef])
      have d44 := get_of_at (hneed 3 (of_decide_eq_true (by kernel_rfl)) 44 rfl) (by simp [undef])
      have d42 := get_of_at (hneed 1 (of_decide_eq_true (by kernel_rfl)) 42 rfl) (by simp [undef])
      clear hold hneed ho
      (go_simp; exact hK _ _ ⟨_, rfl, Blk.new _ _ _⟩ ((Upd.refl [] _).alloc _))
    | 5, ho =>
      obtain rfl := Option.some.inj ho
      obtain ⟨b45, e45, hB45⟩ := hneed 4 (of_decide_eq_true (by kernel_rfl)) 45 rfl
      have d45 := get_of_at e45 (by simp [undef])
      have d42 := get_of_at (hneed 1 (of_decide_eq_true (by kernel_rfl)) 42 rfl) (by simp [undef])
      clear hold hneed ho
      (go_simp; refine (join_ex hB45).mono ?_; rintro e w3 ⟨rfl, hu3⟩; exact hK _ _ rfl hu3)
    | 6, ho =>
      obtain rfl := Option.some.inj ho
      have d42 := get_of_at (hneed 1 (of_decide_eq_true (by kernel_rfl)) 42 rfl) (by simp [undef])
      clear hold hneed ho
      (go_simp; refine (vatI 2 7 (by decide) _).mono ?_; rintro e w3 ⟨rfl, hu3⟩; exact hK _ _ rfl hu3)
    | 7, ho =>
      obtain rfl := Option.some.inj ho
      have d46 := get_of_at (hneed 5 (of_decide_eq_true (by kernel_rfl)) 46 rfl) (by simp [undef])
      have d47 := get_of_at (hneed 6 (of_decide_eq_true (by kernel_rfl)) 47 rfl) (by simp [undef])
      have d42 := get_of_at (hneed 1 (of_decide_eq_true (by kernel_rfl)) 42 rfl) (by simp [undef])
      clear hold hneed ho
      (go_simp; exact hK _ _ rfl (Upd.refl [] _))
    | 8, ho =>
      obtain rfl := Option.some.inj ho
      have d42 := get_of_at (hneed 1 (of_decide_eq_true (by kernel_rfl)) 42 rfl) (by simp [undef])
      have d48 := get_of_at (hneed 7 (of_decide_eq_true (by kernel_rfl)) 48 rfl) (by simp [undef])
      clear hold hneed ho
      (go_simp; exact hK _ _ rfl (Upd.refl [] _))
    | 9, ho =>
      obtain rfl := Option.some.inj ho
      have d49 := get_of_at (hneed 8 (of_decide_eq_true (by kernel_rfl)) 49 rfl) (by simp [undef])
      clear hold hneed ho
      (go_simp; exact hK _ _ rfl (Upd.refl [] _))
    | 10, ho =>
      obtain rfl := Option.some.inj ho
      have d50 := get_of_at (hneed 9 (of_decide_eq_true (by kernel_rfl)) 50 rfl) (by simp [undef])
      clear hold hneed ho
      (go_simp; refine (vatI 1 4 (by decide) _).mono ?_; rintro e w3 ⟨rfl, hu3⟩; exact hK _ _ rfl hu3)
    | 11, ho =>
      obtain rfl := Option.some.inj ho
      have d50 := get_of_at (hneed 9 (of_decide_eq_true (by kernel_rfl)) 50 rfl) (by simp [undef])
      clear hold hneed ho
      (go_simp; refine (vatI 2 6 (by decide) _).mono ?_; rintro e w3 ⟨rfl, hu3⟩; exact hK _ _ rfl hu3)
    | 12, ho =>
      obtain rfl := Option.some.inj ho
      have d51 := get_of_at (hneed 10 (of_decide_eq_true (by kernel_rfl)) 51 rfl) (by simp [undef])
      have d52 := get_of_at (hneed 11 (of_decide_eq_true (by kernel_rfl)) 52 rfl) (by simp [undef])
      have d50 := get_of_at (hneed 9 (of_decide_eq_true (by kernel_rfl)) 50 rfl) (by simp [undef])
      clear hold hneed ho
      (go_simp; refine (meet_ex _).mono ?_; rintro e w3 ⟨rfl, hu3⟩; exact hK _ _ rfl hu3)
    | 13, ho =>
      obtain rfl := Option.some.inj ho
      have d50 := get_of_at (hneed 9 (of_decide_eq_true (by kernel_rfl)) 50 rfl) (by simp [undef])
      clear hold hneed ho
      (go_simp; refine (vatI 1 4 (by decide) _).mono ?_; rintro e w3 ⟨rfl, hu3⟩; exact hK _ _ rfl hu3)
    | 14, ho =>
      obtain rfl := Option.some.inj ho
      have d53 := get_of_at (hneed 12 (of_decide_eq_true (by kernel_rfl)) 53 rfl) (by simp [undef])
      have d54 := get_of_at (hneed 13 (of_decide_eq_true (by kernel_rfl)) 54 rfl) (by simp [undef])
      have d50 := get_of_at (hneed 9 (of_decide_eq_true (by kernel_rfl)) 50 rfl) (by simp [undef])
      clear hold hneed ho
      (go_simp; exact hK _ _ rfl (Upd.refl [] _))
    | 15, ho =>
      obtain rfl := Option.some.inj ho
      have d50 := get_of_at (hneed 9 (of_decide_eq_true (by kernel_rfl)) 50 rfl) (by simp [undef])
      have d55 := get_of_at (hneed 14 (of_decide_eq_true (by kernel_rfl)) 55 rfl) (by simp [undef])
      clear hold hneed ho
      (go_simp; exact hK _ _ rfl (Upd.refl [] _))
    | 16, ho =>
      obtain rfl := Option.some.inj ho
      have d56 := get_of_at (hneed 15 (of_decide_eq_true (by kernel_rfl)) 56 rfl) (by simp [undef])
      clear hold hneed ho
      (go_simp; exact hK _ _ rfl (Upd.refl [] _))
    | 17, ho =>
      obtain rfl := Option.some.inj ho
      have d57 := get_of_at (hneed 16 (of_decide_eq_true (by kernel_rfl)) 57 rfl) (by simp [undef])
      clear hold hneed ho
      (go_simp; refine (vatI 2 7 (by decide) _).mono ?_; rintro e w3 ⟨rfl, hu3⟩; exact hK _ _ rfl hu3)
    | 18, ho =>
      obtain rfl := Option.some.inj ho
      have d58 := get_of_at (hneed 17 (of_decide_eq_true (by kernel_rfl)) 58 rfl) (by simp [undef])
      have d57 := get_of_at (hneed 16 (of_decide_eq_true (by kernel_rfl)) 57 rfl) (by simp [undef])
      clear hold hneed ho
      (go_simp; refine (text_ex _ ((hS.cell hl5w (by simp)).trans z5)).mono ?_; rintro e w3 ⟨rfl, hu3⟩; exact hK _ _ rfl hu3)
    | 19, ho =>
      obtain rfl := Option.some.inj ho
      have d59 := get_of_at (hneed 18 (of_decide_eq_true (by kernel_rfl)) 59 rfl) (by simp [undef])
      have d57 := get_of_at (hneed 16 (of_decide_eq_true (by kernel_rfl)) 57 rfl) (by simp [undef])
      clear hold hneed ho
      (go_simp; exact hK _ _ rfl (Upd.refl [] _))
    | 20, ho =>
      obtain rfl := Option.some.inj ho
      have d57 := get_of_at (hneed 16 (of_decide_eq_true (by kernel_rfl)) 57 rfl) (by simp [undef])
      have d60 := get_of_at (hneed 19 (of_decide_eq_true (by kernel_rfl)) 60 rfl) (by simp [undef])
      clear hold hneed ho
      (go_simp; exact hK _ _ rfl (Upd.refl [] _))
    | 21, ho =>
      obtain rfl := Option.some.inj ho
      have d61 := get_of_at (hneed 20 (of_decide_eq_true (by kernel_rfl)) 61 rfl) (by simp [undef])
      clear hold hneed ho
      (go_simp; exact hK _ _ rfl (Upd.refl [] _))
    | 22, ho =>
      obtain rfl := Option.some.inj ho
      have d2 := hold 2 _ (by kernel_rfl) rfl
      have d62 := get_of_at (hneed 21 (of_decide_eq_true (by kernel_rfl)) 62 rfl) (by simp [undef])
      clear hold hneed ho
      (go_simp; exact hK _ _ rfl (Upd.refl [] _))
    | 23, ho =>
      obtain rfl := Option.some.inj ho
      have d63 := get_of_at (hneed 22 (of_decide_eq_true (by kernel_rfl)) 63 rfl) (by simp [undef])
      have d62 := get_of_at (hneed 21 (of_decide_eq_true (by kernel_rfl)) 62 rfl) (by simp [undef])
      clear hold hneed ho
      (go_simp; exact hK _ _ rfl (Upd.refl [] _))
    | 24, ho =>
      obtain rfl := Option.some.inj ho
      have d62 := get_of_at (hneed 21 (of_decide_eq_true (by kernel_rfl)) 62 rfl) (by simp [undef])
      have d64 := get_of_at (hneed 23 (of_decide_eq_true (by kernel_rfl)) 64 rfl) (by simp [undef])
      clear hold hneed ho
      (go_simp; exact hK _ _ rfl (Upd.refl [] _))
    | 25, ho =>
      obtain rfl := Option.some.inj ho
      have d65 := get_of_at (hneed 24 (of_decide_eq_true (by kernel_rfl)) 65 rfl) (by simp [undef])
      clear hold hneed ho
      (go_simp; exact hK _ _ rfl (Upd.refl [] _))
    | 26, ho =>
      obtain rfl := Option.some.inj ho
      have d1 := hold 1 _ (by kernel_rfl) rfl
      have d66 := get_of_at (hneed 25 (of_decide_eq_true (by kernel_rfl)) 66 rfl) (by simp [undef])
      clear hold hneed ho
      (have p0 := (hS.cell hA4.lt (by simp)).trans zA0; have p1 := (hS.cell hA4.lt (by simp)).trans zA1; go_simp; exact hK _ _ rfl (Upd.refl [] _))
    | 27, ho =>
      obtain rfl := Option.some.inj ho
      have d66 := get_of_at (hneed 25 (of_decide_eq_true (by kernel_rfl)) 66 rfl) (by simp [undef])
      clear hold hneed ho
      (go_simp; refine (vatI 3 0 (by decide) _).mono ?_; rintro e w3 ⟨rfl, hu3⟩; exact hK _ _ rfl hu3)
    | 28, ho =>
      obtain rfl := Option.some.inj ho
      have d67 := get_of_at (hneed 26 (of_decide_eq_true (by kernel_rfl)) 67 rfl) (by simp [undef])
      have d68 := get_of_at (hneed 27 (of_decide_eq_true (by kernel_rfl)) 68 rfl) (by simp [undef])
      have d66 := get_of_at (hneed 25 (of_decide_eq_true (by kernel_rfl)) 66 rfl) (by simp [undef])
      clear hold hneed ho
      (go_simp; exact hK _ _ rfl (Upd.refl [] _))
    | 29, ho =>
      obtain rfl := Option.some.inj ho
      have d66 := get_of_at (hneed 25 (of_decide_eq_true (by kernel_rfl)) 66 rfl) (by simp [undef])
      have d69 := get_of_at (hneed 28 (of_decide_eq_true (by kernel_rfl)) 69 rfl) (by simp [undef])
      clear hold hneed ho
      (go_simp; exact hK _ _ rfl (Upd.refl [] _))
    | 30, ho =>
      obtain rfl := Option.some.inj ho
      have d70 := get_of_at (hneed 29 (of_decide_eq_true (by kernel_rfl)) 70 rfl) (by simp [undef])
      clear hold hneed ho
      (go_simp; exact hK _ _ rfl (Upd.refl [] _))
    | 31, ho =>
      obtain rfl := Option.some.inj ho
      have d4 := hold 4 _ (by kernel_rfl) rfl
      have d71 := get_of_at (hneed 30 (of_decide_eq_true (by kernel_rfl)) 71 rfl) (by simp [undef])
      clear hold hneed ho
      (go_simp; exact hK _ _ rfl (Upd.refl [] _))
    | 32, ho =>
      obtain rfl := Option.some.inj ho
      have d72 := get_of_at (hneed 31 (of_decide_eq_true (by kernel_rfl)) 72 rfl) (by simp [undef])
      have d71 := get_of_at (hneed 30 (of_decide_eq_true (by kernel_rfl)) 71 rfl) (by simp [undef])
      clear hold hneed ho
      (go_simp; exact hK _ _ rfl (Upd.refl [] _))
    | 33, ho =>
      obtain rfl := Option.some.inj ho
      have d71 := get_of_at (hneed 30 (of_decide_eq_true (by kernel_rfl)) 71 rfl) (by simp [undef])
      have d73 := get_of_at (hneed 32 (of_decide_eq_true (by kernel_rfl)) 73 rfl) (by simp [undef])
      clear hold hneed ho
      (go_simp; exact hK _ _ rfl (Upd.refl [] _))
    | 34, ho =>
      obtain rfl := Option.some.inj ho
      have d74 := get_of_at (hneed 33 (of_decide_eq_true (by kernel_rfl)) 74 rfl) (by simp [undef])
      clear hold hneed ho
      (go_simp; exact hK _ _ rfl (Upd.refl [] _))
    | 35, ho =>
      obtain rfl := Option.some.inj ho
      have d6 := hold 6 _ (by kernel_rfl) rfl
      have d75 := get_of_at (hneed 34 (of_decide_eq_true (by kernel_rfl)) 75 rfl) (by simp [undef])
      clear hold hneed ho
      (go_simp; exact hK _ _ rfl (Upd.refl [] _))
    | 36, ho =>
      obtain rfl := Option.some.inj ho
      have d76 := get_of_at (hneed 35 (of_decide_eq_true (by kernel_rfl)) 76 rfl) (by simp [undef])
      have d75 := get_of_at (hneed 34 (of_decide_eq_true (by kernel_rfl)) 75 rfl) (by simp [undef])
      clear hold hneed ho
      (go_simp; exact hK _ _ rfl (Upd.refl [] _))
    | 37, ho =>
      obtain rfl := Option.some.inj ho
      have d75 := get_of_at (hneed 34 (of_decide_eq_true (by kernel_rfl)) 75 rfl) (by simp [undef])
      have d77 := get_of_at (hneed 36 (of_decide_eq_true (by kernel_rfl)) 77 rfl) (by simp [undef])
      clear hold hneed ho
      (go_simp; exact hK _ _ rfl (Upd.refl [] _))
    | 38, ho =>
      obtain rfl := Option.some.inj ho
      have d78 := get_of_at (hneed 37 (of_decide_eq_true (by kernel_rfl)) 78 rfl) (by simp [undef])
      clear hold hneed ho
      (go_simp; exact hK _ _ rfl (Upd.refl [] _))
    | 39, ho =>
      obtain rfl := Option.some.inj ho
      have d8 := hold 8 _ (by kernel_rfl) rfl
      have d79 := get_of_at (hneed 38 (of_decide_eq_true (by kernel_rfl)) 79 rfl) (by simp [undef])
      clear hold hneed ho
      (go_simp; exact hK _ _ rfl (Upd.refl [] _))
    | 40, ho =>
      obtain rfl := Option.some.inj ho
      have d80 := get_of_at (hneed 39 (of_decide_eq_true (by kernel_rfl)) 80 rfl) (by simp [undef])
      have d79 := get_of_at (hneed 38 (of_decide_eq_true (by kernel_rfl)) 79 rfl) (by simp [undef])
      clear hold hneed ho
      (go_simp; exact hK _ _ rfl (Upd.refl [] _))
    | 41, ho =>
      obtain rfl := Option.some.inj ho
      have d79 := get_of_at (hneed 38 (of_decide_eq_true (by kernel_rfl)) 79 rfl) (by simp [undef])
      have d81 := get_of_at (hneed 40 (of_decide_eq_true (by kernel_rfl)) 81 rfl) (by simp [undef])
      clear hold hneed ho
      (go_simp; exact hK _ _ rfl (Upd.refl [] _))
    | 42, ho =>
      obtain rfl := Option.some.inj ho
      have d82 := get_of_at (hneed 41 (of_decide_eq_true (by kernel_rfl)) 82 rfl) (by simp [undef])
      clear hold hneed ho
      (go_simp; exact hK _ _ rfl (Upd.refl [] _))
    | _ + 43, ho => exact absurd ho (by simp)
  case fin =>
    intro a w' hS hsz hdf hold hvals
    obtain ⟨b45, hv45, hB45⟩ := hvals 4 45 rfl
    have ha := act_lit hsz hdf (RowIs.cons (hvals 42 0 rfl) (RowIs.cons (at_of_get (hold 1 _ (by kernel_rfl) rfl)) (RowIs.cons (at_of_get (hold 2 _ (by kernel_rfl) rfl)) (RowIs.cons (at_of_get (hold 3 _ (by kernel_rfl) rfl)) (RowIs.cons (at_of_get (hold 4 _ (by kernel_rfl) rfl)) (RowIs.cons (at_of_get (hold 5 _ (by kernel_rfl) rfl)) (RowIs.cons (at_of_get (hold 6 _ (by kernel_rfl) rfl)) (RowIs.cons (at_of_get (hold 7 _ (by kernel_rfl) rfl)) (RowIs.cons (at_of_get (hold 8 _ (by kernel_rfl) rfl)) (RowIs.cons (at_of_get (hold 9 _ (by kernel_rfl) rfl)) (RowIs.cons (at_of_get (hold 10 _ (by kernel_rfl) rfl)) (RowIs.cons (at_of_get (hold 11 _ (by kernel_rfl) rfl)) (RowIs.cons (at_of_get (hold 12 _ (by kernel_rfl) rfl)) (RowIs.cons (at_of_get (hold 13 _ (by kernel_rfl) rfl)) (RowIs.cons (at_of_get (hold 14 _ (by kernel_rfl) rfl)) (RowIs.cons (at_of_get (hold 15 _ (by kernel_rfl) rfl)) (RowIs.cons (at_of_get (hold 16 _ (by kernel_rfl) rfl)) (RowIs.cons (at_of_get (hold 17 _ (by kernel_rfl) rfl)) (RowIs.cons (at_of_get (hold 18 _ (by kernel_rfl) rfl)) (RowIs.cons (at_of_get (hold 19 _ (by kernel_rfl) rfl)) (RowIs.cons (at_of_get (hold 20 _ (by kernel_rfl) rfl)) (RowIs.cons (at_of_get (hold 21 _ (by kernel_rfl) rfl)) (RowIs.cons (at_of_get (hold 22 _ (by kernel_rfl) rfl)) (RowIs.cons (at_of_get (hold 23 _ (by kernel_rfl) rfl)) (RowIs.cons (at_of_get (hold 24 _ (by kernel_rfl) rfl)) (RowIs.cons (at_of_get (hold 25 _ (by kernel_rfl) rfl)) (RowIs.cons (at_of_get (hold 26 _ (by kernel_rfl) rfl)) (RowIs.cons (at_of_get (hold 27 _ (by kernel_rfl) rfl)) (RowIs.cons (at_of_get (hold 28 _ (by kernel_rfl) rfl)) (RowIs.cons (at_of_get (hold 29 _ (by kernel_rfl) rfl)) (RowIs.cons (at_of_get (hold 30 _ (by kernel_rfl) rfl)) (RowIs.cons (at_of_get (hold 31 _ (by kernel_rfl) rfl)) (RowIs.cons (at_of_get (hold 32 _ (by kernel_rfl) rfl)) (RowIs.cons (at_of_get (hold 33 _ (by kernel_rfl) rfl)) (RowIs.cons (at_of_get (hold 34 _ (by kernel_rfl) rfl)) (RowIs.cons (at_of_get (hold 35 _ (by kernel_rfl) rfl)) (RowIs.cons (at_of_get (hold 36 _ (by kernel_rfl) rfl)) (RowIs.cons (at_of_get (hold 37 _ (by kernel_rfl) rfl)) (RowIs.cons (at_of_get (hold 38 _ (by kernel_rfl) rfl)) (RowIs.cons (at_of_get (hold 39 _ (by kernel_rfl) rfl)) (RowIs.cons (at_of_get (hold 40 _ (by kernel_rfl) rfl)) (RowIs.cons (hvals 0 41 rfl) (RowIs.cons (hvals 1 42 rfl) (RowIs.cons (hvals 2 43 rfl) (RowIs.cons (hvals 3 44 rfl) (RowIs.cons hv45 (RowIs.cons (hvals 5 46 rfl) (RowIs.cons (hvals 6 47 rfl) (RowIs.cons (hvals 7 48 rfl) (RowIs.cons (hvals 8 49 rfl) (RowIs.cons (hvals 9 50 rfl) (RowIs.cons (hvals 10 51 rfl) (RowIs.cons (hvals 11 52 rfl) (RowIs.cons (hvals 12 53 rfl) (RowIs.cons (hvals 13 54 rfl) (RowIs.cons (hvals 14 55 rfl) (RowIs.cons (hvals 15 56 rfl) (RowIs.cons (hvals 16 57 rfl) (RowIs.cons (hvals 17 58 rfl) (RowIs.cons (hvals 18 59 rfl) (RowIs.cons (hvals 19 60 rfl) (RowIs.cons (hvals 20 61 rfl) (RowIs.cons (hvals 21 62 rfl) (RowIs.cons (hvals 22 63 rfl) (RowIs.cons (hvals 23 64 rfl) (RowIs.cons (hvals 24 65 rfl) (RowIs.cons (hvals 25 66 rfl) (RowIs.cons (hvals 26 67 rfl) (RowIs.cons (hvals 27 68 rfl) (RowIs.cons (hvals 28 69 rfl) (RowIs.cons (hvals 29 70 rfl) (RowIs.cons (hvals 30 71 rfl) (RowIs.cons (hvals 31 72 rfl) (RowIs.cons (hvals 32 73 rfl) (RowIs.cons (hvals 33 74 rfl) (RowIs.cons (hvals 34 75 rfl) (RowIs.cons (hvals 35 76 rfl) (RowIs.cons (hvals 36 77 rfl) (RowIs.cons (hvals 37 78 rfl) (RowIs.cons (hvals 38 79 rfl) (RowIs.cons (hvals 39 80 rfl) (RowIs.cons (hvals 40 81 rfl) (RowIs.cons (hvals 41 82 rfl) (RowIs.nil _ _)))))))))))))))))))))))))))))))))))))))))))))))))))))))))))))))))))))))))))))))))))) rfl
    clear hsz hdf hold hvals
    subst ha
    go_wp2_with fail
    go_ret
    exact ⟨rfl, u4.trans_nil hS⟩

end Go.Proofs.YtpkllbnaoiggkaaDoor
