/- The document's SHA-256: eight words tied with a block's. -/
import Derived.Test.YtclfmgkomkmbjaaDoorRfB
namespace Go.Proofs.YtclfmgkomkmbjaaDoor
open Go.RowKit

theorem rturn' (x c : Int) (h0 : 0 ≤ x) (h1 : x < 4294967296) (hc : 1 ≤ c) (hc2 : c ≤ 31) (w : World) :
    Calls Tryd.prog 47 #[.int .u32 x, .int .i64 c] w fun e w' => e = .returned (.int .u32 (rotr x c.toNat)) ∧ Upd [] w w' :=
  rturn x c.toNat c (by omega) h0 h1 (by omega) (by omega) w

def tieW (K f s : Nat → Int) : Nat → Int := fun j => (s j + rounds K f s 64 j) % 4294967296

set_option maxRecDepth 100000 in
set_option maxHeartbeats 8000000 in
theorem rtie (K f s : Nat → Int) (w : World) (hKb : ∀ j, 0 ≤ K j ∧ K j < 4294967296) (hfb : ∀ j, 0 ≤ f j ∧ f j < 4294967296) (hsb : ∀ j, 0 ≤ s j ∧ s j < 4294967296) :
    Calls Tryd.prog 34 #[.agg (wrow 8 s).toArray, .agg (wrow 64 f).toArray, .agg (wrow 64 K).toArray] w fun e w' => e = .returned (.agg (wrow 8 (tieW K f s)).toArray) ∧ Upd [] w w' := by
  have hz : ∀ w : World, (zeroValue 63).run Tryd.prog w = .ok (.agg (wrow 8 fun _ => 0).toArray) w := fun w => by kernel_rfl
  go_enter Tryd.func34, Tryd.ntmps34
  go_upto_region 1 with fail
  have hB0 := Blk.new w (wrow 8 s).toArray 63
  have u0 := (Upd.refl [] w).alloc (.cells (wrow 8 s).toArray 63)
  have z0 : (w.alloc (.cells (wrow 8 s).toArray 63)).heap.size = w.heap.size + 1 := by simp
  generalize w.alloc (.cells (wrow 8 s).toArray 63) = W0 at *
  have hB1 := Blk.new W0 (wrow 64 f).toArray 64
  have hB0 := hB0.alloc (.cells (wrow 64 f).toArray 64)
  have u1 := u0.alloc (.cells (wrow 64 f).toArray 64)
  have z1 : (W0.alloc (.cells (wrow 64 f).toArray 64)).heap.size = w.heap.size + 1 + 1 := by simp [z0]
  generalize W0.alloc (.cells (wrow 64 f).toArray 64) = W1 at *
  have hB2 := Blk.new W1 (wrow 64 K).toArray 64
  have hB1 := hB1.alloc (.cells (wrow 64 K).toArray 64)
  have hB0 := hB0.alloc (.cells (wrow 64 K).toArray 64)
  have u2 := u1.alloc (.cells (wrow 64 K).toArray 64)
  have z2 : (W1.alloc (.cells (wrow 64 K).toArray 64)).heap.size = w.heap.size + 1 + 1 + 1 := by simp [z1]
  generalize W1.alloc (.cells (wrow 64 K).toArray 64) = W2 at *
  have hB3 := Blk.new W2 (wrow 8 fun _ => 0).toArray 63
  have hB2 := hB2.alloc (.cells (wrow 8 fun _ => 0).toArray 63)
  have hB1 := hB1.alloc (.cells (wrow 8 fun _ => 0).toArray 63)
  have hB0 := hB0.alloc (.cells (wrow 8 fun _ => 0).toArray 63)
  have u3 := u2.alloc (.cells (wrow 8 fun _ => 0).toArray 63)
  generalize W2.alloc (.cells (wrow 8 fun _ => 0).toArray 63) = W3 at *
  rw [z0] at hB1
  rw [z1] at hB2
  rw [z2] at hB3
  clear u0 u1 u2 z0 z1 z2 hz
  simp only [List.toList_toArray] at hB0 hB1 hB2 hB3
  obtain ⟨S, hS0⟩ : ∃ S, w.heap.size = S := ⟨_, rfl⟩
  rw [hS0] at hB0 hB1 hB2 hB3 ⊢
  have HS := Lib.hid hS0
  clear hS0
  obtain ⟨FB, hFB⟩ : ∃ FB, S + 1 = FB := ⟨_, rfl⟩
  obtain ⟨KB, hKB⟩ : ∃ KB, S + 1 + 1 = KB := ⟨_, rfl⟩
  obtain ⟨RB, hRB⟩ : ∃ RB, S + 1 + 1 + 1 = RB := ⟨_, rfl⟩
  rw [hRB, hKB, hFB]
  rw [hRB] at hB3
  rw [hKB] at hB2
  rw [hFB] at hB1
  have HRB : Hid (S + 1 + 1 + 1 = RB) := Lib.hid hRB
  clear hRB hKB hFB
  have c0 := hB0.cell 0 (wrow_get s (by omega))
  have c1 := hB0.cell 1 (wrow_get s (by omega))
  have c2 := hB0.cell 2 (wrow_get s (by omega))
  have c3 := hB0.cell 3 (wrow_get s (by omega))
  have c4 := hB0.cell 4 (wrow_get s (by omega))
  have c5 := hB0.cell 5 (wrow_get s (by omega))
  have c6 := hB0.cell 6 (wrow_get s (by omega))
  have c7 := hB0.cell 7 (wrow_get s (by omega))
  have hSl := hB0.lt
  refine wp_region_spec [(.eq (.pointer (some ⟨S, 0, none⟩))), (.eq (.int .u32 (s 0))), (.eq (.pointer (some ⟨S, 1, none⟩))), (.eq (.int .u32 (s 1))), (.eq (.pointer (some ⟨S, 2, none⟩))), (.eq (.int .u32 (s 2))), (.eq (.pointer (some ⟨S, 3, none⟩))), (.eq (.int .u32 (s 3))), (.eq (.pointer (some ⟨S, 4, none⟩))), (.eq (.int .u32 (s 4))), (.eq (.pointer (some ⟨S, 5, none⟩))), (.eq (.int .u32 (s 5))), (.eq (.pointer (some ⟨S, 6, none⟩))), (.eq (.int .u32 (s 6))), (.eq (.pointer (some ⟨S, 7, none⟩))), (.eq (.int .u32 (s 7))), (.eq (.int .u32 (s 0))), (.eq (.int .u32 (s 1))), (.eq (.int .u32 (s 2))), (.eq (.int .u32 (s 3))), (.eq (.int .u32 (s 4))), (.eq (.int .u32 (s 5))), (.eq (.int .u32 (s 6))), (.eq (.int .u32 (s 7)))] (by kernel_rfl) (by kernel_rfl) rfl ?step ?fin
  case step =>
    intro i o ho a w' hS hold hneed K' hK
    match i, ho with
    | 0, ho =>
      obtain rfl := Option.some.inj ho
      have d3 := hold 3 _ (by kernel_rfl) rfl
      clear hold hneed ho
      (go_simp; exact hK _ _ rfl (Upd.refl [] _))
    | 1, ho =>
      obtain rfl := Option.some.inj ho
      have d18 := get_of_at (hneed 0 (of_decide_eq_true (by kernel_rfl)) 18 rfl) (by simp [undef])
      clear hold hneed ho
      (have p0 := (hS.cell (a := ⟨S, 0, none⟩) hSl (by simp)).trans c0; go_simp; exact hK _ _ rfl (Upd.refl [] _))
    | 2, ho =>
      obtain rfl := Option.some.inj ho
      have d3 := hold 3 _ (by kernel_rfl) rfl
      clear hold hneed ho
      (go_simp; exact hK _ _ rfl (Upd.refl [] _))
    | 3, ho =>
      obtain rfl := Option.some.inj ho
      have d20 := get_of_at (hneed 2 (of_decide_eq_true (by kernel_rfl)) 20 rfl) (by simp [undef])
      clear hold hneed ho
      (have p0 := (hS.cell (a := ⟨S, 1, none⟩) hSl (by simp)).trans c1; go_simp; exact hK _ _ rfl (Upd.refl [] _))
    | 4, ho =>
      obtain rfl := Option.some.inj ho
      have d3 := hold 3 _ (by kernel_rfl) rfl
      clear hold hneed ho
      (go_simp; exact hK _ _ rfl (Upd.refl [] _))
    | 5, ho =>
      obtain rfl := Option.some.inj ho
      have d22 := get_of_at (hneed 4 (of_decide_eq_true (by kernel_rfl)) 22 rfl) (by simp [undef])
      clear hold hneed ho
      (have p0 := (hS.cell (a := ⟨S, 2, none⟩) hSl (by simp)).trans c2; go_simp; exact hK _ _ rfl (Upd.refl [] _))
    | 6, ho =>
      obtain rfl := Option.some.inj ho
      have d3 := hold 3 _ (by kernel_rfl) rfl
      clear hold hneed ho
      (go_simp; exact hK _ _ rfl (Upd.refl [] _))
    | 7, ho =>
      obtain rfl := Option.some.inj ho
      have d24 := get_of_at (hneed 6 (of_decide_eq_true (by kernel_rfl)) 24 rfl) (by simp [undef])
      clear hold hneed ho
      (have p0 := (hS.cell (a := ⟨S, 3, none⟩) hSl (by simp)).trans c3; go_simp; exact hK _ _ rfl (Upd.refl [] _))
    | 8, ho =>
      obtain rfl := Option.some.inj ho
      have d3 := hold 3 _ (by kernel_rfl) rfl
      clear hold hneed ho
      (go_simp; exact hK _ _ rfl (Upd.refl [] _))
    | 9, ho =>
      obtain rfl := Option.some.inj ho
      have d26 := get_of_at (hneed 8 (of_decide_eq_true (by kernel_rfl)) 26 rfl) (by simp [undef])
      clear hold hneed ho
      (have p0 := (hS.cell (a := ⟨S, 4, none⟩) hSl (by simp)).trans c4; go_simp; exact hK _ _ rfl (Upd.refl [] _))
    | 10, ho =>
      obtain rfl := Option.some.inj ho
      have d3 := hold 3 _ (by kernel_rfl) rfl
      clear hold hneed ho
      (go_simp; exact hK _ _ rfl (Upd.refl [] _))
    | 11, ho =>
      obtain rfl := Option.some.inj ho
      have d28 := get_of_at (hneed 10 (of_decide_eq_true (by kernel_rfl)) 28 rfl) (by simp [undef])
      clear hold hneed ho
      (have p0 := (hS.cell (a := ⟨S, 5, none⟩) hSl (by simp)).trans c5; go_simp; exact hK _ _ rfl (Upd.refl [] _))
    | 12, ho =>
      obtain rfl := Option.some.inj ho
      have d3 := hold 3 _ (by kernel_rfl) rfl
      clear hold hneed ho
      (go_simp; exact hK _ _ rfl (Upd.refl [] _))
    | 13, ho =>
      obtain rfl := Option.some.inj ho
      have d30 := get_of_at (hneed 12 (of_decide_eq_true (by kernel_rfl)) 30 rfl) (by simp [undef])
      clear hold hneed ho
      (have p0 := (hS.cell (a := ⟨S, 6, none⟩) hSl (by simp)).trans c6; go_simp; exact hK _ _ rfl (Upd.refl [] _))
    | 14, ho =>
      obtain rfl := Option.some.inj ho
      have d3 := hold 3 _ (by kernel_rfl) rfl
      clear hold hneed ho
      (go_simp; exact hK _ _ rfl (Upd.refl [] _))
    | 15, ho =>
      obtain rfl := Option.some.inj ho
      have d32 := get_of_at (hneed 14 (of_decide_eq_true (by kernel_rfl)) 32 rfl) (by simp [undef])
      clear hold hneed ho
      (have p0 := (hS.cell (a := ⟨S, 7, none⟩) hSl (by simp)).trans c7; go_simp; exact hK _ _ rfl (Upd.refl [] _))
    | 16, ho =>
      obtain rfl := Option.some.inj ho
      have d19 := get_of_at (hneed 1 (of_decide_eq_true (by kernel_rfl)) 19 rfl) (by simp [undef])
      clear hold hneed ho
      (go_simp; exact hK _ _ rfl (Upd.refl [] _))
    | 17, ho =>
      obtain rfl := Option.some.inj ho
      have d21 := get_of_at (hneed 3 (of_decide_eq_true (by kernel_rfl)) 21 rfl) (by simp [undef])
      clear hold hneed ho
      (go_simp; exact hK _ _ rfl (Upd.refl [] _))
    | 18, ho =>
      obtain rfl := Option.some.inj ho
      have d23 := get_of_at (hneed 5 (of_decide_eq_true (by kernel_rfl)) 23 rfl) (by simp [undef])
      clear hold hneed ho
      (go_simp; exact hK _ _ rfl (Upd.refl [] _))
    | 19, ho =>
      obtain rfl := Option.some.inj ho
      have d25 := get_of_at (hneed 7 (of_decide_eq_true (by kernel_rfl)) 25 rfl) (by simp [undef])
      clear hold hneed ho
      (go_simp; exact hK _ _ rfl (Upd.refl [] _))
    | 20, ho =>
      obtain rfl := Option.some.inj ho
      have d27 := get_of_at (hneed 9 (of_decide_eq_true (by kernel_rfl)) 27 rfl) (by simp [undef])
      clear hold hneed ho
      (go_simp; exact hK _ _ rfl (Upd.refl [] _))
    | 21, ho =>
      obtain rfl := Option.some.inj ho
      have d29 := get_of_at (hneed 11 (of_decide_eq_true (by kernel_rfl)) 29 rfl) (by simp [undef])
      clear hold hneed ho
      (go_simp; exact hK _ _ rfl (Upd.refl [] _))
    | 22, ho =>
      obtain rfl := Option.some.inj ho
      have d31 := get_of_at (hneed 13 (of_decide_eq_true (by kernel_rfl)) 31 rfl) (by simp [undef])
      clear hold hneed ho
      (go_simp; exact hK _ _ rfl (Upd.refl [] _))
    | 23, ho =>
      obtain rfl := Option.some.inj ho
      have d33 := get_of_at (hneed 15 (of_decide_eq_true (by kernel_rfl)) 33 rfl) (by simp [undef])
      clear hold hneed ho
      (go_simp; exact hK _ _ rfl (Upd.refl [] _))
    | _ + 24, ho => exact absurd ho (by simp)
  case fin =>
    intro a w' hS hsz hdf hold hvals
    have ha := act_lit hsz hdf (RowIs.cons (at_of_get (hold 0 _ (by kernel_rfl) rfl)) (RowIs.cons (at_of_get (hold 1 _ (by kernel_rfl) rfl)) (RowIs.cons (at_of_get (hold 2 _ (by kernel_rfl) rfl)) (RowIs.cons (at_of_get (hold 3 _ (by kernel_rfl) rfl)) (RowIs.cons (at_of_get (hold 4 _ (by kernel_rfl) rfl)) (RowIs.cons (at_of_get (hold 5 _ (by kernel_rfl) rfl)) (RowIs.cons (at_of_get (hold 6 _ (by kernel_rfl) rfl)) (RowIs.cons (hvals 16 7 rfl) (RowIs.cons (hvals 17 8 rfl) (RowIs.cons (hvals 18 9 rfl) (RowIs.cons (hvals 19 10 rfl) (RowIs.cons (hvals 20 11 rfl) (RowIs.cons (hvals 21 12 rfl) (RowIs.cons (hvals 22 13 rfl) (RowIs.cons (hvals 23 14 rfl) (RowIs.cons (at_of_get (hold 15 _ (by kernel_rfl) rfl)) (RowIs.cons (at_of_get (hold 16 _ (by kernel_rfl) rfl)) (RowIs.cons (at_of_get (hold 17 _ (by kernel_rfl) rfl)) (RowIs.cons (hvals 0 18 rfl) (RowIs.cons (hvals 1 19 rfl) (RowIs.cons (hvals 2 20 rfl) (RowIs.cons (hvals 3 21 rfl) (RowIs.cons (hvals 4 22 rfl) (RowIs.cons (hvals 5 23 rfl) (RowIs.cons (hvals 6 24 rfl) (RowIs.cons (hvals 7 25 rfl) (RowIs.cons (hvals 8 26 rfl) (RowIs.cons (hvals 9 27 rfl) (RowIs.cons (hvals 10 28 rfl) (RowIs.cons (hvals 11 29 rfl) (RowIs.cons (hvals 12 30 rfl) (RowIs.cons (hvals 13 31 rfl) (RowIs.cons (hvals 14 32 rfl) (RowIs.cons (hvals 15 33 rfl) (RowIs.cons (at_of_get (hold 34 _ (by kernel_rfl) rfl)) (RowIs.cons (at_of_get (hold 35 _ (by kernel_rfl) rfl)) (RowIs.cons (at_of_get (hold 36 _ (by kernel_rfl) rfl)) (RowIs.cons (at_of_get (hold 37 _ (by kernel_rfl) rfl)) (RowIs.cons (at_of_get (hold 38 _ (by kernel_rfl) rfl)) (RowIs.cons (at_of_get (hold 39 _ (by kernel_rfl) rfl)) (RowIs.cons (at_of_get (hold 40 _ (by kernel_rfl) rfl)) (RowIs.cons (at_of_get (hold 41 _ (by kernel_rfl) rfl)) (RowIs.cons (at_of_get (hold 42 _ (by kernel_rfl) rfl)) (RowIs.cons (at_of_get (hold 43 _ (by kernel_rfl) rfl)) (RowIs.cons (at_of_get (hold 44 _ (by kernel_rfl) rfl)) (RowIs.cons (at_of_get (hold 45 _ (by kernel_rfl) rfl)) (RowIs.cons (at_of_get (hold 46 _ (by kernel_rfl) rfl)) (RowIs.cons (at_of_get (hold 47 _ (by kernel_rfl) rfl)) (RowIs.cons (at_of_get (hold 48 _ (by kernel_rfl) rfl)) (RowIs.cons (at_of_get (hold 49 _ (by kernel_rfl) rfl)) (RowIs.cons (at_of_get (hold 50 _ (by kernel_rfl) rfl)) (RowIs.cons (at_of_get (hold 51 _ (by kernel_rfl) rfl)) (RowIs.cons (at_of_get (hold 52 _ (by kernel_rfl) rfl)) (RowIs.cons (at_of_get (hold 53 _ (by kernel_rfl) rfl)) (RowIs.cons (at_of_get (hold 54 _ (by kernel_rfl) rfl)) (RowIs.cons (at_of_get (hold 55 _ (by kernel_rfl) rfl)) (RowIs.cons (at_of_get (hold 56 _ (by kernel_rfl) rfl)) (RowIs.cons (at_of_get (hold 57 _ (by kernel_rfl) rfl)) (RowIs.cons (at_of_get (hold 58 _ (by kernel_rfl) rfl)) (RowIs.cons (at_of_get (hold 59 _ (by kernel_rfl) rfl)) (RowIs.cons (at_of_get (hold 60 _ (by kernel_rfl) rfl)) (RowIs.cons (at_of_get (hold 61 _ (by kernel_rfl) rfl)) (RowIs.cons (at_of_get (hold 62 _ (by kernel_rfl) rfl)) (RowIs.cons (at_of_get (hold 63 _ (by kernel_rfl) rfl)) (RowIs.cons (at_of_get (hold 64 _ (by kernel_rfl) rfl)) (RowIs.cons (at_of_get (hold 65 _ (by kernel_rfl) rfl)) (RowIs.cons (at_of_get (hold 66 _ (by kernel_rfl) rfl)) (RowIs.cons (at_of_get (hold 67 _ (by kernel_rfl) rfl)) (RowIs.cons (at_of_get (hold 68 _ (by kernel_rfl) rfl)) (RowIs.cons (at_of_get (hold 69 _ (by kernel_rfl) rfl)) (RowIs.cons (at_of_get (hold 70 _ (by kernel_rfl) rfl)) (RowIs.cons (at_of_get (hold 71 _ (by kernel_rfl) rfl)) (RowIs.cons (at_of_get (hold 72 _ (by kernel_rfl) rfl)) (RowIs.cons (at_of_get (hold 73 _ (by kernel_rfl) rfl)) (RowIs.cons (at_of_get (hold 74 _ (by kernel_rfl) rfl)) (RowIs.cons (at_of_get (hold 75 _ (by kernel_rfl) rfl)) (RowIs.cons (at_of_get (hold 76 _ (by kernel_rfl) rfl)) (RowIs.cons (at_of_get (hold 77 _ (by kernel_rfl) rfl)) (RowIs.cons (at_of_get (hold 78 _ (by kernel_rfl) rfl)) (RowIs.cons (at_of_get (hold 79 _ (by kernel_rfl) rfl)) (RowIs.cons (at_of_get (hold 80 _ (by kernel_rfl) rfl)) (RowIs.cons (at_of_get (hold 81 _ (by kernel_rfl) rfl)) (RowIs.cons (at_of_get (hold 82 _ (by kernel_rfl) rfl)) (RowIs.cons (at_of_get (hold 83 _ (by kernel_rfl) rfl)) (RowIs.cons (at_of_get (hold 84 _ (by kernel_rfl) rfl)) (RowIs.cons (at_of_get (hold 85 _ (by kernel_rfl) rfl)) (RowIs.cons (at_of_get (hold 86 _ (by kernel_rfl) rfl)) (RowIs.cons (at_of_get (hold 87 _ (by kernel_rfl) rfl)) (RowIs.cons (at_of_get (hold 88 _ (by kernel_rfl) rfl)) (RowIs.cons (at_of_get (hold 89 _ (by kernel_rfl) rfl)) (RowIs.cons (at_of_get (hold 90 _ (by kernel_rfl) rfl)) (RowIs.cons (at_of_get (hold 91 _ (by kernel_rfl) rfl)) (RowIs.cons (at_of_get (hold 92 _ (by kernel_rfl) rfl)) (RowIs.cons (at_of_get (hold 93 _ (by kernel_rfl) rfl)) (RowIs.cons (at_of_get (hold 94 _ (by kernel_rfl) rfl)) (RowIs.cons (at_of_get (hold 95 _ (by kernel_rfl) rfl)) (RowIs.cons (at_of_get (hold 96 _ (by kernel_rfl) rfl)) (RowIs.cons (at_of_get (hold 97 _ (by kernel_rfl) rfl)) (RowIs.cons (at_of_get (hold 98 _ (by kernel_rfl) rfl)) (RowIs.cons (at_of_get (hold 99 _ (by kernel_rfl) rfl)) (RowIs.cons (at_of_get (hold 100 _ (by kernel_rfl) rfl)) (RowIs.cons (at_of_get (hold 101 _ (by kernel_rfl) rfl)) (RowIs.cons (at_of_get (hold 102 _ (by kernel_rfl) rfl)) (RowIs.cons (at_of_get (hold 103 _ (by kernel_rfl) rfl)) (RowIs.cons (at_of_get (hold 104 _ (by kernel_rfl) rfl)) (RowIs.cons (at_of_get (hold 105 _ (by kernel_rfl) rfl)) (RowIs.cons (at_of_get (hold 106 _ (by kernel_rfl) rfl)) (RowIs.cons (at_of_get (hold 107 _ (by kernel_rfl) rfl)) (RowIs.cons (at_of_get (hold 108 _ (by kernel_rfl) rfl)) (RowIs.cons (at_of_get (hold 109 _ (by kernel_rfl) rfl)) (RowIs.cons (at_of_get (hold 110 _ (by kernel_rfl) rfl)) (RowIs.cons (at_of_get (hold 111 _ (by kernel_rfl) rfl)) (RowIs.cons (at_of_get (hold 112 _ (by kernel_rfl) rfl)) (RowIs.cons (at_of_get (hold 113 _ (by kernel_rfl) rfl)) (RowIs.cons (at_of_get (hold 114 _ (by kernel_rfl) rfl)) (RowIs.cons (at_of_get (hold 115 _ (by kernel_rfl) rfl)) (RowIs.cons (at_of_get (hold 116 _ (by kernel_rfl) rfl)) (RowIs.cons (at_of_get (hold 117 _ (by kernel_rfl) rfl)) (RowIs.cons (at_of_get (hold 118 _ (by kernel_rfl) rfl)) (RowIs.cons (at_of_get (hold 119 _ (by kernel_rfl) rfl)) (RowIs.cons (at_of_get (hold 120 _ (by kernel_rfl) rfl)) (RowIs.cons (at_of_get (hold 121 _ (by kernel_rfl) rfl)) (RowIs.cons (at_of_get (hold 122 _ (by kernel_rfl) rfl)) (RowIs.cons (at_of_get (hold 123 _ (by kernel_rfl) rfl)) (RowIs.cons (at_of_get (hold 124 _ (by kernel_rfl) rfl)) (RowIs.cons (at_of_get (hold 125 _ (by kernel_rfl) rfl)) (RowIs.cons (at_of_get (hold 126 _ (by kernel_rfl) rfl)) (RowIs.cons (at_of_get (hold 127 _ (by kernel_rfl) rfl)) (RowIs.cons (at_of_get (hold 128 _ (by kernel_rfl) rfl)) (RowIs.cons (at_of_get (hold 129 _ (by kernel_rfl) rfl)) (RowIs.nil _ _))))))))))))))))))))))))))))))))))))))))))))))))))))))))))))))))))))))))))))))))))))))))))))))))))))))))))))))))))))))))))))))))))) rfl
    clear hsz hdf hold hvals
    subst ha
    try simp only [List.getElem_toArray, List.getElem_cons_succ, List.getElem_cons_zero]
    have hu := u3.trans_nil hS
    have hB0 := hB0.upd_nil hS
    have hB1 := hB1.upd_nil hS
    have hB2 := hB2.upd_nil hS
    have hB3 := hB3.upd_nil hS
    clear hS u3 c0 c1 c2 c3 c4 c5 c6 c7 hSl
    obtain ⟨wq, rfl⟩ : ∃ wq, wq = w' := ⟨_, rfl⟩
    go_wp2_with fail
    go_loopw [7, 8, 9, 10, 11, 12, 13, 14, 15] (fun a0 a1 a2 a3 a4 a5 a6 a7 iv wr => ∃ (ni : Nat) (v : Nat → Int), ni ≤ 64 ∧ a0 = .int .u32 (v 0) ∧ a1 = .int .u32 (v 1) ∧ a2 = .int .u32 (v 2) ∧ a3 = .int .u32 (v 3) ∧ a4 = .int .u32 (v 4) ∧ a5 = .int .u32 (v 5) ∧ a6 = .int .u32 (v 6) ∧ a7 = .int .u32 (v 7) ∧ iv = .int .i64 ni ∧ Hid (v = rounds K f s ni) ∧ (∀ j, 0 ≤ v j ∧ v j < 4294967296) ∧
        Upd [] w wr ∧ Blk wr S (wrow 8 s) 63 ∧ Blk wr FB (wrow 64 f) 64 ∧ Blk wr KB (wrow 64 K) 64 ∧ Blk wr RB (wrow 8 fun _ => 0) 63) (fun _ _ _ _ _ _ _ _ iv _ => 64 - (intOf iv).toNat)
    case atStart => exact ⟨0, s, by omega, rfl, rfl, rfl, rfl, rfl, rfl, rfl, rfl, rfl, Lib.hid rfl, hsb, hu, hB0, hB1, hB2, hB3⟩
    case round =>
      clear hu hB0 hB1 hB2 hB3
      obtain ⟨ni, v, hi, rfl, rfl, rfl, rfl, rfl, rfl, rfl, rfl, rfl, Hv, hvb, hu, hB0, hB1, hB2, hB3⟩ := hrel
      obtain ⟨wo, rfl⟩ : ∃ wo, wo = wr := ⟨_, rfl⟩
      by_cases h64 : ni < 64
      · have g1 : (0 : Int) ≤ ni := by omega
        have g2 : (ni : Int) < 64 := by omega
        have b4 := hvb 4
        have b0 := hvb 0
        have cK := hB2.cell ni (wrow_get _ h64)
        have cF := hB1.cell ni (wrow_get _ h64)
        have hKl := hB2.lt
        have hFl := hB1.lt
        obtain ⟨tA, hA⟩ : ∃ tA, (v 7 + bits BinOp.xor IntKind.u32 (bits BinOp.xor IntKind.u32 (rotr (v 4) 6) (rotr (v 4) 11)) (rotr (v 4) 25)) % 4294967296 = tA := ⟨_, rfl⟩
        obtain ⟨tB, hB⟩ : ∃ tB, (tA + bits BinOp.or IntKind.u32 (bits BinOp.and IntKind.u32 (v 4) (v 5)) (bits BinOp.and IntKind.u32 (bits BinOp.xor IntKind.u32 4294967295 (v 4)) (v 6))) % 4294967296 = tB := ⟨_, rfl⟩
        obtain ⟨tC, hC⟩ : ∃ tC, (tB + K ni) % 4294967296 = tC := ⟨_, rfl⟩
        obtain ⟨tv, htv⟩ : ∃ tv, (tC + f ni) % 4294967296 = tv := ⟨_, rfl⟩
        have hts : tv = sumT K f v ni := by
          rw [← htv, ← hC, ← hB, ← hA, ch_or]
          unfold sumT
          omega
        have Htv := Lib.hid htv
        have HtA := Lib.hid hA
        have HtB := Lib.hid hB
        have HtC := Lib.hid hC
        have Hts := Lib.hid hts
        have tb : 0 ≤ tv ∧ tv < 4294967296 := by rw [hts]; exact sumT_bd K f v ni
        clear htv hts hA hB hC
        go_upto_region 5 with fail
        refine wp_region_spec [(.eq (.int .u32 (v 7))), (.eq (.int .u32 (v 4))), (.eq (.int .u32 (rotr (v 4) 6))), (.eq (.int .u32 (v 4))), (.eq (.int .u32 (rotr (v 4) 11))), (.eq (.int .u32 (bits BinOp.xor IntKind.u32 (rotr (v 4) 6) (rotr (v 4) 11)))), (.eq (.int .u32 (v 4))), (.eq (.int .u32 (rotr (v 4) 25))), (.eq (.int .u32 (bits BinOp.xor IntKind.u32 (bits BinOp.xor IntKind.u32 (rotr (v 4) 6) (rotr (v 4) 11)) (rotr (v 4) 25)))), (.eq (.int .u32 tA)), (.eq (.int .u32 (v 4))), (.eq (.int .u32 (v 5))), (.eq (.int .u32 (bits BinOp.and IntKind.u32 (v 4) (v 5)))), (.eq (.int .u32 (v 4))), (.eq (.int .u32 (bits BinOp.xor IntKind.u32 4294967295 (v 4)))), (.eq (.int .u32 (v 6))), (.eq (.int .u32 (bits BinOp.and IntKind.u32 (bits BinOp.xor IntKind.u32 4294967295 (v 4)) (v 6)))), (.eq (.int .u32 (bits BinOp.or IntKind.u32 (bits BinOp.and IntKind.u32 (v 4) (v 5)) (bits BinOp.and IntKind.u32 (bits BinOp.xor IntKind.u32 4294967295 (v 4)) (v 6))))), (.eq (.int .u32 tB)), (.eq (.int .i64 (ni : Int))), (.eq (.pointer (some ⟨KB, ni, none⟩))), (.eq (.int .u32 (K ni))), (.eq (.int .u32 tC)), (.eq (.int .i64 (ni : Int))), (.eq (.pointer (some ⟨FB, ni, none⟩))), (.eq (.int .u32 (f ni))), (.eq (.int .u32 tv)), (.eq (.int .u32 tv))] (by kernel_rfl) (by kernel_rfl) rfl ?step ?fin
        case step =>
          intro i o ho a w' hS hold hneed K' hK
          match i, ho with
          | 0, ho =>
            obtain rfl := Option.some.inj ho
            have d14 := hold 14 _ (by kernel_rfl) rfl
            clear hold hneed ho
            (go_simp; (try rw [IntKind.wrap_u32']); exact hK _ _ rfl (Upd.refl [] _))
          | 1, ho =>
            obtain rfl := Option.some.inj ho
            have d11 := hold 11 _ (by kernel_rfl) rfl
            clear hold hneed ho
            (go_simp; (try rw [IntKind.wrap_u32']); exact hK _ _ rfl (Upd.refl [] _))
          | 2, ho =>
            obtain rfl := Option.some.inj ho
            have d39 := get_of_at (hneed 1 (of_decide_eq_true (by kernel_rfl)) 39 rfl) (by simp [undef])
            clear hold hneed ho
            (go_simp; refine (rturn (v 4) 6 6 rfl b4.1 b4.2 (by decide) (by decide) _).mono ?_; rintro e w3 ⟨rfl, hu3⟩; exact hK _ _ rfl hu3)
          | 3, ho =>
            obtain rfl := Option.some.inj ho
            have d11 := hold 11 _ (by kernel_rfl) rfl
            clear hold hneed ho
            (go_simp; (try rw [IntKind.wrap_u32']); exact hK _ _ rfl (Upd.refl [] _))
          | 4, ho =>
            obtain rfl := Option.some.inj ho
            have d41 := get_of_at (hneed 3 (of_decide_eq_true (by kernel_rfl)) 41 rfl) (by simp [undef])
            clear hold hneed ho
            (go_simp; refine (rturn (v 4) 11 11 rfl b4.1 b4.2 (by decide) (by decide) _).mono ?_; rintro e w3 ⟨rfl, hu3⟩; exact hK _ _ rfl hu3)
          | 5, ho =>
            obtain rfl := Option.some.inj ho
            have d40 := get_of_at (hneed 2 (of_decide_eq_true (by kernel_rfl)) 40 rfl) (by simp [undef])
            have d42 := get_of_at (hneed 4 (of_decide_eq_true (by kernel_rfl)) 42 rfl) (by simp [undef])
            clear hold hneed ho
            (go_simp; (try rw [IntKind.wrap_u32']); exact hK _ _ rfl (Upd.refl [] _))
          | 6, ho =>
            obtain rfl := Option.some.inj ho
            have d11 := hold 11 _ (by kernel_rfl) rfl
            clear hold hneed ho
            (go_simp; (try rw [IntKind.wrap_u32']); exact hK _ _ rfl (Upd.refl [] _))
          | 7, ho =>
            obtain rfl := Option.some.inj ho
            have d44 := get_of_at (hneed 6 (of_decide_eq_true (by kernel_rfl)) 44 rfl) (by simp [undef])
            clear hold hneed ho
            (go_simp; refine (rturn (v 4) 25 25 rfl b4.1 b4.2 (by decide) (by decide) _).mono ?_; rintro e w3 ⟨rfl, hu3⟩; exact hK _ _ rfl hu3)
          | 8, ho =>
            obtain rfl := Option.some.inj ho
            have d43 := get_of_at (hneed 5 (of_decide_eq_true (by kernel_rfl)) 43 rfl) (by simp [undef])
            have d45 := get_of_at (hneed 7 (of_decide_eq_true (by kernel_rfl)) 45 rfl) (by simp [undef])
            clear hold hneed ho
            (go_simp; (try rw [IntKind.wrap_u32']); exact hK _ _ rfl (Upd.refl [] _))
          | 9, ho =>
            obtain rfl := Option.some.inj ho
            have d38 := get_of_at (hneed 0 (of_decide_eq_true (by kernel_rfl)) 38 rfl) (by simp [undef])
            have d46 := get_of_at (hneed 8 (of_decide_eq_true (by kernel_rfl)) 46 rfl) (by simp [undef])
            clear hold hneed ho
            (go_simp; rw [IntKind.wrap_u32', HtA.out]; exact hK _ _ rfl (Upd.refl [] _))
          | 10, ho =>
            obtain rfl := Option.some.inj ho
            have d11 := hold 11 _ (by kernel_rfl) rfl
            clear hold hneed ho
            (go_simp; (try rw [IntKind.wrap_u32']); exact hK _ _ rfl (Upd.refl [] _))
          | 11, ho =>
            obtain rfl := Option.some.inj ho
            have d12 := hold 12 _ (by kernel_rfl) rfl
            clear hold hneed ho
            (go_simp; (try rw [IntKind.wrap_u32']); exact hK _ _ rfl (Upd.refl [] _))
          | 12, ho =>
            obtain rfl := Option.some.inj ho
            have d48 := get_of_at (hneed 10 (of_decide_eq_true (by kernel_rfl)) 48 rfl) (by simp [undef])
            have d49 := get_of_at (hneed 11 (of_decide_eq_true (by kernel_rfl)) 49 rfl) (by simp [undef])
            clear hold hneed ho
            (go_simp; (try rw [IntKind.wrap_u32']); exact hK _ _ rfl (Upd.refl [] _))
          | 13, ho =>
            obtain rfl := Option.some.inj ho
            have d11 := hold 11 _ (by kernel_rfl) rfl
            clear hold hneed ho
            (go_simp; (try rw [IntKind.wrap_u32']); exact hK _ _ rfl (Upd.refl [] _))
          | 14, ho =>
            obtain rfl := Option.some.inj ho
            have d51 := get_of_at (hneed 13 (of_decide_eq_true (by kernel_rfl)) 51 rfl) (by simp [undef])
            clear hold hneed ho
            (go_simp; (try rw [IntKind.wrap_u32']); exact hK _ _ rfl (Upd.refl [] _))
          | 15, ho =>
            obtain rfl := Option.some.inj ho
            have d13 := hold 13 _ (by kernel_rfl) rfl
            clear hold hneed ho
            (go_simp; (try rw [IntKind.wrap_u32']); exact hK _ _ rfl (Upd.refl [] _))
          | 16, ho =>
            obtain rfl := Option.some.inj ho
            have d52 := get_of_at (hneed 14 (of_decide_eq_true (by kernel_rfl)) 52 rfl) (by simp [undef])
            have d53 := get_of_at (hneed 15 (of_decide_eq_true (by kernel_rfl)) 53 rfl) (by simp [undef])
            clear hold hneed ho
            (go_simp; (try rw [IntKind.wrap_u32']); exact hK _ _ rfl (Upd.refl [] _))
          | 17, ho =>
            obtain rfl := Option.some.inj ho
            have d50 := get_of_at (hneed 12 (of_decide_eq_true (by kernel_rfl)) 50 rfl) (by simp [undef])
            have d54 := get_of_at (hneed 16 (of_decide_eq_true (by kernel_rfl)) 54 rfl) (by simp [undef])
            clear hold hneed ho
            (go_simp; (try rw [IntKind.wrap_u32']); exact hK _ _ rfl (Upd.refl [] _))
          | 18, ho =>
            obtain rfl := Option.some.inj ho
            have d47 := get_of_at (hneed 9 (of_decide_eq_true (by kernel_rfl)) 47 rfl) (by simp [undef])
            have d55 := get_of_at (hneed 17 (of_decide_eq_true (by kernel_rfl)) 55 rfl) (by simp [undef])
            clear hold hneed ho
            (go_simp; rw [IntKind.wrap_u32', HtB.out]; exact hK _ _ rfl (Upd.refl [] _))
          | 19, ho =>
            obtain rfl := Option.some.inj ho
            have d15 := hold 15 _ (by kernel_rfl) rfl
            clear hold hneed ho
            (go_simp; (try rw [IntKind.wrap_u32']); exact hK _ _ rfl (Upd.refl [] _))
          | 20, ho =>
            obtain rfl := Option.some.inj ho
            have d5 := hold 5 _ (by kernel_rfl) rfl
            have d57 := get_of_at (hneed 19 (of_decide_eq_true (by kernel_rfl)) 57 rfl) (by simp [undef])
            clear hold hneed ho
            (go_simp; (try rw [IntKind.wrap_u32']); exact hK _ _ rfl (Upd.refl [] _))
          | 21, ho =>
            obtain rfl := Option.some.inj ho
            have d58 := get_of_at (hneed 20 (of_decide_eq_true (by kernel_rfl)) 58 rfl) (by simp [undef])
            clear hold hneed ho
            (have p0 := (hS.cell (a := ⟨KB, ni, none⟩) hKl (by simp)).trans cK; go_simp; exact hK _ _ rfl (Upd.refl [] _))
          | 22, ho =>
            obtain rfl := Option.some.inj ho
            have d56 := get_of_at (hneed 18 (of_decide_eq_true (by kernel_rfl)) 56 rfl) (by simp [undef])
            have d59 := get_of_at (hneed 21 (of_decide_eq_true (by kernel_rfl)) 59 rfl) (by simp [undef])
            clear hold hneed ho
            (go_simp; rw [IntKind.wrap_u32', HtC.out]; exact hK _ _ rfl (Upd.refl [] _))
          | 23, ho =>
            obtain rfl := Option.some.inj ho
            have d15 := hold 15 _ (by kernel_rfl) rfl
            clear hold hneed ho
            (go_simp; (try rw [IntKind.wrap_u32']); exact hK _ _ rfl (Upd.refl [] _))
          | 24, ho =>
            obtain rfl := Option.some.inj ho
            have d4 := hold 4 _ (by kernel_rfl) rfl
            have d61 := get_of_at (hneed 23 (of_decide_eq_true (by kernel_rfl)) 61 rfl) (by simp [undef])
            clear hold hneed ho
            (go_simp; (try rw [IntKind.wrap_u32']); exact hK _ _ rfl (Upd.refl [] _))
          | 25, ho =>
            obtain rfl := Option.some.inj ho
            have d62 := get_of_at (hneed 24 (of_decide_eq_true (by kernel_rfl)) 62 rfl) (by simp [undef])
            clear hold hneed ho
            (have p0 := (hS.cell (a := ⟨FB, ni, none⟩) hFl (by simp)).trans cF; go_simp; exact hK _ _ rfl (Upd.refl [] _))
          | 26, ho =>
            obtain rfl := Option.some.inj ho
            have d60 := get_of_at (hneed 22 (of_decide_eq_true (by kernel_rfl)) 60 rfl) (by simp [undef])
            have d63 := get_of_at (hneed 25 (of_decide_eq_true (by kernel_rfl)) 63 rfl) (by simp [undef])
            clear hold hneed ho
            (go_simp; rw [IntKind.wrap_u32', Htv.out]; exact hK _ _ rfl (Upd.refl [] _))
          | 27, ho =>
            obtain rfl := Option.some.inj ho
            have d64 := get_of_at (hneed 26 (of_decide_eq_true (by kernel_rfl)) 64 rfl) (by simp [undef])
            clear hold hneed ho
            (go_simp; (try rw [IntKind.wrap_u32']); exact hK _ _ rfl (Upd.refl [] _))
          | _ + 28, ho => exact absurd ho (by simp)
        case fin =>
          intro a w' hS hsz hdf hold hvals
          have ha := act_lit hsz hdf (RowIs.cons (at_of_get (hold 0 _ (by kernel_rfl) rfl)) (RowIs.cons (at_of_get (hold 1 _ (by kernel_rfl) rfl)) (RowIs.cons (at_of_get (hold 2 _ (by kernel_rfl) rfl)) (RowIs.cons (at_of_get (hold 3 _ (by kernel_rfl) rfl)) (RowIs.cons (at_of_get (hold 4 _ (by kernel_rfl) rfl)) (RowIs.cons (at_of_get (hold 5 _ (by kernel_rfl) rfl)) (RowIs.cons (at_of_get (hold 6 _ (by kernel_rfl) rfl)) (RowIs.cons (at_of_get (hold 7 _ (by kernel_rfl) rfl)) (RowIs.cons (at_of_get (hold 8 _ (by kernel_rfl) rfl)) (RowIs.cons (at_of_get (hold 9 _ (by kernel_rfl) rfl)) (RowIs.cons (at_of_get (hold 10 _ (by kernel_rfl) rfl)) (RowIs.cons (at_of_get (hold 11 _ (by kernel_rfl) rfl)) (RowIs.cons (at_of_get (hold 12 _ (by kernel_rfl) rfl)) (RowIs.cons (at_of_get (hold 13 _ (by kernel_rfl) rfl)) (RowIs.cons (at_of_get (hold 14 _ (by kernel_rfl) rfl)) (RowIs.cons (at_of_get (hold 15 _ (by kernel_rfl) rfl)) (RowIs.cons (hvals 27 16 rfl) (RowIs.cons (at_of_get (hold 17 _ (by kernel_rfl) rfl)) (RowIs.cons (at_of_get (hold 18 _ (by kernel_rfl) rfl)) (RowIs.cons (at_of_get (hold 19 _ (by kernel_rfl) rfl)) (RowIs.cons (at_of_get (hold 20 _ (by kernel_rfl) rfl)) (RowIs.cons (at_of_get (hold 21 _ (by kernel_rfl) rfl)) (RowIs.cons (at_of_get (hold 22 _ (by kernel_rfl) rfl)) (RowIs.cons (at_of_get (hold 23 _ (by kernel_rfl) rfl)) (RowIs.cons (at_of_get (hold 24 _ (by kernel_rfl) rfl)) (RowIs.cons (at_of_get (hold 25 _ (by kernel_rfl) rfl)) (RowIs.cons (at_of_get (hold 26 _ (by kernel_rfl) rfl)) (RowIs.cons (at_of_get (hold 27 _ (by kernel_rfl) rfl)) (RowIs.cons (at_of_get (hold 28 _ (by kernel_rfl) rfl)) (RowIs.cons (at_of_get (hold 29 _ (by kernel_rfl) rfl)) (RowIs.cons (at_of_get (hold 30 _ (by kernel_rfl) rfl)) (RowIs.cons (at_of_get (hold 31 _ (by kernel_rfl) rfl)) (RowIs.cons (at_of_get (hold 32 _ (by kernel_rfl) rfl)) (RowIs.cons (at_of_get (hold 33 _ (by kernel_rfl) rfl)) (RowIs.cons (at_of_get (hold 34 _ (by kernel_rfl) rfl)) (RowIs.cons (at_of_get (hold 35 _ (by kernel_rfl) rfl)) (RowIs.cons (at_of_get (hold 36 _ (by kernel_rfl) rfl)) (RowIs.cons (at_of_get (hold 37 _ (by kernel_rfl) rfl)) (RowIs.cons (hvals 0 38 rfl) (RowIs.cons (hvals 1 39 rfl) (RowIs.cons (hvals 2 40 rfl) (RowIs.cons (hvals 3 41 rfl) (RowIs.cons (hvals 4 42 rfl) (RowIs.cons (hvals 5 43 rfl) (RowIs.cons (hvals 6 44 rfl) (RowIs.cons (hvals 7 45 rfl) (RowIs.cons (hvals 8 46 rfl) (RowIs.cons (hvals 9 47 rfl) (RowIs.cons (hvals 10 48 rfl) (RowIs.cons (hvals 11 49 rfl) (RowIs.cons (hvals 12 50 rfl) (RowIs.cons (hvals 13 51 rfl) (RowIs.cons (hvals 14 52 rfl) (RowIs.cons (hvals 15 53 rfl) (RowIs.cons (hvals 16 54 rfl) (RowIs.cons (hvals 17 55 rfl) (RowIs.cons (hvals 18 56 rfl) (RowIs.cons (hvals 19 57 rfl) (RowIs.cons (hvals 20 58 rfl) (RowIs.cons (hvals 21 59 rfl) (RowIs.cons (hvals 22 60 rfl) (RowIs.cons (hvals 23 61 rfl) (RowIs.cons (hvals 24 62 rfl) (RowIs.cons (hvals 25 63 rfl) (RowIs.cons (hvals 26 64 rfl) (RowIs.cons (at_of_get (hold 65 _ (by kernel_rfl) rfl)) (RowIs.cons (at_of_get (hold 66 _ (by kernel_rfl) rfl)) (RowIs.cons (at_of_get (hold 67 _ (by kernel_rfl) rfl)) (RowIs.cons (at_of_get (hold 68 _ (by kernel_rfl) rfl)) (RowIs.cons (at_of_get (hold 69 _ (by kernel_rfl) rfl)) (RowIs.cons (at_of_get (hold 70 _ (by kernel_rfl) rfl)) (RowIs.cons (at_of_get (hold 71 _ (by kernel_rfl) rfl)) (RowIs.cons (at_of_get (hold 72 _ (by kernel_rfl) rfl)) (RowIs.cons (at_of_get (hold 73 _ (by kernel_rfl) rfl)) (RowIs.cons (at_of_get (hold 74 _ (by kernel_rfl) rfl)) (RowIs.cons (at_of_get (hold 75 _ (by kernel_rfl) rfl)) (RowIs.cons (at_of_get (hold 76 _ (by kernel_rfl) rfl)) (RowIs.cons (at_of_get (hold 77 _ (by kernel_rfl) rfl)) (RowIs.cons (at_of_get (hold 78 _ (by kernel_rfl) rfl)) (RowIs.cons (at_of_get (hold 79 _ (by kernel_rfl) rfl)) (RowIs.cons (at_of_get (hold 80 _ (by kernel_rfl) rfl)) (RowIs.cons (at_of_get (hold 81 _ (by kernel_rfl) rfl)) (RowIs.cons (at_of_get (hold 82 _ (by kernel_rfl) rfl)) (RowIs.cons (at_of_get (hold 83 _ (by kernel_rfl) rfl)) (RowIs.cons (at_of_get (hold 84 _ (by kernel_rfl) rfl)) (RowIs.cons (at_of_get (hold 85 _ (by kernel_rfl) rfl)) (RowIs.cons (at_of_get (hold 86 _ (by kernel_rfl) rfl)) (RowIs.cons (at_of_get (hold 87 _ (by kernel_rfl) rfl)) (RowIs.cons (at_of_get (hold 88 _ (by kernel_rfl) rfl)) (RowIs.cons (at_of_get (hold 89 _ (by kernel_rfl) rfl)) (RowIs.cons (at_of_get (hold 90 _ (by kernel_rfl) rfl)) (RowIs.cons (at_of_get (hold 91 _ (by kernel_rfl) rfl)) (RowIs.cons (at_of_get (hold 92 _ (by kernel_rfl) rfl)) (RowIs.cons (at_of_get (hold 93 _ (by kernel_rfl) rfl)) (RowIs.cons (at_of_get (hold 94 _ (by kernel_rfl) rfl)) (RowIs.cons (at_of_get (hold 95 _ (by kernel_rfl) rfl)) (RowIs.cons (at_of_get (hold 96 _ (by kernel_rfl) rfl)) (RowIs.cons (at_of_get (hold 97 _ (by kernel_rfl) rfl)) (RowIs.cons (at_of_get (hold 98 _ (by kernel_rfl) rfl)) (RowIs.cons (at_of_get (hold 99 _ (by kernel_rfl) rfl)) (RowIs.cons (at_of_get (hold 100 _ (by kernel_rfl) rfl)) (RowIs.cons (at_of_get (hold 101 _ (by kernel_rfl) rfl)) (RowIs.cons (at_of_get (hold 102 _ (by kernel_rfl) rfl)) (RowIs.cons (at_of_get (hold 103 _ (by kernel_rfl) rfl)) (RowIs.cons (at_of_get (hold 104 _ (by kernel_rfl) rfl)) (RowIs.cons (at_of_get (hold 105 _ (by kernel_rfl) rfl)) (RowIs.cons (at_of_get (hold 106 _ (by kernel_rfl) rfl)) (RowIs.cons (at_of_get (hold 107 _ (by kernel_rfl) rfl)) (RowIs.cons (at_of_get (hold 108 _ (by kernel_rfl) rfl)) (RowIs.cons (at_of_get (hold 109 _ (by kernel_rfl) rfl)) (RowIs.cons (at_of_get (hold 110 _ (by kernel_rfl) rfl)) (RowIs.cons (at_of_get (hold 111 _ (by kernel_rfl) rfl)) (RowIs.cons (at_of_get (hold 112 _ (by kernel_rfl) rfl)) (RowIs.cons (at_of_get (hold 113 _ (by kernel_rfl) rfl)) (RowIs.cons (at_of_get (hold 114 _ (by kernel_rfl) rfl)) (RowIs.cons (at_of_get (hold 115 _ (by kernel_rfl) rfl)) (RowIs.cons (at_of_get (hold 116 _ (by kernel_rfl) rfl)) (RowIs.cons (at_of_get (hold 117 _ (by kernel_rfl) rfl)) (RowIs.cons (at_of_get (hold 118 _ (by kernel_rfl) rfl)) (RowIs.cons (at_of_get (hold 119 _ (by kernel_rfl) rfl)) (RowIs.cons (at_of_get (hold 120 _ (by kernel_rfl) rfl)) (RowIs.cons (at_of_get (hold 121 _ (by kernel_rfl) rfl)) (RowIs.cons (at_of_get (hold 122 _ (by kernel_rfl) rfl)) (RowIs.cons (at_of_get (hold 123 _ (by kernel_rfl) rfl)) (RowIs.cons (at_of_get (hold 124 _ (by kernel_rfl) rfl)) (RowIs.cons (at_of_get (hold 125 _ (by kernel_rfl) rfl)) (RowIs.cons (at_of_get (hold 126 _ (by kernel_rfl) rfl)) (RowIs.cons (at_of_get (hold 127 _ (by kernel_rfl) rfl)) (RowIs.cons (at_of_get (hold 128 _ (by kernel_rfl) rfl)) (RowIs.cons (at_of_get (hold 129 _ (by kernel_rfl) rfl)) (RowIs.nil _ _))))))))))))))))))))))))))))))))))))))))))))))))))))))))))))))))))))))))))))))))))))))))))))))))))))))))))))))))))))))))))))))))))) rfl
          clear hsz hdf hold hvals
          subst ha
          try simp only [List.getElem_toArray, List.getElem_cons_succ, List.getElem_cons_zero]
          have hu2 := hu.trans_nil hS
          have hB0 := hB0.upd_nil hS
          have hB1 := hB1.upd_nil hS
          have hB2 := hB2.upd_nil hS
          have hB3 := hB3.upd_nil hS
          clear hS hu cK cF hKl hFl
          obtain ⟨wq, rfl⟩ : ∃ wq, wq = w' := ⟨_, rfl⟩
          go_upto_region 7 with (first
            | (go_at_call 47; refine (rturn' _ _ b0.1 b0.2 (by decide) (by decide) _).mono ?_; simp only [Int.reduceToNat]; rintro e w5 ⟨rfl, x5⟩; have y5 := (y4.trans_nil x5))
            | (go_at_call 47; refine (rturn' _ _ b0.1 b0.2 (by decide) (by decide) _).mono ?_; simp only [Int.reduceToNat]; rintro e w4 ⟨rfl, x4⟩; have y4 := (x3.trans_nil x4))
            | (go_at_call 47; refine (rturn' _ _ b0.1 b0.2 (by decide) (by decide) _).mono ?_; simp only [Int.reduceToNat]; rintro e w3 ⟨rfl, x3⟩))
          have y6 := hu2.trans_nil y5
          have hB0 := hB0.upd_nil y5
          have hB1 := hB1.upd_nil y5
          have hB2 := hB2.upd_nil y5
          have hB3 := hB3.upd_nil y5
          clear y5 x5 y4 x4 x3 hu2
          obtain ⟨uv, huv⟩ : ∃ uv, (bits BinOp.xor IntKind.u32 (bits BinOp.xor IntKind.u32 (rotr (v 0) 2) (rotr (v 0) 13)) (rotr (v 0) 22) + bits BinOp.or IntKind.u32 (bits BinOp.or IntKind.u32 (bits BinOp.and IntKind.u32 (v 0) (v 1)) (bits BinOp.and IntKind.u32 (v 0) (v 2))) (bits BinOp.and IntKind.u32 (v 1) (v 2))) % 4294967296 = uv := ⟨_, rfl⟩
          have hus : uv = sumU v := by
            rw [← huv, maj_or]
            unfold sumU
            omega
          have ub : 0 ≤ uv ∧ uv < 4294967296 := by rw [hus]; exact sumU_bd v
          have Hus := Lib.hid hus
          rw [huv]
          clear huv hus
          have b3 := hvb 3
          obtain ⟨wz, rfl⟩ : ∃ wz, wz = w5 := ⟨_, rfl⟩
          go_wp2_with fail
          exact ⟨⟨ni + 1, rnd tv uv v, by omega, rfl, rfl, rfl, rfl, rfl, rfl, rfl, rfl, by go_num, Lib.hid (by rw [Hts.out, Hus.out]; have := Hv.out; subst this; rfl), rnd_bd tv uv v hvb, y6, hB0, hB1, hB2, hB3⟩, by simp [intOf]; omega⟩
      · obtain rfl : ni = 64 := by omega
        have hT : ∀ j, (s j + v j) % 4294967296 = tieW K f s j := fun j => by unfold tieW; rw [← Hv.out]
        have HR : Hid ((wrow 8 (tieW K f s)).toArray = #[.int .u32 (tieW K f s 0), .int .u32 (tieW K f s 1), .int .u32 (tieW K f s 2), .int .u32 (tieW K f s 3), .int .u32 (tieW K f s 4), .int .u32 (tieW K f s 5), .int .u32 (tieW K f s 6), .int .u32 (tieW K f s 7)]) := Lib.hid rfl
        generalize hTT : tieW K f s = T at hT HR
        have HTT := Lib.hid hTT
        clear hTT
        have e0 := hT 0
        have e1 := hT 1
        have e2 := hT 2
        have e3 := hT 3
        have e4 := hT 4
        have e5 := hT 5
        have e6 := hT 6
        have e7 := hT 7
        have c0 := hB0.cell 0 (wrow_get s (by omega))
        have c1 := hB0.cell 1 (wrow_get s (by omega))
        have c2 := hB0.cell 2 (wrow_get s (by omega))
        have c3 := hB0.cell 3 (wrow_get s (by omega))
        have c4 := hB0.cell 4 (wrow_get s (by omega))
        have c5 := hB0.cell 5 (wrow_get s (by omega))
        have c6 := hB0.cell 6 (wrow_get s (by omega))
        have c7 := hB0.cell 7 (wrow_get s (by omega))
        have z0 := hB3.cell 0 rfl
        have z1 := hB3.cell 1 rfl
        have z2 := hB3.cell 2 rfl
        have z3 := hB3.cell 3 rfl
        have z4 := hB3.cell 4 rfl
        have z5 := hB3.cell 5 rfl
        have z6 := hB3.cell 6 rfl
        have z7 := hB3.cell 7 rfl
        have f0 := hB3.free 0
        have f1 := hB3.free 1
        have f2 := hB3.free 2
        have f3 := hB3.free 3
        have f4 := hB3.free 4
        have f5 := hB3.free 5
        have f6 := hB3.free 6
        have f7 := hB3.free 7
        have hRBl : w.heap.size ≤ RB := by have := HRB.out; have := HS.out; omega
        clear hT Hv hvb hB0 hB1 hB2
        go_wp2_with fail
        have hF := ((((((((hB3.set 0 (.int .u32 (T 0))).set 1 (.int .u32 (T 1))).set 2 (.int .u32 (T 2))).set 3 (.int .u32 (T 3))).set 4 (.int .u32 (T 4))).set 5 (.int .u32 (T 5))).set 6 (.int .u32 (T 6))).set 7 (.int .u32 (T 7)))
        have hU := ((((((((hu.setCell (p := ⟨RB, 0, none⟩) (Or.inr hRBl) (.int .u32 (T 0))).setCell (p := ⟨RB, 1, none⟩) (Or.inr hRBl) (.int .u32 (T 1))).setCell (p := ⟨RB, 2, none⟩) (Or.inr hRBl) (.int .u32 (T 2))).setCell (p := ⟨RB, 3, none⟩) (Or.inr hRBl) (.int .u32 (T 3))).setCell (p := ⟨RB, 4, none⟩) (Or.inr hRBl) (.int .u32 (T 4))).setCell (p := ⟨RB, 5, none⟩) (Or.inr hRBl) (.int .u32 (T 5))).setCell (p := ⟨RB, 6, none⟩) (Or.inr hRBl) (.int .u32 (T 6))).setCell (p := ⟨RB, 7, none⟩) (Or.inr hRBl) (.int .u32 (T 7)))
        rw [eight_set] at hF
        clear c0 c1 c2 c3 c4 c5 c6 c7 e0 e1 e2 e3 e4 e5 e6 e7 z0 z1 z2 z3 z4 z5 z6 z7 f0 f1 f2 f3 f4 f5 f6 f7 hB3 hu
        generalize (((((((wo.setCell ⟨RB, 0, none⟩ (.int .u32 (T 0))).setCell ⟨RB, 1, none⟩ (.int .u32 (T 1))).setCell ⟨RB, 2, none⟩ (.int .u32 (T 2))).setCell ⟨RB, 3, none⟩ (.int .u32 (T 3))).setCell ⟨RB, 4, none⟩ (.int .u32 (T 4))).setCell ⟨RB, 5, none⟩ (.int .u32 (T 5))).setCell ⟨RB, 6, none⟩ (.int .u32 (T 6))).setCell ⟨RB, 7, none⟩ (.int .u32 (T 7)) = wz at hF hU ⊢
        have hi' : (Tryd.prog.info? 63).map (·.size) = some (wrow 8 T).toArray.size := by kernel_rfl
        exact bodyPost_ret (v := .agg (wrow 8 T).toArray) (results_cell_row rfl _ _ RB _ _ _ _ rfl hF Tryd.underlying63 rfl hi') rfl ⟨by rw [HTT.out], hU⟩

end Go.Proofs.YtclfmgkomkmbjaaDoor
