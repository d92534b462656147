/- MaskKnown: the walk (written by mkkn.py). -/
import Derived.Test.YtppbaahaegmgeaaMkKa
namespace Go.Proofs.Ytppbaahaegmgeaa
open Go.RowKit

set_option maxRecDepth 100000 in
set_option maxHeartbeats 40000000 in
theorem mknown_walk (w : World) : Calls Try.prog 9 #[] w fun e w' => e = .returned (.bool true) ∧ Upd [] w w' := by
  have hzK := zeroK
  have hz16 := zero16
  go_enter Try.func9, Try.ntmps9
  have hR := Blk.new w (row32 fun _ => 0).toArray 23
  go_upto_region 2 with (refine wpList_store_rowTo rfl _ _ _ rfl rfl _ (row32 G9).toArray rfl rfl _ (row32 fun _ => 0).toArray hR (infoK _) (size32 _ _) (one32 _) ?_)
  have u1 := ((Upd.refl [] w).alloc (.cells (row32 fun _ => 0).toArray 23)).setRow (b := w.heap.size) (Or.inr (Nat.le_refl _)) (row32 G9).toArray
  have hK1 := hR.setRow (row32 G9).toArray
  have hz1 : ((w.alloc (.cells (row32 fun _ => 0).toArray 23)).setRow w.heap.size (row32 G9).toArray).heap.size = w.heap.size + 1 := by simp
  clear hR
  generalize (w.alloc (.cells (row32 fun _ => 0).toArray 23)).setRow w.heap.size (row32 G9).toArray = W1 at *
  generalize hb1 : w.heap.size = b1 at *
  go_upto_region 3 with fail
  have uN := (Upd.refl [] W1).alloc (.cells #[.int .i64 (-1), .int .i64 0, .int .i64 0, .int .i64 0, .int .i64 (-1), .int .i64 0, .int .i64 0, .int .i64 0, .int .i64 (-1), .int .i64 9007199254740992, .int .i64 0, .int .i64 0, .int .i64 0, .int .i64 0, .int .i64 9007199254740992] 25)
  have hN := Blk.new W1 #[.int .i64 (-1), .int .i64 0, .int .i64 0, .int .i64 0, .int .i64 (-1), .int .i64 0, .int .i64 0, .int .i64 0, .int .i64 (-1), .int .i64 9007199254740992, .int .i64 0, .int .i64 0, .int .i64 0, .int .i64 0, .int .i64 9007199254740992] 25
  have hK2 := hK1.upd_nil uN
  have u2 := u1.trans_nil uN
  rw [hz1] at hN
  simp only [List.toList_toArray] at hK2 hN
  clear hK1 hz1 u1 uN hb1
  generalize W1.alloc (.cells #[.int .i64 (-1), .int .i64 0, .int .i64 0, .int .i64 0, .int .i64 (-1), .int .i64 0, .int .i64 0, .int .i64 0, .int .i64 (-1), .int .i64 9007199254740992, .int .i64 0, .int .i64 0, .int .i64 0, .int .i64 0, .int .i64 9007199254740992] 25) = W2 at *
  generalize b1 + 1 = b2 at *
  have hKr : ∀ W, Upd [] W2 W → Blk W b1 (row32 G9) 23 := fun W u => hK2.upd_nil u
  have hNr : ∀ i, i < 5 → ∀ W, Upd [] W2 W → W.cell? ⟨b2, i * 3, none⟩ = some (.int .i64 (badN i 0)) ∧ W.cell? ⟨b2, i * 3 + 1, none⟩ = some (.int .i64 (badN i 1)) ∧ W.cell? ⟨b2, i * 3 + 2, none⟩ = some (.int .i64 (badN i 2)) :=
    fun i hi W u => badN_at (hN.upd_nil u) i hi
  clear hK2 hN
  go_wp2_with fail
  go_loopw [3] (fun iv wr => ∃ ni : Nat, ni ≤ 5 ∧ iv = .int .i64 (ni : Int) ∧ Upd [] W2 wr) (fun iv _ => 5 - (intOf iv).toNat)
  case atStart => exact ⟨0, by omega, rfl, Upd.refl [] _⟩
  case round =>
    obtain ⟨ni, hni, rfl, hu⟩ := hrel
    obtain ⟨wo, rfl⟩ : ∃ wo, wo = wr := ⟨_, rfl⟩
    rcases Nat.lt_or_ge ni 5 with hlt | hge
    · have hNi := fun (W : World) (u : Upd [] wo W) => hNr ni hlt W (hu.trans_nil u)
      have hKi := fun (W : World) (u : Upd [] wo W) => hKr W (hu.trans_nil u)
      have hno := badN_no ni hlt
      generalize badN ni 0 = x0 at *
      generalize badN ni 1 = x1 at *
      generalize badN ni 2 = x2 at *
      have hsn := fun W => seal_no W G9 x0 x1 x2 hno none 0 0
      have hon := fun W => open_no W G9 x0 x1 x2 hno none 0 0 (by omega)
      have i1 : (0 : Int) ≤ ni := by omega
      have i2 : (ni : Int) < 5 := by omega
      clear hKr hNr hno
      go_upto_region 6 with fail
      refine wp_region_spec [(.eq (.agg (row32 G9).toArray)), (.eq (.slice (some ⟨b2, 0, none⟩) 5 5)), (.eq (.int .i64 (ni : Int))), (.eq (.pointer (some ⟨b2, ni * 3, none⟩))), (.eq (.agg #[.int .i64 x0, .int .i64 x1, .int .i64 x2])), (.eq (.tuple #[.slice none 0 0, .int .i64 9])), (.eq (.tuple #[.slice none 0 0, .int .i64 9])), (.eq (.slice none 0 0)), (.eq (.int .i64 9)), (.eq (.slice none 0 0)), (.eq (.int .i64 9))] (by kernel_rfl) (by kernel_rfl) rfl ?step ?fin
      case step =>
        intro i o ho a w' hS hold hneed K' hK
        match i, ho with
        | 0, ho =>
          obtain rfl := Option.some.inj ho
          have d1 := hold 1 _ (by kernel_rfl) rfl
          clear hold hneed ho
          (rw [if_pos (by simp [Region.wanted, yielded, *])]; exact wp_load_row 23 (.tmp 1) rfl b1 (by simp [Act.eval, *]) 23 _ (0, 0) _ (hKi _ hS) Try.underlying23 rfl (infoK _) (hK _ _ rfl (Upd.refl [] _)))
        | 1, ho =>
          obtain rfl := Option.some.inj ho
          have d2 := hold 2 _ (by kernel_rfl) rfl
          clear hold hneed ho
          (go_simp; exact hK _ _ rfl (Upd.refl [] _))
        | 2, ho =>
          obtain rfl := Option.some.inj ho
          have d3 := hold 3 _ (by kernel_rfl) rfl
          clear hold hneed ho
          (go_simp; exact hK _ _ rfl (Upd.refl [] _))
        | 3, ho =>
          obtain rfl := Option.some.inj ho
          have d52 := get_of_at (hneed 1 (of_decide_eq_true (by kernel_rfl)) 52 rfl) (by simp [undef])
          have d53 := get_of_at (hneed 2 (of_decide_eq_true (by kernel_rfl)) 53 rfl) (by simp [undef])
          clear hold hneed ho
          (go_simp; exact hK _ _ rfl (Upd.refl [] _))
        | 4, ho =>
          obtain rfl := Option.some.inj ho
          have d54 := get_of_at (hneed 3 (of_decide_eq_true (by kernel_rfl)) 54 rfl) (by simp [undef])
          clear hold hneed ho
          (have q0 := (hNi _ hS).1; have q1 := (hNi _ hS).2.1; have q2 := (hNi _ hS).2.2; go_simp; exact hK _ _ rfl (Upd.refl [] _))
        | 5, ho =>
          obtain rfl := Option.some.inj ho
          have d51 := get_of_at (hneed 0 (of_decide_eq_true (by kernel_rfl)) 51 rfl) (by simp [undef])
          have d55 := get_of_at (hneed 4 (of_decide_eq_true (by kernel_rfl)) 55 rfl) (by simp [undef])
          clear hold hneed ho
          (go_simp; refine (hsn _).mono ?_; rintro e w3 ⟨rfl, hu3⟩; exact hK _ _ rfl hu3)
        | 6, ho =>
          obtain rfl := Option.some.inj ho
          have d56 := get_of_at (hneed 5 (of_decide_eq_true (by kernel_rfl)) 56 rfl) (by simp [undef])
          clear hold hneed ho
          (go_simp; exact hK _ _ rfl (Upd.refl [] _))
        | 7, ho =>
          obtain rfl := Option.some.inj ho
          have d50 := get_of_at (hneed 6 (of_decide_eq_true (by kernel_rfl)) 50 rfl) (by simp [undef])
          clear hold hneed ho
          (go_simp; exact hK _ _ rfl (Upd.refl [] _))
        | 8, ho =>
          obtain rfl := Option.some.inj ho
          have d50 := get_of_at (hneed 6 (of_decide_eq_true (by kernel_rfl)) 50 rfl) (by simp [undef])
          clear hold hneed ho
          (go_simp; exact hK _ _ rfl (Upd.refl [] _))
        | 9, ho =>
          obtain rfl := Option.some.inj ho
          have d57 := get_of_at (hneed 7 (of_decide_eq_true (by kernel_rfl)) 57 rfl) (by simp [undef])
          clear hold hneed ho
          (go_simp; exact hK _ _ rfl (Upd.refl [] _))
        | 10, ho =>
          obtain rfl := Option.some.inj ho
          have d58 := get_of_at (hneed 8 (of_decide_eq_true (by kernel_rfl)) 58 rfl) (by simp [undef])
          clear hold hneed ho
          (go_simp; exact hK _ _ rfl (Upd.refl [] _))
        | _ + 11, ho => exact absurd ho (by simp)
      case fin =>
        intro a w' hS hsz hdf hold hvals
        have ha := act_lit hsz hdf (RowIs.cons (at_of_get (hold 0 _ (by kernel_rfl) rfl)) (RowIs.cons (at_of_get (hold 1 _ (by kernel_rfl) rfl)) (RowIs.cons (at_of_get (hold 2 _ (by kernel_rfl) rfl)) (RowIs.cons (at_of_get (hold 3 _ (by kernel_rfl) rfl)) (RowIs.cons (hvals 9 4 rfl) (RowIs.cons (hvals 10 5 rfl) (RowIs.cons (at_of_get (hold 6 _ (by kernel_rfl) rfl)) (RowIs.cons (at_of_get (hold 7 _ (by kernel_rfl) rfl)) (RowIs.cons (at_of_get (hold 8 _ (by kernel_rfl) rfl)) (RowIs.cons (at_of_get (hold 9 _ (by kernel_rfl) rfl)) (RowIs.cons (at_of_get (hold 10 _ (by kernel_rfl) rfl)) (RowIs.cons (at_of_get (hold 11 _ (by kernel_rfl) rfl)) (RowIs.cons (at_of_get (hold 12 _ (by kernel_rfl) rfl)) (RowIs.cons (at_of_get (hold 13 _ (by kernel_rfl) rfl)) (RowIs.cons (at_of_get (hold 14 _ (by kernel_rfl) rfl)) (RowIs.cons (at_of_get (hold 15 _ (by kernel_rfl) rfl)) (RowIs.cons (at_of_get (hold 16 _ (by kernel_rfl) rfl)) (RowIs.cons (at_of_get (hold 17 _ (by kernel_rfl) rfl)) (RowIs.cons (at_of_get (hold 18 _ (by kernel_rfl) rfl)) (RowIs.cons (at_of_get (hold 19 _ (by kernel_rfl) rfl)) (RowIs.cons (at_of_get (hold 20 _ (by kernel_rfl) rfl)) (RowIs.cons (at_of_get (hold 21 _ (by kernel_rfl) rfl)) (RowIs.cons (at_of_get (hold 22 _ (by kernel_rfl) rfl)) (RowIs.cons (at_of_get (hold 23 _ (by kernel_rfl) rfl)) (RowIs.cons (at_of_get (hold 24 _ (by kernel_rfl) rfl)) (RowIs.cons (at_of_get (hold 25 _ (by kernel_rfl) rfl)) (RowIs.cons (at_of_get (hold 26 _ (by kernel_rfl) rfl)) (RowIs.cons (at_of_get (hold 27 _ (by kernel_rfl) rfl)) (RowIs.cons (at_of_get (hold 28 _ (by kernel_rfl) rfl)) (RowIs.cons (at_of_get (hold 29 _ (by kernel_rfl) rfl)) (RowIs.cons (at_of_get (hold 30 _ (by kernel_rfl) rfl)) (RowIs.cons (at_of_get (hold 31 _ (by kernel_rfl) rfl)) (RowIs.cons (at_of_get (hold 32 _ (by kernel_rfl) rfl)) (RowIs.cons (at_of_get (hold 33 _ (by kernel_rfl) rfl)) (RowIs.cons (at_of_get (hold 34 _ (by kernel_rfl) rfl)) (RowIs.cons (at_of_get (hold 35 _ (by kernel_rfl) rfl)) (RowIs.cons (at_of_get (hold 36 _ (by kernel_rfl) rfl)) (RowIs.cons (at_of_get (hold 37 _ (by kernel_rfl) rfl)) (RowIs.cons (at_of_get (hold 38 _ (by kernel_rfl) rfl)) (RowIs.cons (at_of_get (hold 39 _ (by kernel_rfl) rfl)) (RowIs.cons (at_of_get (hold 40 _ (by kernel_rfl) rfl)) (RowIs.cons (at_of_get (hold 41 _ (by kernel_rfl) rfl)) (RowIs.cons (at_of_get (hold 42 _ (by kernel_rfl) rfl)) (RowIs.cons (at_of_get (hold 43 _ (by kernel_rfl) rfl)) (RowIs.cons (at_of_get (hold 44 _ (by kernel_rfl) rfl)) (RowIs.cons (at_of_get (hold 45 _ (by kernel_rfl) rfl)) (RowIs.cons (at_of_get (hold 46 _ (by kernel_rfl) rfl)) (RowIs.cons (at_of_get (hold 47 _ (by kernel_rfl) rfl)) (RowIs.cons (at_of_get (hold 48 _ (by kernel_rfl) rfl)) (RowIs.cons (at_of_get (hold 49 _ (by kernel_rfl) rfl)) (RowIs.cons (hvals 6 50 rfl) (RowIs.cons (hvals 0 51 rfl) (RowIs.cons (hvals 1 52 rfl) (RowIs.cons (hvals 2 53 rfl) (RowIs.cons (hvals 3 54 rfl) (RowIs.cons (hvals 4 55 rfl) (RowIs.cons (hvals 5 56 rfl) (RowIs.cons (hvals 7 57 rfl) (RowIs.cons (hvals 8 58 rfl) (RowIs.cons (at_of_get (hold 59 _ (by kernel_rfl) rfl)) (RowIs.cons (at_of_get (hold 60 _ (by kernel_rfl) rfl)) (RowIs.cons (at_of_get (hold 61 _ (by kernel_rfl) rfl)) (RowIs.cons (at_of_get (hold 62 _ (by kernel_rfl) rfl)) (RowIs.cons (at_of_get (hold 63 _ (by kernel_rfl) rfl)) (RowIs.cons (at_of_get (hold 64 _ (by kernel_rfl) rfl)) (RowIs.cons (at_of_get (hold 65 _ (by kernel_rfl) rfl)) (RowIs.cons (at_of_get (hold 66 _ (by kernel_rfl) rfl)) (RowIs.cons (at_of_get (hold 67 _ (by kernel_rfl) rfl)) (RowIs.cons (at_of_get (hold 68 _ (by kernel_rfl) rfl)) (RowIs.cons (at_of_get (hold 69 _ (by kernel_rfl) rfl)) (RowIs.cons (at_of_get (hold 70 _ (by kernel_rfl) rfl)) (RowIs.cons (at_of_get (hold 71 _ (by kernel_rfl) rfl)) (RowIs.cons (at_of_get (hold 72 _ (by kernel_rfl) rfl)) (RowIs.cons (at_of_get (hold 73 _ (by kernel_rfl) rfl)) (RowIs.cons (at_of_get (hold 74 _ (by kernel_rfl) rfl)) (RowIs.cons (at_of_get (hold 75 _ (by kernel_rfl) rfl)) (RowIs.cons (at_of_get (hold 76 _ (by kernel_rfl) rfl)) (RowIs.cons (at_of_get (hold 77 _ (by kernel_rfl) rfl)) (RowIs.cons (at_of_get (hold 78 _ (by kernel_rfl) rfl)) (RowIs.cons (at_of_get (hold 79 _ (by kernel_rfl) rfl)) (RowIs.cons (at_of_get (hold 80 _ (by kernel_rfl) rfl)) (RowIs.cons (at_of_get (hold 81 _ (by kernel_rfl) rfl)) (RowIs.cons (at_of_get (hold 82 _ (by kernel_rfl) rfl)) (RowIs.cons (at_of_get (hold 83 _ (by kernel_rfl) rfl)) (RowIs.cons (at_of_get (hold 84 _ (by kernel_rfl) rfl)) (RowIs.cons (at_of_get (hold 85 _ (by kernel_rfl) rfl)) (RowIs.cons (at_of_get (hold 86 _ (by kernel_rfl) rfl)) (RowIs.cons (at_of_get (hold 87 _ (by kernel_rfl) rfl)) (RowIs.cons (at_of_get (hold 88 _ (by kernel_rfl) rfl)) (RowIs.cons (at_of_get (hold 89 _ (by kernel_rfl) rfl)) (RowIs.cons (at_of_get (hold 90 _ (by kernel_rfl) rfl)) (RowIs.cons (at_of_get (hold 91 _ (by kernel_rfl) rfl)) (RowIs.cons (at_of_get (hold 92 _ (by kernel_rfl) rfl)) (RowIs.cons (at_of_get (hold 93 _ (by kernel_rfl) rfl)) (RowIs.cons (at_of_get (hold 94 _ (by kernel_rfl) rfl)) (RowIs.cons (at_of_get (hold 95 _ (by kernel_rfl) rfl)) (RowIs.cons (at_of_get (hold 96 _ (by kernel_rfl) rfl)) (RowIs.cons (at_of_get (hold 97 _ (by kernel_rfl) rfl)) (RowIs.cons (at_of_get (hold 98 _ (by kernel_rfl) rfl)) (RowIs.cons (at_of_get (hold 99 _ (by kernel_rfl) rfl)) (RowIs.cons (at_of_get (hold 100 _ (by kernel_rfl) rfl)) (RowIs.cons (at_of_get (hold 101 _ (by kernel_rfl) rfl)) (RowIs.cons (at_of_get (hold 102 _ (by kernel_rfl) rfl)) (RowIs.cons (at_of_get (hold 103 _ (by kernel_rfl) rfl)) (RowIs.cons (at_of_get (hold 104 _ (by kernel_rfl) rfl)) (RowIs.cons (at_of_get (hold 105 _ (by kernel_rfl) rfl)) (RowIs.cons (at_of_get (hold 106 _ (by kernel_rfl) rfl)) (RowIs.cons (at_of_get (hold 107 _ (by kernel_rfl) rfl)) (RowIs.cons (at_of_get (hold 108 _ (by kernel_rfl) rfl)) (RowIs.cons (at_of_get (hold 109 _ (by kernel_rfl) rfl)) (RowIs.cons (at_of_get (hold 110 _ (by kernel_rfl) rfl)) (RowIs.cons (at_of_get (hold 111 _ (by kernel_rfl) rfl)) (RowIs.cons (at_of_get (hold 112 _ (by kernel_rfl) rfl)) (RowIs.cons (at_of_get (hold 113 _ (by kernel_rfl) rfl)) (RowIs.cons (at_of_get (hold 114 _ (by kernel_rfl) rfl)) (RowIs.cons (at_of_get (hold 115 _ (by kernel_rfl) rfl)) (RowIs.cons (at_of_get (hold 116 _ (by kernel_rfl) rfl)) (RowIs.cons (at_of_get (hold 117 _ (by kernel_rfl) rfl)) (RowIs.cons (at_of_get (hold 118 _ (by kernel_rfl) rfl)) (RowIs.cons (at_of_get (hold 119 _ (by kernel_rfl) rfl)) (RowIs.cons (at_of_get (hold 120 _ (by kernel_rfl) rfl)) (RowIs.cons (at_of_get (hold 121 _ (by kernel_rfl) rfl)) (RowIs.cons (at_of_get (hold 122 _ (by kernel_rfl) rfl)) (RowIs.cons (at_of_get (hold 123 _ (by kernel_rfl) rfl)) (RowIs.cons (at_of_get (hold 124 _ (by kernel_rfl) rfl)) (RowIs.cons (at_of_get (hold 125 _ (by kernel_rfl) rfl)) (RowIs.cons (at_of_get (hold 126 _ (by kernel_rfl) rfl)) (RowIs.cons (at_of_get (hold 127 _ (by kernel_rfl) rfl)) (RowIs.cons (at_of_get (hold 128 _ (by kernel_rfl) rfl)) (RowIs.cons (at_of_get (hold 129 _ (by kernel_rfl) rfl)) (RowIs.cons (at_of_get (hold 130 _ (by kernel_rfl) rfl)) (RowIs.cons (at_of_get (hold 131 _ (by kernel_rfl) rfl)) (RowIs.cons (at_of_get (hold 132 _ (by kernel_rfl) rfl)) (RowIs.cons (at_of_get (hold 133 _ (by kernel_rfl) rfl)) (RowIs.cons (at_of_get (hold 134 _ (by kernel_rfl) rfl)) (RowIs.cons (at_of_get (hold 135 _ (by kernel_rfl) rfl)) (RowIs.cons (at_of_get (hold 136 _ (by kernel_rfl) rfl)) (RowIs.cons (at_of_get (hold 137 _ (by kernel_rfl) rfl)) (RowIs.cons (at_of_get (hold 138 _ (by kernel_rfl) rfl)) (RowIs.cons (at_of_get (hold 139 _ (by kernel_rfl) rfl)) (RowIs.cons (at_of_get (hold 140 _ (by kernel_rfl) rfl)) (RowIs.cons (at_of_get (hold 141 _ (by kernel_rfl) rfl)) (RowIs.cons (at_of_get (hold 142 _ (by kernel_rfl) rfl)) (RowIs.cons (at_of_get (hold 143 _ (by kernel_rfl) rfl)) (RowIs.cons (at_of_get (hold 144 _ (by kernel_rfl) rfl)) (RowIs.cons (at_of_get (hold 145 _ (by kernel_rfl) rfl)) (RowIs.cons (at_of_get (hold 146 _ (by kernel_rfl) rfl)) (RowIs.cons (at_of_get (hold 147 _ (by kernel_rfl) rfl)) (RowIs.cons (at_of_get (hold 148 _ (by kernel_rfl) rfl)) (RowIs.cons (at_of_get (hold 149 _ (by kernel_rfl) rfl)) (RowIs.cons (at_of_get (hold 150 _ (by kernel_rfl) rfl)) (RowIs.cons (at_of_get (hold 151 _ (by kernel_rfl) rfl)) (RowIs.cons (at_of_get (hold 152 _ (by kernel_rfl) rfl)) (RowIs.cons (at_of_get (hold 153 _ (by kernel_rfl) rfl)) (RowIs.cons (at_of_get (hold 154 _ (by kernel_rfl) rfl)) (RowIs.cons (at_of_get (hold 155 _ (by kernel_rfl) rfl)) (RowIs.cons (at_of_get (hold 156 _ (by kernel_rfl) rfl)) (RowIs.cons (at_of_get (hold 157 _ (by kernel_rfl) rfl)) (RowIs.cons (at_of_get (hold 158 _ (by kernel_rfl) rfl)) (RowIs.cons (at_of_get (hold 159 _ (by kernel_rfl) rfl)) (RowIs.cons (at_of_get (hold 160 _ (by kernel_rfl) rfl)) (RowIs.cons (at_of_get (hold 161 _ (by kernel_rfl) rfl)) (RowIs.cons (at_of_get (hold 162 _ (by kernel_rfl) rfl)) (RowIs.cons (at_of_get (hold 163 _ (by kernel_rfl) rfl)) (RowIs.cons (at_of_get (hold 164 _ (by kernel_rfl) rfl)) (RowIs.cons (at_of_get (hold 165 _ (by kernel_rfl) rfl)) (RowIs.cons (at_of_get (hold 166 _ (by kernel_rfl) rfl)) (RowIs.cons (at_of_get (hold 167 _ (by kernel_rfl) rfl)) (RowIs.cons (at_of_get (hold 168 _ (by kernel_rfl) rfl)) (RowIs.cons (at_of_get (hold 169 _ (by kernel_rfl) rfl)) (RowIs.cons (at_of_get (hold 170 _ (by kernel_rfl) rfl)) (RowIs.cons (at_of_get (hold 171 _ (by kernel_rfl) rfl)) (RowIs.cons (at_of_get (hold 172 _ (by kernel_rfl) rfl)) (RowIs.cons (at_of_get (hold 173 _ (by kernel_rfl) rfl)) (RowIs.cons (at_of_get (hold 174 _ (by kernel_rfl) rfl)) (RowIs.cons (at_of_get (hold 175 _ (by kernel_rfl) rfl)) (RowIs.cons (at_of_get (hold 176 _ (by kernel_rfl) rfl)) (RowIs.cons (at_of_get (hold 177 _ (by kernel_rfl) rfl)) (RowIs.cons (at_of_get (hold 178 _ (by kernel_rfl) rfl)) (RowIs.cons (at_of_get (hold 179 _ (by kernel_rfl) rfl)) (RowIs.cons (at_of_get (hold 180 _ (by kernel_rfl) rfl)) (RowIs.cons (at_of_get (hold 181 _ (by kernel_rfl) rfl)) (RowIs.cons (at_of_get (hold 182 _ (by kernel_rfl) rfl)) (RowIs.cons (at_of_get (hold 183 _ (by kernel_rfl) rfl)) (RowIs.cons (at_of_get (hold 184 _ (by kernel_rfl) rfl)) (RowIs.cons (at_of_get (hold 185 _ (by kernel_rfl) rfl)) (RowIs.cons (at_of_get (hold 186 _ (by kernel_rfl) rfl)) (RowIs.cons (at_of_get (hold 187 _ (by kernel_rfl) rfl)) (RowIs.cons (at_of_get (hold 188 _ (by kernel_rfl) rfl)) (RowIs.cons (at_of_get (hold 189 _ (by kernel_rfl) rfl)) (RowIs.cons (at_of_get (hold 190 _ (by kernel_rfl) rfl)) (RowIs.cons (at_of_get (hold 191 _ (by kernel_rfl) rfl)) (RowIs.cons (at_of_get (hold 192 _ (by kernel_rfl) rfl)) (RowIs.cons (at_of_get (hold 193 _ (by kernel_rfl) rfl)) (RowIs.cons (at_of_get (hold 194 _ (by kernel_rfl) rfl)) (RowIs.cons (at_of_get (hold 195 _ (by kernel_rfl) rfl)) (RowIs.cons (at_of_get (hold 196 _ (by kernel_rfl) rfl)) (RowIs.cons (at_of_get (hold 197 _ (by kernel_rfl) rfl)) (RowIs.cons (at_of_get (hold 198 _ (by kernel_rfl) rfl)) (RowIs.cons (at_of_get (hold 199 _ (by kernel_rfl) rfl)) (RowIs.cons (at_of_get (hold 200 _ (by kernel_rfl) rfl)) (RowIs.cons (at_of_get (hold 201 _ (by kernel_rfl) rfl)) (RowIs.cons (at_of_get (hold 202 _ (by kernel_rfl) rfl)) (RowIs.cons (at_of_get (hold 203 _ (by kernel_rfl) rfl)) (RowIs.cons (at_of_get (hold 204 _ (by kernel_rfl) rfl)) (RowIs.cons (at_of_get (hold 205 _ (by kernel_rfl) rfl)) (RowIs.cons (at_of_get (hold 206 _ (by kernel_rfl) rfl)) (RowIs.cons (at_of_get (hold 207 _ (by kernel_rfl) rfl)) (RowIs.cons (at_of_get (hold 208 _ (by kernel_rfl) rfl)) (RowIs.cons (at_of_get (hold 209 _ (by kernel_rfl) rfl)) (RowIs.cons (at_of_get (hold 210 _ (by kernel_rfl) rfl)) (RowIs.cons (at_of_get (hold 211 _ (by kernel_rfl) rfl)) (RowIs.cons (at_of_get (hold 212 _ (by kernel_rfl) rfl)) (RowIs.cons (at_of_get (hold 213 _ (by kernel_rfl) rfl)) (RowIs.cons (at_of_get (hold 214 _ (by kernel_rfl) rfl)) (RowIs.cons (at_of_get (hold 215 _ (by kernel_rfl) rfl)) (RowIs.cons (at_of_get (hold 216 _ (by kernel_rfl) rfl)) (RowIs.cons (at_of_get (hold 217 _ (by kernel_rfl) rfl)) (RowIs.cons (at_of_get (hold 218 _ (by kernel_rfl) rfl)) (RowIs.cons (at_of_get (hold 219 _ (by kernel_rfl) rfl)) (RowIs.cons (at_of_get (hold 220 _ (by kernel_rfl) rfl)) (RowIs.cons (at_of_get (hold 221 _ (by kernel_rfl) rfl)) (RowIs.cons (at_of_get (hold 222 _ (by kernel_rfl) rfl)) (RowIs.cons (at_of_get (hold 223 _ (by kernel_rfl) rfl)) (RowIs.cons (at_of_get (hold 224 _ (by kernel_rfl) rfl)) (RowIs.cons (at_of_get (hold 225 _ (by kernel_rfl) rfl)) (RowIs.cons (at_of_get (hold 226 _ (by kernel_rfl) rfl)) (RowIs.cons (at_of_get (hold 227 _ (by kernel_rfl) rfl)) (RowIs.cons (at_of_get (hold 228 _ (by kernel_rfl) rfl)) (RowIs.cons (at_of_get (hold 229 _ (by kernel_rfl) rfl)) (RowIs.cons (at_of_get (hold 230 _ (by kernel_rfl) rfl)) (RowIs.cons (at_of_get (hold 231 _ (by kernel_rfl) rfl)) (RowIs.cons (at_of_get (hold 232 _ (by kernel_rfl) rfl)) (RowIs.cons (at_of_get (hold 233 _ (by kernel_rfl) rfl)) (RowIs.cons (at_of_get (hold 234 _ (by kernel_rfl) rfl)) (RowIs.cons (at_of_get (hold 235 _ (by kernel_rfl) rfl)) (RowIs.cons (at_of_get (hold 236 _ (by kernel_rfl) rfl)) (RowIs.cons (at_of_get (hold 237 _ (by kernel_rfl) rfl)) (RowIs.cons (at_of_get (hold 238 _ (by kernel_rfl) rfl)) (RowIs.cons (at_of_get (hold 239 _ (by kernel_rfl) rfl)) (RowIs.cons (at_of_get (hold 240 _ (by kernel_rfl) rfl)) (RowIs.cons (at_of_get (hold 241 _ (by kernel_rfl) rfl)) (RowIs.cons (at_of_get (hold 242 _ (by kernel_rfl) rfl)) (RowIs.cons (at_of_get (hold 243 _ (by kernel_rfl) rfl)) (RowIs.cons (at_of_get (hold 244 _ (by kernel_rfl) rfl)) (RowIs.nil _ _)))))))))))))))))))))))))))))))))))))))))))))))))))))))))))))))))))))))))))))))))))))))))))))))))))))))))))))))))))))))))))))))))))))))))))))))))))))))))))))))))))))))))))))))))))))))))))))))))))))))))))))))))))))))))))))))))))))))))))))))))))))) rfl
        clear hsz hdf hold hvals
        subst ha
        try simp only [List.getElem_toArray, List.getElem_cons_succ, List.getElem_cons_zero]
        obtain ⟨W3, rfl⟩ : ∃ W3, W3 = w' := ⟨_, rfl⟩
        have hu3 := hu.trans_nil hS
        have hNj := fun (W : World) (u : Upd [] W3 W) => hNi W (hS.trans_nil u)
        have hKj := fun (W : World) (u : Upd [] W3 W) => hKi W (hS.trans_nil u)
        clear hNi hKi hS hu
        go_upto_region 7 with fail
        refine wp_region_spec [(.eq (.agg (row32 G9).toArray)), (.eq (.slice (some ⟨b2, 0, none⟩) 5 5)), (.eq (.int .i64 (ni : Int))), (.eq (.pointer (some ⟨b2, ni * 3, none⟩))), (.eq (.agg #[.int .i64 x0, .int .i64 x1, .int .i64 x2])), (.eq (.tuple #[.slice none 0 0, .int .i64 9])), (.eq (.tuple #[.slice none 0 0, .int .i64 9])), (.eq (.slice none 0 0)), (.eq (.int .i64 9)), (.eq (.slice none 0 0)), (.eq (.int .i64 9))] (by kernel_rfl) (by kernel_rfl) rfl ?step ?fin
        case step =>
          intro i o ho a w' hS hold hneed K' hK
          match i, ho with
          | 0, ho =>
            obtain rfl := Option.some.inj ho
            have d1 := hold 1 _ (by kernel_rfl) rfl
            clear hold hneed ho
            (rw [if_pos (by simp [Region.wanted, yielded, *])]; exact wp_load_row 23 (.tmp 1) rfl b1 (by simp [Act.eval, *]) 23 _ (0, 0) _ (hKj _ hS) Try.underlying23 rfl (infoK _) (hK _ _ rfl (Upd.refl [] _)))
          | 1, ho =>
            obtain rfl := Option.some.inj ho
            have d2 := hold 2 _ (by kernel_rfl) rfl
            clear hold hneed ho
            (go_simp; exact hK _ _ rfl (Upd.refl [] _))
          | 2, ho =>
            obtain rfl := Option.some.inj ho
            have d3 := hold 3 _ (by kernel_rfl) rfl
            clear hold hneed ho
            (go_simp; exact hK _ _ rfl (Upd.refl [] _))
          | 3, ho =>
            obtain rfl := Option.some.inj ho
            have d61 := get_of_at (hneed 1 (of_decide_eq_true (by kernel_rfl)) 61 rfl) (by simp [undef])
            have d62 := get_of_at (hneed 2 (of_decide_eq_true (by kernel_rfl)) 62 rfl) (by simp [undef])
            clear hold hneed ho
            (go_simp; exact hK _ _ rfl (Upd.refl [] _))
          | 4, ho =>
            obtain rfl := Option.some.inj ho
            have d63 := get_of_at (hneed 3 (of_decide_eq_true (by kernel_rfl)) 63 rfl) (by simp [undef])
            clear hold hneed ho
            (have q0 := (hNj _ hS).1; have q1 := (hNj _ hS).2.1; have q2 := (hNj _ hS).2.2; go_simp; exact hK _ _ rfl (Upd.refl [] _))
          | 5, ho =>
            obtain rfl := Option.some.inj ho
            have d60 := get_of_at (hneed 0 (of_decide_eq_true (by kernel_rfl)) 60 rfl) (by simp [undef])
            have d64 := get_of_at (hneed 4 (of_decide_eq_true (by kernel_rfl)) 64 rfl) (by simp [undef])
            clear hold hneed ho
            (go_simp; refine (hon _).mono ?_; rintro e w3 ⟨rfl, hu3⟩; exact hK _ _ rfl hu3)
          | 6, ho =>
            obtain rfl := Option.some.inj ho
            have d65 := get_of_at (hneed 5 (of_decide_eq_true (by kernel_rfl)) 65 rfl) (by simp [undef])
            clear hold hneed ho
            (go_simp; exact hK _ _ rfl (Upd.refl [] _))
          | 7, ho =>
            obtain rfl := Option.some.inj ho
            have d59 := get_of_at (hneed 6 (of_decide_eq_true (by kernel_rfl)) 59 rfl) (by simp [undef])
            clear hold hneed ho
            (go_simp; exact hK _ _ rfl (Upd.refl [] _))
          | 8, ho =>
            obtain rfl := Option.some.inj ho
            have d59 := get_of_at (hneed 6 (of_decide_eq_true (by kernel_rfl)) 59 rfl) (by simp [undef])
            clear hold hneed ho
            (go_simp; exact hK _ _ rfl (Upd.refl [] _))
          | 9, ho =>
            obtain rfl := Option.some.inj ho
            have d66 := get_of_at (hneed 7 (of_decide_eq_true (by kernel_rfl)) 66 rfl) (by simp [undef])
            clear hold hneed ho
            (go_simp; exact hK _ _ rfl (Upd.refl [] _))
          | 10, ho =>
            obtain rfl := Option.some.inj ho
            have d67 := get_of_at (hneed 8 (of_decide_eq_true (by kernel_rfl)) 67 rfl) (by simp [undef])
            clear hold hneed ho
            (go_simp; exact hK _ _ rfl (Upd.refl [] _))
          | _ + 11, ho => exact absurd ho (by simp)
        case fin =>
          intro a w' hS hsz hdf hold hvals
          have ha := act_lit hsz hdf (RowIs.cons (at_of_get (hold 0 _ (by kernel_rfl) rfl)) (RowIs.cons (at_of_get (hold 1 _ (by kernel_rfl) rfl)) (RowIs.cons (at_of_get (hold 2 _ (by kernel_rfl) rfl)) (RowIs.cons (at_of_get (hold 3 _ (by kernel_rfl) rfl)) (RowIs.cons (at_of_get (hold 4 _ (by kernel_rfl) rfl)) (RowIs.cons (at_of_get (hold 5 _ (by kernel_rfl) rfl)) (RowIs.cons (hvals 9 6 rfl) (RowIs.cons (hvals 10 7 rfl) (RowIs.cons (at_of_get (hold 8 _ (by kernel_rfl) rfl)) (RowIs.cons (at_of_get (hold 9 _ (by kernel_rfl) rfl)) (RowIs.cons (at_of_get (hold 10 _ (by kernel_rfl) rfl)) (RowIs.cons (at_of_get (hold 11 _ (by kernel_rfl) rfl)) (RowIs.cons (at_of_get (hold 12 _ (by kernel_rfl) rfl)) (RowIs.cons (at_of_get (hold 13 _ (by kernel_rfl) rfl)) (RowIs.cons (at_of_get (hold 14 _ (by kernel_rfl) rfl)) (RowIs.cons (at_of_get (hold 15 _ (by kernel_rfl) rfl)) (RowIs.cons (at_of_get (hold 16 _ (by kernel_rfl) rfl)) (RowIs.cons (at_of_get (hold 17 _ (by kernel_rfl) rfl)) (RowIs.cons (at_of_get (hold 18 _ (by kernel_rfl) rfl)) (RowIs.cons (at_of_get (hold 19 _ (by kernel_rfl) rfl)) (RowIs.cons (at_of_get (hold 20 _ (by kernel_rfl) rfl)) (RowIs.cons (at_of_get (hold 21 _ (by kernel_rfl) rfl)) (RowIs.cons (at_of_get (hold 22 _ (by kernel_rfl) rfl)) (RowIs.cons (at_of_get (hold 23 _ (by kernel_rfl) rfl)) (RowIs.cons (at_of_get (hold 24 _ (by kernel_rfl) rfl)) (RowIs.cons (at_of_get (hold 25 _ (by kernel_rfl) rfl)) (RowIs.cons (at_of_get (hold 26 _ (by kernel_rfl) rfl)) (RowIs.cons (at_of_get (hold 27 _ (by kernel_rfl) rfl)) (RowIs.cons (at_of_get (hold 28 _ (by kernel_rfl) rfl)) (RowIs.cons (at_of_get (hold 29 _ (by kernel_rfl) rfl)) (RowIs.cons (at_of_get (hold 30 _ (by kernel_rfl) rfl)) (RowIs.cons (at_of_get (hold 31 _ (by kernel_rfl) rfl)) (RowIs.cons (at_of_get (hold 32 _ (by kernel_rfl) rfl)) (RowIs.cons (at_of_get (hold 33 _ (by kernel_rfl) rfl)) (RowIs.cons (at_of_get (hold 34 _ (by kernel_rfl) rfl)) (RowIs.cons (at_of_get (hold 35 _ (by kernel_rfl) rfl)) (RowIs.cons (at_of_get (hold 36 _ (by kernel_rfl) rfl)) (RowIs.cons (at_of_get (hold 37 _ (by kernel_rfl) rfl)) (RowIs.cons (at_of_get (hold 38 _ (by kernel_rfl) rfl)) (RowIs.cons (at_of_get (hold 39 _ (by kernel_rfl) rfl)) (RowIs.cons (at_of_get (hold 40 _ (by kernel_rfl) rfl)) (RowIs.cons (at_of_get (hold 41 _ (by kernel_rfl) rfl)) (RowIs.cons (at_of_get (hold 42 _ (by kernel_rfl) rfl)) (RowIs.cons (at_of_get (hold 43 _ (by kernel_rfl) rfl)) (RowIs.cons (at_of_get (hold 44 _ (by kernel_rfl) rfl)) (RowIs.cons (at_of_get (hold 45 _ (by kernel_rfl) rfl)) (RowIs.cons (at_of_get (hold 46 _ (by kernel_rfl) rfl)) (RowIs.cons (at_of_get (hold 47 _ (by kernel_rfl) rfl)) (RowIs.cons (at_of_get (hold 48 _ (by kernel_rfl) rfl)) (RowIs.cons (at_of_get (hold 49 _ (by kernel_rfl) rfl)) (RowIs.cons (at_of_get (hold 50 _ (by kernel_rfl) rfl)) (RowIs.cons (at_of_get (hold 51 _ (by kernel_rfl) rfl)) (RowIs.cons (at_of_get (hold 52 _ (by kernel_rfl) rfl)) (RowIs.cons (at_of_get (hold 53 _ (by kernel_rfl) rfl)) (RowIs.cons (at_of_get (hold 54 _ (by kernel_rfl) rfl)) (RowIs.cons (at_of_get (hold 55 _ (by kernel_rfl) rfl)) (RowIs.cons (at_of_get (hold 56 _ (by kernel_rfl) rfl)) (RowIs.cons (at_of_get (hold 57 _ (by kernel_rfl) rfl)) (RowIs.cons (at_of_get (hold 58 _ (by kernel_rfl) rfl)) (RowIs.cons (hvals 6 59 rfl) (RowIs.cons (hvals 0 60 rfl) (RowIs.cons (hvals 1 61 rfl) (RowIs.cons (hvals 2 62 rfl) (RowIs.cons (hvals 3 63 rfl) (RowIs.cons (hvals 4 64 rfl) (RowIs.cons (hvals 5 65 rfl) (RowIs.cons (hvals 7 66 rfl) (RowIs.cons (hvals 8 67 rfl) (RowIs.cons (at_of_get (hold 68 _ (by kernel_rfl) rfl)) (RowIs.cons (at_of_get (hold 69 _ (by kernel_rfl) rfl)) (RowIs.cons (at_of_get (hold 70 _ (by kernel_rfl) rfl)) (RowIs.cons (at_of_get (hold 71 _ (by kernel_rfl) rfl)) (RowIs.cons (at_of_get (hold 72 _ (by kernel_rfl) rfl)) (RowIs.cons (at_of_get (hold 73 _ (by kernel_rfl) rfl)) (RowIs.cons (at_of_get (hold 74 _ (by kernel_rfl) rfl)) (RowIs.cons (at_of_get (hold 75 _ (by kernel_rfl) rfl)) (RowIs.cons (at_of_get (hold 76 _ (by kernel_rfl) rfl)) (RowIs.cons (at_of_get (hold 77 _ (by kernel_rfl) rfl)) (RowIs.cons (at_of_get (hold 78 _ (by kernel_rfl) rfl)) (RowIs.cons (at_of_get (hold 79 _ (by kernel_rfl) rfl)) (RowIs.cons (at_of_get (hold 80 _ (by kernel_rfl) rfl)) (RowIs.cons (at_of_get (hold 81 _ (by kernel_rfl) rfl)) (RowIs.cons (at_of_get (hold 82 _ (by kernel_rfl) rfl)) (RowIs.cons (at_of_get (hold 83 _ (by kernel_rfl) rfl)) (RowIs.cons (at_of_get (hold 84 _ (by kernel_rfl) rfl)) (RowIs.cons (at_of_get (hold 85 _ (by kernel_rfl) rfl)) (RowIs.cons (at_of_get (hold 86 _ (by kernel_rfl) rfl)) (RowIs.cons (at_of_get (hold 87 _ (by kernel_rfl) rfl)) (RowIs.cons (at_of_get (hold 88 _ (by kernel_rfl) rfl)) (RowIs.cons (at_of_get (hold 89 _ (by kernel_rfl) rfl)) (RowIs.cons (at_of_get (hold 90 _ (by kernel_rfl) rfl)) (RowIs.cons (at_of_get (hold 91 _ (by kernel_rfl) rfl)) (RowIs.cons (at_of_get (hold 92 _ (by kernel_rfl) rfl)) (RowIs.cons (at_of_get (hold 93 _ (by kernel_rfl) rfl)) (RowIs.cons (at_of_get (hold 94 _ (by kernel_rfl) rfl)) (RowIs.cons (at_of_get (hold 95 _ (by kernel_rfl) rfl)) (RowIs.cons (at_of_get (hold 96 _ (by kernel_rfl) rfl)) (RowIs.cons (at_of_get (hold 97 _ (by kernel_rfl) rfl)) (RowIs.cons (at_of_get (hold 98 _ (by kernel_rfl) rfl)) (RowIs.cons (at_of_get (hold 99 _ (by kernel_rfl) rfl)) (RowIs.cons (at_of_get (hold 100 _ (by kernel_rfl) rfl)) (RowIs.cons (at_of_get (hold 101 _ (by kernel_rfl) rfl)) (RowIs.cons (at_of_get (hold 102 _ (by kernel_rfl) rfl)) (RowIs.cons (at_of_get (hold 103 _ (by kernel_rfl) rfl)) (RowIs.cons (at_of_get (hold 104 _ (by kernel_rfl) rfl)) (RowIs.cons (at_of_get (hold 105 _ (by kernel_rfl) rfl)) (RowIs.cons (at_of_get (hold 106 _ (by kernel_rfl) rfl)) (RowIs.cons (at_of_get (hold 107 _ (by kernel_rfl) rfl)) (RowIs.cons (at_of_get (hold 108 _ (by kernel_rfl) rfl)) (RowIs.cons (at_of_get (hold 109 _ (by kernel_rfl) rfl)) (RowIs.cons (at_of_get (hold 110 _ (by kernel_rfl) rfl)) (RowIs.cons (at_of_get (hold 111 _ (by kernel_rfl) rfl)) (RowIs.cons (at_of_get (hold 112 _ (by kernel_rfl) rfl)) (RowIs.cons (at_of_get (hold 113 _ (by kernel_rfl) rfl)) (RowIs.cons (at_of_get (hold 114 _ (by kernel_rfl) rfl)) (RowIs.cons (at_of_get (hold 115 _ (by kernel_rfl) rfl)) (RowIs.cons (at_of_get (hold 116 _ (by kernel_rfl) rfl)) (RowIs.cons (at_of_get (hold 117 _ (by kernel_rfl) rfl)) (RowIs.cons (at_of_get (hold 118 _ (by kernel_rfl) rfl)) (RowIs.cons (at_of_get (hold 119 _ (by kernel_rfl) rfl)) (RowIs.cons (at_of_get (hold 120 _ (by kernel_rfl) rfl)) (RowIs.cons (at_of_get (hold 121 _ (by kernel_rfl) rfl)) (RowIs.cons (at_of_get (hold 122 _ (by kernel_rfl) rfl)) (RowIs.cons (at_of_get (hold 123 _ (by kernel_rfl) rfl)) (RowIs.cons (at_of_get (hold 124 _ (by kernel_rfl) rfl)) (RowIs.cons (at_of_get (hold 125 _ (by kernel_rfl) rfl)) (RowIs.cons (at_of_get (hold 126 _ (by kernel_rfl) rfl)) (RowIs.cons (at_of_get (hold 127 _ (by kernel_rfl) rfl)) (RowIs.cons (at_of_get (hold 128 _ (by kernel_rfl) rfl)) (RowIs.cons (at_of_get (hold 129 _ (by kernel_rfl) rfl)) (RowIs.cons (at_of_get (hold 130 _ (by kernel_rfl) rfl)) (RowIs.cons (at_of_get (hold 131 _ (by kernel_rfl) rfl)) (RowIs.cons (at_of_get (hold 132 _ (by kernel_rfl) rfl)) (RowIs.cons (at_of_get (hold 133 _ (by kernel_rfl) rfl)) (RowIs.cons (at_of_get (hold 134 _ (by kernel_rfl) rfl)) (RowIs.cons (at_of_get (hold 135 _ (by kernel_rfl) rfl)) (RowIs.cons (at_of_get (hold 136 _ (by kernel_rfl) rfl)) (RowIs.cons (at_of_get (hold 137 _ (by kernel_rfl) rfl)) (RowIs.cons (at_of_get (hold 138 _ (by kernel_rfl) rfl)) (RowIs.cons (at_of_get (hold 139 _ (by kernel_rfl) rfl)) (RowIs.cons (at_of_get (hold 140 _ (by kernel_rfl) rfl)) (RowIs.cons (at_of_get (hold 141 _ (by kernel_rfl) rfl)) (RowIs.cons (at_of_get (hold 142 _ (by kernel_rfl) rfl)) (RowIs.cons (at_of_get (hold 143 _ (by kernel_rfl) rfl)) (RowIs.cons (at_of_get (hold 144 _ (by kernel_rfl) rfl)) (RowIs.cons (at_of_get (hold 145 _ (by kernel_rfl) rfl)) (RowIs.cons (at_of_get (hold 146 _ (by kernel_rfl) rfl)) (RowIs.cons (at_of_get (hold 147 _ (by kernel_rfl) rfl)) (RowIs.cons (at_of_get (hold 148 _ (by kernel_rfl) rfl)) (RowIs.cons (at_of_get (hold 149 _ (by kernel_rfl) rfl)) (RowIs.cons (at_of_get (hold 150 _ (by kernel_rfl) rfl)) (RowIs.cons (at_of_get (hold 151 _ (by kernel_rfl) rfl)) (RowIs.cons (at_of_get (hold 152 _ (by kernel_rfl) rfl)) (RowIs.cons (at_of_get (hold 153 _ (by kernel_rfl) rfl)) (RowIs.cons (at_of_get (hold 154 _ (by kernel_rfl) rfl)) (RowIs.cons (at_of_get (hold 155 _ (by kernel_rfl) rfl)) (RowIs.cons (at_of_get (hold 156 _ (by kernel_rfl) rfl)) (RowIs.cons (at_of_get (hold 157 _ (by kernel_rfl) rfl)) (RowIs.cons (at_of_get (hold 158 _ (by kernel_rfl) rfl)) (RowIs.cons (at_of_get (hold 159 _ (by kernel_rfl) rfl)) (RowIs.cons (at_of_get (hold 160 _ (by kernel_rfl) rfl)) (RowIs.cons (at_of_get (hold 161 _ (by kernel_rfl) rfl)) (RowIs.cons (at_of_get (hold 162 _ (by kernel_rfl) rfl)) (RowIs.cons (at_of_get (hold 163 _ (by kernel_rfl) rfl)) (RowIs.cons (at_of_get (hold 164 _ (by kernel_rfl) rfl)) (RowIs.cons (at_of_get (hold 165 _ (by kernel_rfl) rfl)) (RowIs.cons (at_of_get (hold 166 _ (by kernel_rfl) rfl)) (RowIs.cons (at_of_get (hold 167 _ (by kernel_rfl) rfl)) (RowIs.cons (at_of_get (hold 168 _ (by kernel_rfl) rfl)) (RowIs.cons (at_of_get (hold 169 _ (by kernel_rfl) rfl)) (RowIs.cons (at_of_get (hold 170 _ (by kernel_rfl) rfl)) (RowIs.cons (at_of_get (hold 171 _ (by kernel_rfl) rfl)) (RowIs.cons (at_of_get (hold 172 _ (by kernel_rfl) rfl)) (RowIs.cons (at_of_get (hold 173 _ (by kernel_rfl) rfl)) (RowIs.cons (at_of_get (hold 174 _ (by kernel_rfl) rfl)) (RowIs.cons (at_of_get (hold 175 _ (by kernel_rfl) rfl)) (RowIs.cons (at_of_get (hold 176 _ (by kernel_rfl) rfl)) (RowIs.cons (at_of_get (hold 177 _ (by kernel_rfl) rfl)) (RowIs.cons (at_of_get (hold 178 _ (by kernel_rfl) rfl)) (RowIs.cons (at_of_get (hold 179 _ (by kernel_rfl) rfl)) (RowIs.cons (at_of_get (hold 180 _ (by kernel_rfl) rfl)) (RowIs.cons (at_of_get (hold 181 _ (by kernel_rfl) rfl)) (RowIs.cons (at_of_get (hold 182 _ (by kernel_rfl) rfl)) (RowIs.cons (at_of_get (hold 183 _ (by kernel_rfl) rfl)) (RowIs.cons (at_of_get (hold 184 _ (by kernel_rfl) rfl)) (RowIs.cons (at_of_get (hold 185 _ (by kernel_rfl) rfl)) (RowIs.cons (at_of_get (hold 186 _ (by kernel_rfl) rfl)) (RowIs.cons (at_of_get (hold 187 _ (by kernel_rfl) rfl)) (RowIs.cons (at_of_get (hold 188 _ (by kernel_rfl) rfl)) (RowIs.cons (at_of_get (hold 189 _ (by kernel_rfl) rfl)) (RowIs.cons (at_of_get (hold 190 _ (by kernel_rfl) rfl)) (RowIs.cons (at_of_get (hold 191 _ (by kernel_rfl) rfl)) (RowIs.cons (at_of_get (hold 192 _ (by kernel_rfl) rfl)) (RowIs.cons (at_of_get (hold 193 _ (by kernel_rfl) rfl)) (RowIs.cons (at_of_get (hold 194 _ (by kernel_rfl) rfl)) (RowIs.cons (at_of_get (hold 195 _ (by kernel_rfl) rfl)) (RowIs.cons (at_of_get (hold 196 _ (by kernel_rfl) rfl)) (RowIs.cons (at_of_get (hold 197 _ (by kernel_rfl) rfl)) (RowIs.cons (at_of_get (hold 198 _ (by kernel_rfl) rfl)) (RowIs.cons (at_of_get (hold 199 _ (by kernel_rfl) rfl)) (RowIs.cons (at_of_get (hold 200 _ (by kernel_rfl) rfl)) (RowIs.cons (at_of_get (hold 201 _ (by kernel_rfl) rfl)) (RowIs.cons (at_of_get (hold 202 _ (by kernel_rfl) rfl)) (RowIs.cons (at_of_get (hold 203 _ (by kernel_rfl) rfl)) (RowIs.cons (at_of_get (hold 204 _ (by kernel_rfl) rfl)) (RowIs.cons (at_of_get (hold 205 _ (by kernel_rfl) rfl)) (RowIs.cons (at_of_get (hold 206 _ (by kernel_rfl) rfl)) (RowIs.cons (at_of_get (hold 207 _ (by kernel_rfl) rfl)) (RowIs.cons (at_of_get (hold 208 _ (by kernel_rfl) rfl)) (RowIs.cons (at_of_get (hold 209 _ (by kernel_rfl) rfl)) (RowIs.cons (at_of_get (hold 210 _ (by kernel_rfl) rfl)) (RowIs.cons (at_of_get (hold 211 _ (by kernel_rfl) rfl)) (RowIs.cons (at_of_get (hold 212 _ (by kernel_rfl) rfl)) (RowIs.cons (at_of_get (hold 213 _ (by kernel_rfl) rfl)) (RowIs.cons (at_of_get (hold 214 _ (by kernel_rfl) rfl)) (RowIs.cons (at_of_get (hold 215 _ (by kernel_rfl) rfl)) (RowIs.cons (at_of_get (hold 216 _ (by kernel_rfl) rfl)) (RowIs.cons (at_of_get (hold 217 _ (by kernel_rfl) rfl)) (RowIs.cons (at_of_get (hold 218 _ (by kernel_rfl) rfl)) (RowIs.cons (at_of_get (hold 219 _ (by kernel_rfl) rfl)) (RowIs.cons (at_of_get (hold 220 _ (by kernel_rfl) rfl)) (RowIs.cons (at_of_get (hold 221 _ (by kernel_rfl) rfl)) (RowIs.cons (at_of_get (hold 222 _ (by kernel_rfl) rfl)) (RowIs.cons (at_of_get (hold 223 _ (by kernel_rfl) rfl)) (RowIs.cons (at_of_get (hold 224 _ (by kernel_rfl) rfl)) (RowIs.cons (at_of_get (hold 225 _ (by kernel_rfl) rfl)) (RowIs.cons (at_of_get (hold 226 _ (by kernel_rfl) rfl)) (RowIs.cons (at_of_get (hold 227 _ (by kernel_rfl) rfl)) (RowIs.cons (at_of_get (hold 228 _ (by kernel_rfl) rfl)) (RowIs.cons (at_of_get (hold 229 _ (by kernel_rfl) rfl)) (RowIs.cons (at_of_get (hold 230 _ (by kernel_rfl) rfl)) (RowIs.cons (at_of_get (hold 231 _ (by kernel_rfl) rfl)) (RowIs.cons (at_of_get (hold 232 _ (by kernel_rfl) rfl)) (RowIs.cons (at_of_get (hold 233 _ (by kernel_rfl) rfl)) (RowIs.cons (at_of_get (hold 234 _ (by kernel_rfl) rfl)) (RowIs.cons (at_of_get (hold 235 _ (by kernel_rfl) rfl)) (RowIs.cons (at_of_get (hold 236 _ (by kernel_rfl) rfl)) (RowIs.cons (at_of_get (hold 237 _ (by kernel_rfl) rfl)) (RowIs.cons (at_of_get (hold 238 _ (by kernel_rfl) rfl)) (RowIs.cons (at_of_get (hold 239 _ (by kernel_rfl) rfl)) (RowIs.cons (at_of_get (hold 240 _ (by kernel_rfl) rfl)) (RowIs.cons (at_of_get (hold 241 _ (by kernel_rfl) rfl)) (RowIs.cons (at_of_get (hold 242 _ (by kernel_rfl) rfl)) (RowIs.cons (at_of_get (hold 243 _ (by kernel_rfl) rfl)) (RowIs.cons (at_of_get (hold 244 _ (by kernel_rfl) rfl)) (RowIs.nil _ _)))))))))))))))))))))))))))))))))))))))))))))))))))))))))))))))))))))))))))))))))))))))))))))))))))))))))))))))))))))))))))))))))))))))))))))))))))))))))))))))))))))))))))))))))))))))))))))))))))))))))))))))))))))))))))))))))))))))))))))))))))))) rfl
          clear hsz hdf hold hvals
          subst ha
          try simp only [List.getElem_toArray, List.getElem_cons_succ, List.getElem_cons_zero]
          have hu4 := hu3.trans_nil hS
          clear hS
          go_wp2_with fail
          exact ⟨⟨ni + 1, by omega, by go_num, hu4⟩, by simp [intOf]; omega⟩
    · have i2 : (5 : Int) ≤ ni := by omega
      clear hNr hge hni
      obtain ⟨W10, rfl⟩ : ∃ W10, W10 = wo := ⟨_, rfl⟩
      have v10 := hu
      clear hu
      go_upto_region 10 with fail
      have hne1 : ∀ w : World, (Op.equalIn 10000 23 (.agg (row32 (mac (keyL G9) (6 :: (markL M1 ++ rowI 0)))).toArray) (.agg (row32 (mac (keyL G9) (6 :: (markL M2 ++ rowI 0)))).toArray)).run Try.prog w = .ok false w := fun w => by rw [eq_aggK, ne_ab]
      have hne2 : ∀ w : World, (Op.equalIn 10000 23 (.agg (row32 (mac (keyL G9) (6 :: (markL M1 ++ rowI 0)))).toArray) (.agg (row32 (mac (keyL G9) (6 :: (markL M1 ++ rowI 1)))).toArray)).run Try.prog w = .ok false w := fun w => by rw [eq_aggK, ne_ac]
      have c12 := fun W => akey_ok W G9 G9_rng 9007199254740991 (by unfold okU; omega)
      have c13 := fun W => skey_ok W G9 G9_rng M1 M1_rng 0 (by unfold okU; omega)
      have c14 := fun W => skey_ok W G9 G9_rng M2 M2_rng 0 (by unfold okU; omega)
      have c15 := fun W => skey_ok W G9 G9_rng M1 M1_rng 1 (by unfold okU; omega)
      have c10 := fun W => akey_no W G9 (-1) (by unfold okU; omega)
      have c11 := fun W => akey_no W G9 9007199254740992 (by unfold okU; omega)
      have c16 := fun W => skey_no W G9 M1 (-1) (by unfold okU; omega)
      generalize mac (keyL G9) (2 :: rowI 9007199254740991) = Fd at *
      generalize mac (keyL G9) (6 :: (markL M1 ++ rowI 0)) = Fa at *
      generalize mac (keyL G9) (6 :: (markL M2 ++ rowI 0)) = Fb at *
      generalize mac (keyL G9) (6 :: (markL M1 ++ rowI 1)) = Fc at *
      go_upto_region 11 with (first
        | (go_at_call 21; refine (c10 W10).mono ?_; rintro e X11 ⟨rfl, u11⟩; have hC := Blk.new X11 (row32 fun _ => 0).toArray 23)
        | (have tok := u11; refine wpList_store_rowTo rfl _ _ _ rfl rfl _ (row32 fun _ => 0).toArray rfl rfl _ (row32 fun _ => 0).toArray hC (infoK _) (size32 _ _) (one32 _) ?_)
        | (refine wpList_load_row rfl _ _ rfl b1 rfl _ (row32 G9).toArray _ _ (hKr W10 v10) Try.underlying23 rfl (infoK _) ?_))
      have hC' := hC.setRow (row32 fun _ => 0).toArray
      have ua := (Upd.refl [] X11).alloc (.cells (row32 fun _ => 0).toArray 23)
      have ub := u11.trans_nil (ua.setRow (b := X11.heap.size) (Or.inr (by simp)) (row32 fun _ => 0).toArray)
      generalize (X11.alloc (.cells (row32 fun _ => 0).toArray 23)).setRow X11.heap.size (row32 fun _ => 0).toArray = W11 at *
      obtain ⟨C11, hCC⟩ : ∃ C, X11.heap.size = C := ⟨_, rfl⟩
      rw [hCC] at hC' ⊢
      have v11 := v10.trans_nil ub
      clear hC hC' ua ub u11 hCC v10 c10
      go_upto_region 12 with (first
        | (go_at_call 21; refine (c11 W11).mono ?_; rintro e X12 ⟨rfl, u12⟩; have hC := Blk.new X12 (row32 fun _ => 0).toArray 23)
        | (have tok := u12; refine wpList_store_rowTo rfl _ _ _ rfl rfl _ (row32 fun _ => 0).toArray rfl rfl _ (row32 fun _ => 0).toArray hC (infoK _) (size32 _ _) (one32 _) ?_)
        | (refine wpList_load_row rfl _ _ rfl b1 rfl _ (row32 G9).toArray _ _ (hKr W11 v11) Try.underlying23 rfl (infoK _) ?_))
      have hC' := hC.setRow (row32 fun _ => 0).toArray
      have ua := (Upd.refl [] X12).alloc (.cells (row32 fun _ => 0).toArray 23)
      have ub := u12.trans_nil (ua.setRow (b := X12.heap.size) (Or.inr (by simp)) (row32 fun _ => 0).toArray)
      generalize (X12.alloc (.cells (row32 fun _ => 0).toArray 23)).setRow X12.heap.size (row32 fun _ => 0).toArray = W12 at *
      obtain ⟨C12, hCC⟩ : ∃ C, X12.heap.size = C := ⟨_, rfl⟩
      rw [hCC] at hC' ⊢
      have v12 := v11.trans_nil ub
      clear hC hC' ua ub u12 hCC v11 c11
      go_upto_region 13 with (first
        | (go_at_call 21; refine (c12 W12).mono ?_; rintro e X13 ⟨rfl, u13⟩; have hC := Blk.new X13 (row32 fun _ => 0).toArray 23)
        | (have tok := u13; refine wpList_store_rowTo rfl _ _ _ rfl rfl _ (row32 Fd).toArray rfl rfl _ (row32 fun _ => 0).toArray hC (infoK _) (size32 _ _) (one32 _) ?_)
        | (refine wpList_load_row rfl _ _ rfl b1 rfl _ (row32 G9).toArray _ _ (hKr W12 v12) Try.underlying23 rfl (infoK _) ?_))
      have hC' := hC.setRow (row32 Fd).toArray
      have ua := (Upd.refl [] X13).alloc (.cells (row32 fun _ => 0).toArray 23)
      have ub := u13.trans_nil (ua.setRow (b := X13.heap.size) (Or.inr (by simp)) (row32 Fd).toArray)
      generalize (X13.alloc (.cells (row32 fun _ => 0).toArray 23)).setRow X13.heap.size (row32 Fd).toArray = W13 at *
      obtain ⟨C13, hCC⟩ : ∃ C, X13.heap.size = C := ⟨_, rfl⟩
      rw [hCC] at hC' ⊢
      have v13 := v12.trans_nil ub
      clear hC hC' ua ub u13 hCC v12 c12
      go_upto_region 14 with (first
        | (go_at_call 27; refine (c13 W13).mono ?_; rintro e X14 ⟨rfl, u14⟩; have hC := Blk.new X14 (row32 fun _ => 0).toArray 23)
        | (have tok := u14; refine wpList_store_rowTo rfl _ _ _ rfl rfl _ (row32 Fa).toArray rfl rfl _ (row32 fun _ => 0).toArray hC (infoK _) (size32 _ _) (one32 _) ?_)
        | (refine wpList_load_row rfl _ _ rfl b1 rfl _ (row32 G9).toArray _ _ (hKr W13 v13) Try.underlying23 rfl (infoK _) ?_))
      have hC' := hC.setRow (row32 Fa).toArray
      have ua := (Upd.refl [] X14).alloc (.cells (row32 fun _ => 0).toArray 23)
      have ub := u14.trans_nil (ua.setRow (b := X14.heap.size) (Or.inr (by simp)) (row32 Fa).toArray)
      generalize (X14.alloc (.cells (row32 fun _ => 0).toArray 23)).setRow X14.heap.size (row32 Fa).toArray = W14 at *
      obtain ⟨C14, hCC⟩ : ∃ C, X14.heap.size = C := ⟨_, rfl⟩
      rw [hCC] at hC' ⊢
      have v14 := v13.trans_nil ub
      have hCa := hC'
      simp only [List.toList_toArray] at hCa
      clear hC hC' ua ub u14 hCC v13 c13
      go_upto_region 15 with (first
        | (go_at_call 27; refine (c14 W14).mono ?_; rintro e X15 ⟨rfl, u15⟩; have hC := Blk.new X15 (row32 fun _ => 0).toArray 23)
        | (have tok := u15; refine wpList_store_rowTo rfl _ _ _ rfl rfl _ (row32 Fb).toArray rfl rfl _ (row32 fun _ => 0).toArray hC (infoK _) (size32 _ _) (one32 _) ?_)
        | (refine wpList_load_row rfl _ _ rfl b1 rfl _ (row32 G9).toArray _ _ (hKr W14 v14) Try.underlying23 rfl (infoK _) ?_))
      have hC' := hC.setRow (row32 Fb).toArray
      have ua := (Upd.refl [] X15).alloc (.cells (row32 fun _ => 0).toArray 23)
      have ub := u15.trans_nil (ua.setRow (b := X15.heap.size) (Or.inr (by simp)) (row32 Fb).toArray)
      generalize (X15.alloc (.cells (row32 fun _ => 0).toArray 23)).setRow X15.heap.size (row32 Fb).toArray = W15 at *
      obtain ⟨C15, hCC⟩ : ∃ C, X15.heap.size = C := ⟨_, rfl⟩
      rw [hCC] at hC' ⊢
      have v15 := v14.trans_nil ub
      have hCb := hC'
      simp only [List.toList_toArray] at hCb
      replace hCa := hCa.upd_nil ub
      clear hC hC' ua ub u15 hCC v14 c14
      go_upto_region 16 with (first
        | (go_at_call 27; refine (c15 W15).mono ?_; rintro e X16 ⟨rfl, u16⟩; have hC := Blk.new X16 (row32 fun _ => 0).toArray 23)
        | (have tok := u16; refine wpList_store_rowTo rfl _ _ _ rfl rfl _ (row32 Fc).toArray rfl rfl _ (row32 fun _ => 0).toArray hC (infoK _) (size32 _ _) (one32 _) ?_)
        | (refine wpList_load_row rfl _ _ rfl b1 rfl _ (row32 G9).toArray _ _ (hKr W15 v15) Try.underlying23 rfl (infoK _) ?_))
      have hC' := hC.setRow (row32 Fc).toArray
      have ua := (Upd.refl [] X16).alloc (.cells (row32 fun _ => 0).toArray 23)
      have ub := u16.trans_nil (ua.setRow (b := X16.heap.size) (Or.inr (by simp)) (row32 Fc).toArray)
      generalize (X16.alloc (.cells (row32 fun _ => 0).toArray 23)).setRow X16.heap.size (row32 Fc).toArray = W16 at *
      obtain ⟨C16, hCC⟩ : ∃ C, X16.heap.size = C := ⟨_, rfl⟩
      rw [hCC] at hC' ⊢
      have v16 := v15.trans_nil ub
      have hCc := hC'
      simp only [List.toList_toArray] at hCc
      replace hCa := hCa.upd_nil ub
      replace hCb := hCb.upd_nil ub
      clear hC hC' ua ub u16 hCC v15 c15
      go_upto_region 17 with (first
        | (go_at_call 27; refine (c16 W16).mono ?_; rintro e X17 ⟨rfl, u17⟩; have hC := Blk.new X17 (row32 fun _ => 0).toArray 23)
        | (have tok := u17; refine wpList_store_rowTo rfl _ _ _ rfl rfl _ (row32 fun _ => 0).toArray rfl rfl _ (row32 fun _ => 0).toArray hC (infoK _) (size32 _ _) (one32 _) ?_)
        | (refine wpList_load_row rfl _ _ rfl b1 rfl _ (row32 G9).toArray _ _ (hKr W16 v16) Try.underlying23 rfl (infoK _) ?_))
      have hC' := hC.setRow (row32 fun _ => 0).toArray
      have ua := (Upd.refl [] X17).alloc (.cells (row32 fun _ => 0).toArray 23)
      have ub := u17.trans_nil (ua.setRow (b := X17.heap.size) (Or.inr (by simp)) (row32 fun _ => 0).toArray)
      generalize (X17.alloc (.cells (row32 fun _ => 0).toArray 23)).setRow X17.heap.size (row32 fun _ => 0).toArray = W17 at *
      obtain ⟨C17, hCC⟩ : ∃ C, X17.heap.size = C := ⟨_, rfl⟩
      rw [hCC] at hC' ⊢
      have v17 := v16.trans_nil ub
      replace hCa := hCa.upd_nil ub
      replace hCb := hCb.upd_nil ub
      replace hCc := hCc.upd_nil ub
      clear hC hC' ua ub u17 hCC v16 c16
      obtain ⟨W18, rfl⟩ : ∃ W18, W18 = W17 := ⟨_, rfl⟩
      go_upto_region 18 with (first
        | (refine wpList_load_rowG (by simp [Region.wanted, yielded, Act.put]) _ _ rfl C14 rfl _ (row32 Fa).toArray _ _ hCa Try.underlying23 rfl (infoK _) ?_)
        | (refine wpList_load_rowG (by simp [Region.wanted, yielded, Act.put]) _ _ rfl C15 rfl _ (row32 Fb).toArray _ _ hCb Try.underlying23 rfl (infoK _) ?_)
        | (refine wpList_load_rowG (by simp [Region.wanted, yielded, Act.put]) _ _ rfl C16 rfl _ (row32 Fc).toArray _ _ hCc Try.underlying23 rfl (infoK _) ?_))
      clear hne1 hne2 hCa hCb hCc hz16
      obtain ⟨Zs, hZs⟩ : ∃ L, (brow 65536 fun _ => 0) = L := ⟨_, rfl⟩
      obtain ⟨Zt, hZt⟩ : ∃ L, (brow 65537 fun _ => 0) = L := ⟨_, rfl⟩
      obtain ⟨Zu, hZu⟩ : ∃ L, (brow 65553 fun _ => 0) = L := ⟨_, rfl⟩
      obtain ⟨Zv, hZv⟩ : ∃ L, (brow 31 fun _ => 0) = L := ⟨_, rfl⟩
      have hm1 : ∀ w, (Instr.makeSlice 26 (.int .i64 65536) (.int .i64 65536)).run Try.prog w = .ok (.slice (some ⟨w.heap.size, 0, none⟩) 65536 65536) (w.alloc (.cells Zs.toArray 5)) := hmkZ 65536 (by omega) Zs hZs
      have hm2 : ∀ w, (Instr.makeSlice 26 (.int .i64 65537) (.int .i64 65537)).run Try.prog w = .ok (.slice (some ⟨w.heap.size, 0, none⟩) 65537 65537) (w.alloc (.cells Zt.toArray 5)) := hmkZ 65537 (by omega) Zt hZt
      have hm3 : ∀ w, (Instr.makeSlice 26 (.int .i64 65553) (.int .i64 65553)).run Try.prog w = .ok (.slice (some ⟨w.heap.size, 0, none⟩) 65553 65553) (w.alloc (.cells Zu.toArray 5)) := hmkZ 65553 (by omega) Zu hZu
      have hm4 : ∀ w, (Instr.makeSlice 26 (.int .i64 31) (.int .i64 31)).run Try.prog w = .ok (.slice (some ⟨w.heap.size, 0, none⟩) 31 31) (w.alloc (.cells Zv.toArray 5)) := hmkZ 31 (by omega) Zv hZv
      have hnew := newZ 65536 Zs hZs
      have hat : ∀ (W : World) (b : Nat), Blk W b Zs 5 → ByAt W (some ⟨b, 0, none⟩) (zerosI 65536) := fun W b h => by rw [← hZs] at h; exact zerosI_at h
      have hsg : ∀ (W : World) (b : Nat), Blk W b Zv 5 → Calls Try.prog 24 #[.agg (row32 G9).toArray, .slice (some ⟨b, 0, none⟩) 31 31] W fun e w' => e = .returned (.tuple #[.slice none 0 0, .int .i64 3]) ∧ Upd [] W w' := fun W b h => by rw [← hZv] at h; exact k_signed W b _ h
      clear hZs hZt hZu hZv
      have hks := fun (W : World) p c h hc => k_seal 65536 65552 rfl (by omega) W p c h hc
      have hko := fun (W : World) p c h hc => k_open 65536 65552 rfl (by omega) W p c h hc
      have hk0 := fun (W : World) => k_seal 0 16 rfl (by omega) W none 0 (ByAt.nil _ _) (by omega)
      have hk1 := fun (W : World) p c h hc => k_open 0 16 rfl (by omega) W p c h hc
      have hke := fun (W : World) p q c d hp hq => k_eq 65536 (by omega) W p q c d hp hq
      have hsb := fun (W : World) (p : Option Addr) => seal_big W G9 0 0 0 nonce_z p 65537 65537 (by omega)
      have hob := fun (W : World) (p : Option Addr) => open_big W G9 0 0 0 nonce_z p 65553 65553 (by omega) (by omega)
      generalize sealZ 65536 = S1 at *
      generalize sealZ 0 = S0 at *
      generalize zerosI 65536 = Z1 at *
      generalize zerosI 0 = Z0 at *
      have hK18 := fun (W : World) (u : Upd [] W18 W) => hKr W (v17.trans_nil u)
      refine wp_region_own [(.s (.eq (.agg (row32 G9).toArray))), (.s (.eq (.agg #[.int .i64 0, .int .i64 0, .int .i64 0]))), (.s (.sl 65536 65536 Zs 5)), (isSealed 65552 S1), (isSealed 65552 S1), (isRow 65552 S1), (.s (.eq (.int .i64 0))), (isRow 65552 S1), (.s (.eq (.int .i64 0)))] 9999 (fun _ _ => False) (by kernel_rfl) (by kernel_rfl) rfl ?kp ?step ?fin
      case kp => intro k hk v wa wb h kp; exact kp.elim
      case step =>
        intro i o ho a w' hS hold hneed K' hK
        match i, ho with
        | 0, ho =>
          obtain rfl := Option.some.inj ho
          have d1 := hold 1 _ (by kernel_rfl) rfl
          clear hold hneed ho
          (rw [if_pos (by simp [Region.wanted, yielded, *])]; exact wp_load_row 23 (.tmp 1) rfl b1 (by simp [Act.eval, *]) 23 _ (0, 0) _ (hK18 _ hS) Try.underlying23 rfl (infoK _) (hK _ _ rfl (Upd.refl [] _)))
        | 1, ho =>
          obtain rfl := Option.some.inj ho
          clear hold hneed ho
          (go_simp; exact hK _ _ rfl (Upd.refl [] _))
        | 2, ho =>
          obtain rfl := Option.some.inj ho
          clear hold hneed ho
          (go_simp; exact hK _ _ ⟨_, rfl, Blk.new _ _ _⟩ ((Upd.refl [] _).alloc _))
        | 3, ho =>
          obtain rfl := Option.some.inj ho
          have d138 := get_of_at (hneed 0 (of_decide_eq_true (by kernel_rfl)) 138 rfl) (by simp [undef])
          have d139 := get_of_at (hneed 1 (of_decide_eq_true (by kernel_rfl)) 139 rfl) (by simp [undef])
          obtain ⟨b140, e140, hB140⟩ := hneed 2 (of_decide_eq_true (by kernel_rfl)) 140 rfl
          have d140 := get_of_at e140 (by simp [undef])
          clear hold hneed ho
          (go_simp; refine (hks _ _ _ (hat _ _ hB140) (by omega)).mono ?_; rintro e w3 ⟨p', c', rfl, a', l', hu3⟩; exact hK _ _ ⟨_, _, rfl, a', l'⟩ hu3)
        | 4, ho =>
          obtain rfl := Option.some.inj ho
          have R141 := hneed 3 (of_decide_eq_true (by kernel_rfl)) 141 rfl
          clear hold hneed ho
          (obtain ⟨p', c', e', a', l'⟩ := R141; have d141 := get_of_at e' (by simp [undef]); go_simp; exact hK _ _ ⟨_, _, rfl, a', l'⟩ (Upd.refl [] _))
        | 5, ho =>
          obtain rfl := Option.some.inj ho
          have R137 := hneed 4 (of_decide_eq_true (by kernel_rfl)) 137 rfl
          clear hold hneed ho
          (obtain ⟨p', c', e', a', l'⟩ := R137; have d137 := get_of_at e' (by simp [undef]); go_simp; exact hK _ _ ⟨_, _, rfl, a', l'⟩ (Upd.refl [] _))
        | 6, ho =>
          obtain rfl := Option.some.inj ho
          have R137 := hneed 4 (of_decide_eq_true (by kernel_rfl)) 137 rfl
          clear hold hneed ho
          (obtain ⟨p', c', e', a', l'⟩ := R137; have d137 := get_of_at e' (by simp [undef]); go_simp; exact hK _ _ rfl (Upd.refl [] _))
        | 7, ho =>
          obtain rfl := Option.some.inj ho
          have R142 := hneed 5 (of_decide_eq_true (by kernel_rfl)) 142 rfl
          clear hold hneed ho
          (obtain ⟨p', c', e', a', l'⟩ := R142; have d142 := get_of_at e' (by simp [undef]); go_simp; exact hK _ _ ⟨_, _, rfl, a', l'⟩ (Upd.refl [] _))
        | 8, ho =>
          obtain rfl := Option.some.inj ho
          have d143 := get_of_at (hneed 6 (of_decide_eq_true (by kernel_rfl)) 143 rfl) (by simp [undef])
          clear hold hneed ho
          (go_simp; exact hK _ _ rfl (Upd.refl [] _))
        | _ + 9, ho => exact absurd ho (by simp)
      case fin =>
        intro a w' hS hsz hdf hold hvals
        have R23 := hvals 7 23 rfl
        obtain ⟨v23, hv23⟩ : ∃ v, at_ a 23 = v := ⟨_, rfl⟩
        rw [hv23] at R23
        have R137 := hvals 4 137 rfl
        obtain ⟨v137, hv137⟩ : ∃ v, at_ a 137 = v := ⟨_, rfl⟩
        rw [hv137] at R137
        obtain ⟨b140, hv140, hB140⟩ := hvals 2 140 rfl
        have R141 := hvals 3 141 rfl
        obtain ⟨v141, hv141⟩ : ∃ v, at_ a 141 = v := ⟨_, rfl⟩
        rw [hv141] at R141
        have R142 := hvals 5 142 rfl
        obtain ⟨v142, hv142⟩ : ∃ v, at_ a 142 = v := ⟨_, rfl⟩
        rw [hv142] at R142
        have ha := act_lit hsz hdf (RowIs.cons (at_of_get (hold 0 _ (by kernel_rfl) rfl)) (RowIs.cons (at_of_get (hold 1 _ (by kernel_rfl) rfl)) (RowIs.cons (at_of_get (hold 2 _ (by kernel_rfl) rfl)) (RowIs.cons (at_of_get (hold 3 _ (by kernel_rfl) rfl)) (RowIs.cons (at_of_get (hold 4 _ (by kernel_rfl) rfl)) (RowIs.cons (at_of_get (hold 5 _ (by kernel_rfl) rfl)) (RowIs.cons (at_of_get (hold 6 _ (by kernel_rfl) rfl)) (RowIs.cons (at_of_get (hold 7 _ (by kernel_rfl) rfl)) (RowIs.cons (at_of_get (hold 8 _ (by kernel_rfl) rfl)) (RowIs.cons (at_of_get (hold 9 _ (by kernel_rfl) rfl)) (RowIs.cons (at_of_get (hold 10 _ (by kernel_rfl) rfl)) (RowIs.cons (at_of_get (hold 11 _ (by kernel_rfl) rfl)) (RowIs.cons (at_of_get (hold 12 _ (by kernel_rfl) rfl)) (RowIs.cons (at_of_get (hold 13 _ (by kernel_rfl) rfl)) (RowIs.cons (at_of_get (hold 14 _ (by kernel_rfl) rfl)) (RowIs.cons (at_of_get (hold 15 _ (by kernel_rfl) rfl)) (RowIs.cons (at_of_get (hold 16 _ (by kernel_rfl) rfl)) (RowIs.cons (at_of_get (hold 17 _ (by kernel_rfl) rfl)) (RowIs.cons (at_of_get (hold 18 _ (by kernel_rfl) rfl)) (RowIs.cons (at_of_get (hold 19 _ (by kernel_rfl) rfl)) (RowIs.cons (at_of_get (hold 20 _ (by kernel_rfl) rfl)) (RowIs.cons (at_of_get (hold 21 _ (by kernel_rfl) rfl)) (RowIs.cons (at_of_get (hold 22 _ (by kernel_rfl) rfl)) (RowIs.cons hv23 (RowIs.cons (hvals 8 24 rfl) (RowIs.cons (at_of_get (hold 25 _ (by kernel_rfl) rfl)) (RowIs.cons (at_of_get (hold 26 _ (by kernel_rfl) rfl)) (RowIs.cons (at_of_get (hold 27 _ (by kernel_rfl) rfl)) (RowIs.cons (at_of_get (hold 28 _ (by kernel_rfl) rfl)) (RowIs.cons (at_of_get (hold 29 _ (by kernel_rfl) rfl)) (RowIs.cons (at_of_get (hold 30 _ (by kernel_rfl) rfl)) (RowIs.cons (at_of_get (hold 31 _ (by kernel_rfl) rfl)) (RowIs.cons (at_of_get (hold 32 _ (by kernel_rfl) rfl)) (RowIs.cons (at_of_get (hold 33 _ (by kernel_rfl) rfl)) (RowIs.cons (at_of_get (hold 34 _ (by kernel_rfl) rfl)) (RowIs.cons (at_of_get (hold 35 _ (by kernel_rfl) rfl)) (RowIs.cons (at_of_get (hold 36 _ (by kernel_rfl) rfl)) (RowIs.cons (at_of_get (hold 37 _ (by kernel_rfl) rfl)) (RowIs.cons (at_of_get (hold 38 _ (by kernel_rfl) rfl)) (RowIs.cons (at_of_get (hold 39 _ (by kernel_rfl) rfl)) (RowIs.cons (at_of_get (hold 40 _ (by kernel_rfl) rfl)) (RowIs.cons (at_of_get (hold 41 _ (by kernel_rfl) rfl)) (RowIs.cons (at_of_get (hold 42 _ (by kernel_rfl) rfl)) (RowIs.cons (at_of_get (hold 43 _ (by kernel_rfl) rfl)) (RowIs.cons (at_of_get (hold 44 _ (by kernel_rfl) rfl)) (RowIs.cons (at_of_get (hold 45 _ (by kernel_rfl) rfl)) (RowIs.cons (at_of_get (hold 46 _ (by kernel_rfl) rfl)) (RowIs.cons (at_of_get (hold 47 _ (by kernel_rfl) rfl)) (RowIs.cons (at_of_get (hold 48 _ (by kernel_rfl) rfl)) (RowIs.cons (at_of_get (hold 49 _ (by kernel_rfl) rfl)) (RowIs.cons (at_of_get (hold 50 _ (by kernel_rfl) rfl)) (RowIs.cons (at_of_get (hold 51 _ (by kernel_rfl) rfl)) (RowIs.cons (at_of_get (hold 52 _ (by kernel_rfl) rfl)) (RowIs.cons (at_of_get (hold 53 _ (by kernel_rfl) rfl)) (RowIs.cons (at_of_get (hold 54 _ (by kernel_rfl) rfl)) (RowIs.cons (at_of_get (hold 55 _ (by kernel_rfl) rfl)) (RowIs.cons (at_of_get (hold 56 _ (by kernel_rfl) rfl)) (RowIs.cons (at_of_get (hold 57 _ (by kernel_rfl) rfl)) (RowIs.cons (at_of_get (hold 58 _ (by kernel_rfl) rfl)) (RowIs.cons (at_of_get (hold 59 _ (by kernel_rfl) rfl)) (RowIs.cons (at_of_get (hold 60 _ (by kernel_rfl) rfl)) (RowIs.cons (at_of_get (hold 61 _ (by kernel_rfl) rfl)) (RowIs.cons (at_of_get (hold 62 _ (by kernel_rfl) rfl)) (RowIs.cons (at_of_get (hold 63 _ (by kernel_rfl) rfl)) (RowIs.cons (at_of_get (hold 64 _ (by kernel_rfl) rfl)) (RowIs.cons (at_of_get (hold 65 _ (by kernel_rfl) rfl)) (RowIs.cons (at_of_get (hold 66 _ (by kernel_rfl) rfl)) (RowIs.cons (at_of_get (hold 67 _ (by kernel_rfl) rfl)) (RowIs.cons (at_of_get (hold 68 _ (by kernel_rfl) rfl)) (RowIs.cons (at_of_get (hold 69 _ (by kernel_rfl) rfl)) (RowIs.cons (at_of_get (hold 70 _ (by kernel_rfl) rfl)) (RowIs.cons (at_of_get (hold 71 _ (by kernel_rfl) rfl)) (RowIs.cons (at_of_get (hold 72 _ (by kernel_rfl) rfl)) (RowIs.cons (at_of_get (hold 73 _ (by kernel_rfl) rfl)) (RowIs.cons (at_of_get (hold 74 _ (by kernel_rfl) rfl)) (RowIs.cons (at_of_get (hold 75 _ (by kernel_rfl) rfl)) (RowIs.cons (at_of_get (hold 76 _ (by kernel_rfl) rfl)) (RowIs.cons (at_of_get (hold 77 _ (by kernel_rfl) rfl)) (RowIs.cons (at_of_get (hold 78 _ (by kernel_rfl) rfl)) (RowIs.cons (at_of_get (hold 79 _ (by kernel_rfl) rfl)) (RowIs.cons (at_of_get (hold 80 _ (by kernel_rfl) rfl)) (RowIs.cons (at_of_get (hold 81 _ (by kernel_rfl) rfl)) (RowIs.cons (at_of_get (hold 82 _ (by kernel_rfl) rfl)) (RowIs.cons (at_of_get (hold 83 _ (by kernel_rfl) rfl)) (RowIs.cons (at_of_get (hold 84 _ (by kernel_rfl) rfl)) (RowIs.cons (at_of_get (hold 85 _ (by kernel_rfl) rfl)) (RowIs.cons (at_of_get (hold 86 _ (by kernel_rfl) rfl)) (RowIs.cons (at_of_get (hold 87 _ (by kernel_rfl) rfl)) (RowIs.cons (at_of_get (hold 88 _ (by kernel_rfl) rfl)) (RowIs.cons (at_of_get (hold 89 _ (by kernel_rfl) rfl)) (RowIs.cons (at_of_get (hold 90 _ (by kernel_rfl) rfl)) (RowIs.cons (at_of_get (hold 91 _ (by kernel_rfl) rfl)) (RowIs.cons (at_of_get (hold 92 _ (by kernel_rfl) rfl)) (RowIs.cons (at_of_get (hold 93 _ (by kernel_rfl) rfl)) (RowIs.cons (at_of_get (hold 94 _ (by kernel_rfl) rfl)) (RowIs.cons (at_of_get (hold 95 _ (by kernel_rfl) rfl)) (RowIs.cons (at_of_get (hold 96 _ (by kernel_rfl) rfl)) (RowIs.cons (at_of_get (hold 97 _ (by kernel_rfl) rfl)) (RowIs.cons (at_of_get (hold 98 _ (by kernel_rfl) rfl)) (RowIs.cons (at_of_get (hold 99 _ (by kernel_rfl) rfl)) (RowIs.cons (at_of_get (hold 100 _ (by kernel_rfl) rfl)) (RowIs.cons (at_of_get (hold 101 _ (by kernel_rfl) rfl)) (RowIs.cons (at_of_get (hold 102 _ (by kernel_rfl) rfl)) (RowIs.cons (at_of_get (hold 103 _ (by kernel_rfl) rfl)) (RowIs.cons (at_of_get (hold 104 _ (by kernel_rfl) rfl)) (RowIs.cons (at_of_get (hold 105 _ (by kernel_rfl) rfl)) (RowIs.cons (at_of_get (hold 106 _ (by kernel_rfl) rfl)) (RowIs.cons (at_of_get (hold 107 _ (by kernel_rfl) rfl)) (RowIs.cons (at_of_get (hold 108 _ (by kernel_rfl) rfl)) (RowIs.cons (at_of_get (hold 109 _ (by kernel_rfl) rfl)) (RowIs.cons (at_of_get (hold 110 _ (by kernel_rfl) rfl)) (RowIs.cons (at_of_get (hold 111 _ (by kernel_rfl) rfl)) (RowIs.cons (at_of_get (hold 112 _ (by kernel_rfl) rfl)) (RowIs.cons (at_of_get (hold 113 _ (by kernel_rfl) rfl)) (RowIs.cons (at_of_get (hold 114 _ (by kernel_rfl) rfl)) (RowIs.cons (at_of_get (hold 115 _ (by kernel_rfl) rfl)) (RowIs.cons (at_of_get (hold 116 _ (by kernel_rfl) rfl)) (RowIs.cons (at_of_get (hold 117 _ (by kernel_rfl) rfl)) (RowIs.cons (at_of_get (hold 118 _ (by kernel_rfl) rfl)) (RowIs.cons (at_of_get (hold 119 _ (by kernel_rfl) rfl)) (RowIs.cons (at_of_get (hold 120 _ (by kernel_rfl) rfl)) (RowIs.cons (at_of_get (hold 121 _ (by kernel_rfl) rfl)) (RowIs.cons (at_of_get (hold 122 _ (by kernel_rfl) rfl)) (RowIs.cons (at_of_get (hold 123 _ (by kernel_rfl) rfl)) (RowIs.cons (at_of_get (hold 124 _ (by kernel_rfl) rfl)) (RowIs.cons (at_of_get (hold 125 _ (by kernel_rfl) rfl)) (RowIs.cons (at_of_get (hold 126 _ (by kernel_rfl) rfl)) (RowIs.cons (at_of_get (hold 127 _ (by kernel_rfl) rfl)) (RowIs.cons (at_of_get (hold 128 _ (by kernel_rfl) rfl)) (RowIs.cons (at_of_get (hold 129 _ (by kernel_rfl) rfl)) (RowIs.cons (at_of_get (hold 130 _ (by kernel_rfl) rfl)) (RowIs.cons (at_of_get (hold 131 _ (by kernel_rfl) rfl)) (RowIs.cons (at_of_get (hold 132 _ (by kernel_rfl) rfl)) (RowIs.cons (at_of_get (hold 133 _ (by kernel_rfl) rfl)) (RowIs.cons (at_of_get (hold 134 _ (by kernel_rfl) rfl)) (RowIs.cons (at_of_get (hold 135 _ (by kernel_rfl) rfl)) (RowIs.cons (at_of_get (hold 136 _ (by kernel_rfl) rfl)) (RowIs.cons hv137 (RowIs.cons (hvals 0 138 rfl) (RowIs.cons (hvals 1 139 rfl) (RowIs.cons hv140 (RowIs.cons hv141 (RowIs.cons hv142 (RowIs.cons (hvals 6 143 rfl) (RowIs.cons (at_of_get (hold 144 _ (by kernel_rfl) rfl)) (RowIs.cons (at_of_get (hold 145 _ (by kernel_rfl) rfl)) (RowIs.cons (at_of_get (hold 146 _ (by kernel_rfl) rfl)) (RowIs.cons (at_of_get (hold 147 _ (by kernel_rfl) rfl)) (RowIs.cons (at_of_get (hold 148 _ (by kernel_rfl) rfl)) (RowIs.cons (at_of_get (hold 149 _ (by kernel_rfl) rfl)) (RowIs.cons (at_of_get (hold 150 _ (by kernel_rfl) rfl)) (RowIs.cons (at_of_get (hold 151 _ (by kernel_rfl) rfl)) (RowIs.cons (at_of_get (hold 152 _ (by kernel_rfl) rfl)) (RowIs.cons (at_of_get (hold 153 _ (by kernel_rfl) rfl)) (RowIs.cons (at_of_get (hold 154 _ (by kernel_rfl) rfl)) (RowIs.cons (at_of_get (hold 155 _ (by kernel_rfl) rfl)) (RowIs.cons (at_of_get (hold 156 _ (by kernel_rfl) rfl)) (RowIs.cons (at_of_get (hold 157 _ (by kernel_rfl) rfl)) (RowIs.cons (at_of_get (hold 158 _ (by kernel_rfl) rfl)) (RowIs.cons (at_of_get (hold 159 _ (by kernel_rfl) rfl)) (RowIs.cons (at_of_get (hold 160 _ (by kernel_rfl) rfl)) (RowIs.cons (at_of_get (hold 161 _ (by kernel_rfl) rfl)) (RowIs.cons (at_of_get (hold 162 _ (by kernel_rfl) rfl)) (RowIs.cons (at_of_get (hold 163 _ (by kernel_rfl) rfl)) (RowIs.cons (at_of_get (hold 164 _ (by kernel_rfl) rfl)) (RowIs.cons (at_of_get (hold 165 _ (by kernel_rfl) rfl)) (RowIs.cons (at_of_get (hold 166 _ (by kernel_rfl) rfl)) (RowIs.cons (at_of_get (hold 167 _ (by kernel_rfl) rfl)) (RowIs.cons (at_of_get (hold 168 _ (by kernel_rfl) rfl)) (RowIs.cons (at_of_get (hold 169 _ (by kernel_rfl) rfl)) (RowIs.cons (at_of_get (hold 170 _ (by kernel_rfl) rfl)) (RowIs.cons (at_of_get (hold 171 _ (by kernel_rfl) rfl)) (RowIs.cons (at_of_get (hold 172 _ (by kernel_rfl) rfl)) (RowIs.cons (at_of_get (hold 173 _ (by kernel_rfl) rfl)) (RowIs.cons (at_of_get (hold 174 _ (by kernel_rfl) rfl)) (RowIs.cons (at_of_get (hold 175 _ (by kernel_rfl) rfl)) (RowIs.cons (at_of_get (hold 176 _ (by kernel_rfl) rfl)) (RowIs.cons (at_of_get (hold 177 _ (by kernel_rfl) rfl)) (RowIs.cons (at_of_get (hold 178 _ (by kernel_rfl) rfl)) (RowIs.cons (at_of_get (hold 179 _ (by kernel_rfl) rfl)) (RowIs.cons (at_of_get (hold 180 _ (by kernel_rfl) rfl)) (RowIs.cons (at_of_get (hold 181 _ (by kernel_rfl) rfl)) (RowIs.cons (at_of_get (hold 182 _ (by kernel_rfl) rfl)) (RowIs.cons (at_of_get (hold 183 _ (by kernel_rfl) rfl)) (RowIs.cons (at_of_get (hold 184 _ (by kernel_rfl) rfl)) (RowIs.cons (at_of_get (hold 185 _ (by kernel_rfl) rfl)) (RowIs.cons (at_of_get (hold 186 _ (by kernel_rfl) rfl)) (RowIs.cons (at_of_get (hold 187 _ (by kernel_rfl) rfl)) (RowIs.cons (at_of_get (hold 188 _ (by kernel_rfl) rfl)) (RowIs.cons (at_of_get (hold 189 _ (by kernel_rfl) rfl)) (RowIs.cons (at_of_get (hold 190 _ (by kernel_rfl) rfl)) (RowIs.cons (at_of_get (hold 191 _ (by kernel_rfl) rfl)) (RowIs.cons (at_of_get (hold 192 _ (by kernel_rfl) rfl)) (RowIs.cons (at_of_get (hold 193 _ (by kernel_rfl) rfl)) (RowIs.cons (at_of_get (hold 194 _ (by kernel_rfl) rfl)) (RowIs.cons (at_of_get (hold 195 _ (by kernel_rfl) rfl)) (RowIs.cons (at_of_get (hold 196 _ (by kernel_rfl) rfl)) (RowIs.cons (at_of_get (hold 197 _ (by kernel_rfl) rfl)) (RowIs.cons (at_of_get (hold 198 _ (by kernel_rfl) rfl)) (RowIs.cons (at_of_get (hold 199 _ (by kernel_rfl) rfl)) (RowIs.cons (at_of_get (hold 200 _ (by kernel_rfl) rfl)) (RowIs.cons (at_of_get (hold 201 _ (by kernel_rfl) rfl)) (RowIs.cons (at_of_get (hold 202 _ (by kernel_rfl) rfl)) (RowIs.cons (at_of_get (hold 203 _ (by kernel_rfl) rfl)) (RowIs.cons (at_of_get (hold 204 _ (by kernel_rfl) rfl)) (RowIs.cons (at_of_get (hold 205 _ (by kernel_rfl) rfl)) (RowIs.cons (at_of_get (hold 206 _ (by kernel_rfl) rfl)) (RowIs.cons (at_of_get (hold 207 _ (by kernel_rfl) rfl)) (RowIs.cons (at_of_get (hold 208 _ (by kernel_rfl) rfl)) (RowIs.cons (at_of_get (hold 209 _ (by kernel_rfl) rfl)) (RowIs.cons (at_of_get (hold 210 _ (by kernel_rfl) rfl)) (RowIs.cons (at_of_get (hold 211 _ (by kernel_rfl) rfl)) (RowIs.cons (at_of_get (hold 212 _ (by kernel_rfl) rfl)) (RowIs.cons (at_of_get (hold 213 _ (by kernel_rfl) rfl)) (RowIs.cons (at_of_get (hold 214 _ (by kernel_rfl) rfl)) (RowIs.cons (at_of_get (hold 215 _ (by kernel_rfl) rfl)) (RowIs.cons (at_of_get (hold 216 _ (by kernel_rfl) rfl)) (RowIs.cons (at_of_get (hold 217 _ (by kernel_rfl) rfl)) (RowIs.cons (at_of_get (hold 218 _ (by kernel_rfl) rfl)) (RowIs.cons (at_of_get (hold 219 _ (by kernel_rfl) rfl)) (RowIs.cons (at_of_get (hold 220 _ (by kernel_rfl) rfl)) (RowIs.cons (at_of_get (hold 221 _ (by kernel_rfl) rfl)) (RowIs.cons (at_of_get (hold 222 _ (by kernel_rfl) rfl)) (RowIs.cons (at_of_get (hold 223 _ (by kernel_rfl) rfl)) (RowIs.cons (at_of_get (hold 224 _ (by kernel_rfl) rfl)) (RowIs.cons (at_of_get (hold 225 _ (by kernel_rfl) rfl)) (RowIs.cons (at_of_get (hold 226 _ (by kernel_rfl) rfl)) (RowIs.cons (at_of_get (hold 227 _ (by kernel_rfl) rfl)) (RowIs.cons (at_of_get (hold 228 _ (by kernel_rfl) rfl)) (RowIs.cons (at_of_get (hold 229 _ (by kernel_rfl) rfl)) (RowIs.cons (at_of_get (hold 230 _ (by kernel_rfl) rfl)) (RowIs.cons (at_of_get (hold 231 _ (by kernel_rfl) rfl)) (RowIs.cons (at_of_get (hold 232 _ (by kernel_rfl) rfl)) (RowIs.cons (at_of_get (hold 233 _ (by kernel_rfl) rfl)) (RowIs.cons (at_of_get (hold 234 _ (by kernel_rfl) rfl)) (RowIs.cons (at_of_get (hold 235 _ (by kernel_rfl) rfl)) (RowIs.cons (at_of_get (hold 236 _ (by kernel_rfl) rfl)) (RowIs.cons (at_of_get (hold 237 _ (by kernel_rfl) rfl)) (RowIs.cons (at_of_get (hold 238 _ (by kernel_rfl) rfl)) (RowIs.cons (at_of_get (hold 239 _ (by kernel_rfl) rfl)) (RowIs.cons (at_of_get (hold 240 _ (by kernel_rfl) rfl)) (RowIs.cons (at_of_get (hold 241 _ (by kernel_rfl) rfl)) (RowIs.cons (at_of_get (hold 242 _ (by kernel_rfl) rfl)) (RowIs.cons (at_of_get (hold 243 _ (by kernel_rfl) rfl)) (RowIs.cons (at_of_get (hold 244 _ (by kernel_rfl) rfl)) (RowIs.nil _ _)))))))))))))))))))))))))))))))))))))))))))))))))))))))))))))))))))))))))))))))))))))))))))))))))))))))))))))))))))))))))))))))))))))))))))))))))))))))))))))))))))))))))))))))))))))))))))))))))))))))))))))))))))))))))))))))))))))))))))))))))))))) rfl
        clear hsz hdf hold hvals
        subst ha
        try simp only [List.getElem_toArray, List.getElem_cons_succ, List.getElem_cons_zero]
        obtain ⟨p1, c1, rfl, aS, lS⟩ := R23
        obtain ⟨W19, rfl⟩ : ∃ W19, W19 = w' := ⟨_, rfl⟩
        have v19 := v17.trans_nil hS
        have hK19 := fun (W : World) (u : Upd [] W19 W) => hKr W (v19.trans_nil u)
        clear hK18 hS R137 R141 R142 hks
        go_upto_region 19 with fail
        refine wp_region_spec [(.eq (.agg (row32 G9).toArray)), (.eq (.agg #[.int .i64 0, .int .i64 0, .int .i64 0])), (.sl 65537 65537 Zt 5), (.eq (.tuple #[.slice none 0 0, .int .i64 5])), (.eq (.tuple #[.slice none 0 0, .int .i64 5])), (.eq (.slice none 0 0)), (.eq (.int .i64 5)), (.eq (.slice none 0 0)), (.eq (.int .i64 5))] (by kernel_rfl) (by kernel_rfl) rfl ?step ?fin
        case step =>
          intro i o ho a w' hS hold hneed K' hK
          match i, ho with
          | 0, ho =>
            obtain rfl := Option.some.inj ho
            have d1 := hold 1 _ (by kernel_rfl) rfl
            clear hold hneed ho
            (rw [if_pos (by simp [Region.wanted, yielded, *])]; exact wp_load_row 23 (.tmp 1) rfl b1 (by simp [Act.eval, *]) 23 _ (0, 0) _ (hK19 _ hS) Try.underlying23 rfl (infoK _) (hK _ _ rfl (Upd.refl [] _)))
          | 1, ho =>
            obtain rfl := Option.some.inj ho
            clear hold hneed ho
            (go_simp; exact hK _ _ rfl (Upd.refl [] _))
          | 2, ho =>
            obtain rfl := Option.some.inj ho
            clear hold hneed ho
            (go_simp; exact hK _ _ ⟨_, rfl, Blk.new _ _ _⟩ ((Upd.refl [] _).alloc _))
          | 3, ho =>
            obtain rfl := Option.some.inj ho
            have d145 := get_of_at (hneed 0 (of_decide_eq_true (by kernel_rfl)) 145 rfl) (by simp [undef])
            have d146 := get_of_at (hneed 1 (of_decide_eq_true (by kernel_rfl)) 146 rfl) (by simp [undef])
            obtain ⟨b147, e147, hB147⟩ := hneed 2 (of_decide_eq_true (by kernel_rfl)) 147 rfl
            have d147 := get_of_at e147 (by simp [undef])
            clear hold hneed ho
            (go_simp; refine (hsb _ _).mono ?_; rintro e w3 ⟨rfl, hu3⟩; exact hK _ _ rfl hu3)
          | 4, ho =>
            obtain rfl := Option.some.inj ho
            have d148 := get_of_at (hneed 3 (of_decide_eq_true (by kernel_rfl)) 148 rfl) (by simp [undef])
            clear hold hneed ho
            (go_simp; exact hK _ _ rfl (Upd.refl [] _))
          | 5, ho =>
            obtain rfl := Option.some.inj ho
            have d144 := get_of_at (hneed 4 (of_decide_eq_true (by kernel_rfl)) 144 rfl) (by simp [undef])
            clear hold hneed ho
            (go_simp; exact hK _ _ rfl (Upd.refl [] _))
          | 6, ho =>
            obtain rfl := Option.some.inj ho
            have d144 := get_of_at (hneed 4 (of_decide_eq_true (by kernel_rfl)) 144 rfl) (by simp [undef])
            clear hold hneed ho
            (go_simp; exact hK _ _ rfl (Upd.refl [] _))
          | 7, ho =>
            obtain rfl := Option.some.inj ho
            have d149 := get_of_at (hneed 5 (of_decide_eq_true (by kernel_rfl)) 149 rfl) (by simp [undef])
            clear hold hneed ho
            (go_simp; exact hK _ _ rfl (Upd.refl [] _))
          | 8, ho =>
            obtain rfl := Option.some.inj ho
            have d150 := get_of_at (hneed 6 (of_decide_eq_true (by kernel_rfl)) 150 rfl) (by simp [undef])
            clear hold hneed ho
            (go_simp; exact hK _ _ rfl (Upd.refl [] _))
          | _ + 9, ho => exact absurd ho (by simp)
        case fin =>
          intro a w' hS hsz hdf hold hvals
          obtain ⟨b147, hv147, hB147⟩ := hvals 2 147 rfl
          have ha := act_lit hsz hdf (RowIs.cons (at_of_get (hold 0 _ (by kernel_rfl) rfl)) (RowIs.cons (at_of_get (hold 1 _ (by kernel_rfl) rfl)) (RowIs.cons (at_of_get (hold 2 _ (by kernel_rfl) rfl)) (RowIs.cons (at_of_get (hold 3 _ (by kernel_rfl) rfl)) (RowIs.cons (at_of_get (hold 4 _ (by kernel_rfl) rfl)) (RowIs.cons (at_of_get (hold 5 _ (by kernel_rfl) rfl)) (RowIs.cons (at_of_get (hold 6 _ (by kernel_rfl) rfl)) (RowIs.cons (at_of_get (hold 7 _ (by kernel_rfl) rfl)) (RowIs.cons (at_of_get (hold 8 _ (by kernel_rfl) rfl)) (RowIs.cons (at_of_get (hold 9 _ (by kernel_rfl) rfl)) (RowIs.cons (at_of_get (hold 10 _ (by kernel_rfl) rfl)) (RowIs.cons (at_of_get (hold 11 _ (by kernel_rfl) rfl)) (RowIs.cons (at_of_get (hold 12 _ (by kernel_rfl) rfl)) (RowIs.cons (at_of_get (hold 13 _ (by kernel_rfl) rfl)) (RowIs.cons (at_of_get (hold 14 _ (by kernel_rfl) rfl)) (RowIs.cons (at_of_get (hold 15 _ (by kernel_rfl) rfl)) (RowIs.cons (at_of_get (hold 16 _ (by kernel_rfl) rfl)) (RowIs.cons (at_of_get (hold 17 _ (by kernel_rfl) rfl)) (RowIs.cons (at_of_get (hold 18 _ (by kernel_rfl) rfl)) (RowIs.cons (at_of_get (hold 19 _ (by kernel_rfl) rfl)) (RowIs.cons (at_of_get (hold 20 _ (by kernel_rfl) rfl)) (RowIs.cons (at_of_get (hold 21 _ (by kernel_rfl) rfl)) (RowIs.cons (at_of_get (hold 22 _ (by kernel_rfl) rfl)) (RowIs.cons (at_of_get (hold 23 _ (by kernel_rfl) rfl)) (RowIs.cons (at_of_get (hold 24 _ (by kernel_rfl) rfl)) (RowIs.cons (hvals 7 25 rfl) (RowIs.cons (hvals 8 26 rfl) (RowIs.cons (at_of_get (hold 27 _ (by kernel_rfl) rfl)) (RowIs.cons (at_of_get (hold 28 _ (by kernel_rfl) rfl)) (RowIs.cons (at_of_get (hold 29 _ (by kernel_rfl) rfl)) (RowIs.cons (at_of_get (hold 30 _ (by kernel_rfl) rfl)) (RowIs.cons (at_of_get (hold 31 _ (by kernel_rfl) rfl)) (RowIs.cons (at_of_get (hold 32 _ (by kernel_rfl) rfl)) (RowIs.cons (at_of_get (hold 33 _ (by kernel_rfl) rfl)) (RowIs.cons (at_of_get (hold 34 _ (by kernel_rfl) rfl)) (RowIs.cons (at_of_get (hold 35 _ (by kernel_rfl) rfl)) (RowIs.cons (at_of_get (hold 36 _ (by kernel_rfl) rfl)) (RowIs.cons (at_of_get (hold 37 _ (by kernel_rfl) rfl)) (RowIs.cons (at_of_get (hold 38 _ (by kernel_rfl) rfl)) (RowIs.cons (at_of_get (hold 39 _ (by kernel_rfl) rfl)) (RowIs.cons (at_of_get (hold 40 _ (by kernel_rfl) rfl)) (RowIs.cons (at_of_get (hold 41 _ (by kernel_rfl) rfl)) (RowIs.cons (at_of_get (hold 42 _ (by kernel_rfl) rfl)) (RowIs.cons (at_of_get (hold 43 _ (by kernel_rfl) rfl)) (RowIs.cons (at_of_get (hold 44 _ (by kernel_rfl) rfl)) (RowIs.cons (at_of_get (hold 45 _ (by kernel_rfl) rfl)) (RowIs.cons (at_of_get (hold 46 _ (by kernel_rfl) rfl)) (RowIs.cons (at_of_get (hold 47 _ (by kernel_rfl) rfl)) (RowIs.cons (at_of_get (hold 48 _ (by kernel_rfl) rfl)) (RowIs.cons (at_of_get (hold 49 _ (by kernel_rfl) rfl)) (RowIs.cons (at_of_get (hold 50 _ (by kernel_rfl) rfl)) (RowIs.cons (at_of_get (hold 51 _ (by kernel_rfl) rfl)) (RowIs.cons (at_of_get (hold 52 _ (by kernel_rfl) rfl)) (RowIs.cons (at_of_get (hold 53 _ (by kernel_rfl) rfl)) (RowIs.cons (at_of_get (hold 54 _ (by kernel_rfl) rfl)) (RowIs.cons (at_of_get (hold 55 _ (by kernel_rfl) rfl)) (RowIs.cons (at_of_get (hold 56 _ (by kernel_rfl) rfl)) (RowIs.cons (at_of_get (hold 57 _ (by kernel_rfl) rfl)) (RowIs.cons (at_of_get (hold 58 _ (by kernel_rfl) rfl)) (RowIs.cons (at_of_get (hold 59 _ (by kernel_rfl) rfl)) (RowIs.cons (at_of_get (hold 60 _ (by kernel_rfl) rfl)) (RowIs.cons (at_of_get (hold 61 _ (by kernel_rfl) rfl)) (RowIs.cons (at_of_get (hold 62 _ (by kernel_rfl) rfl)) (RowIs.cons (at_of_get (hold 63 _ (by kernel_rfl) rfl)) (RowIs.cons (at_of_get (hold 64 _ (by kernel_rfl) rfl)) (RowIs.cons (at_of_get (hold 65 _ (by kernel_rfl) rfl)) (RowIs.cons (at_of_get (hold 66 _ (by kernel_rfl) rfl)) (RowIs.cons (at_of_get (hold 67 _ (by kernel_rfl) rfl)) (RowIs.cons (at_of_get (hold 68 _ (by kernel_rfl) rfl)) (RowIs.cons (at_of_get (hold 69 _ (by kernel_rfl) rfl)) (RowIs.cons (at_of_get (hold 70 _ (by kernel_rfl) rfl)) (RowIs.cons (at_of_get (hold 71 _ (by kernel_rfl) rfl)) (RowIs.cons (at_of_get (hold 72 _ (by kernel_rfl) rfl)) (RowIs.cons (at_of_get (hold 73 _ (by kernel_rfl) rfl)) (RowIs.cons (at_of_get (hold 74 _ (by kernel_rfl) rfl)) (RowIs.cons (at_of_get (hold 75 _ (by kernel_rfl) rfl)) (RowIs.cons (at_of_get (hold 76 _ (by kernel_rfl) rfl)) (RowIs.cons (at_of_get (hold 77 _ (by kernel_rfl) rfl)) (RowIs.cons (at_of_get (hold 78 _ (by kernel_rfl) rfl)) (RowIs.cons (at_of_get (hold 79 _ (by kernel_rfl) rfl)) (RowIs.cons (at_of_get (hold 80 _ (by kernel_rfl) rfl)) (RowIs.cons (at_of_get (hold 81 _ (by kernel_rfl) rfl)) (RowIs.cons (at_of_get (hold 82 _ (by kernel_rfl) rfl)) (RowIs.cons (at_of_get (hold 83 _ (by kernel_rfl) rfl)) (RowIs.cons (at_of_get (hold 84 _ (by kernel_rfl) rfl)) (RowIs.cons (at_of_get (hold 85 _ (by kernel_rfl) rfl)) (RowIs.cons (at_of_get (hold 86 _ (by kernel_rfl) rfl)) (RowIs.cons (at_of_get (hold 87 _ (by kernel_rfl) rfl)) (RowIs.cons (at_of_get (hold 88 _ (by kernel_rfl) rfl)) (RowIs.cons (at_of_get (hold 89 _ (by kernel_rfl) rfl)) (RowIs.cons (at_of_get (hold 90 _ (by kernel_rfl) rfl)) (RowIs.cons (at_of_get (hold 91 _ (by kernel_rfl) rfl)) (RowIs.cons (at_of_get (hold 92 _ (by kernel_rfl) rfl)) (RowIs.cons (at_of_get (hold 93 _ (by kernel_rfl) rfl)) (RowIs.cons (at_of_get (hold 94 _ (by kernel_rfl) rfl)) (RowIs.cons (at_of_get (hold 95 _ (by kernel_rfl) rfl)) (RowIs.cons (at_of_get (hold 96 _ (by kernel_rfl) rfl)) (RowIs.cons (at_of_get (hold 97 _ (by kernel_rfl) rfl)) (RowIs.cons (at_of_get (hold 98 _ (by kernel_rfl) rfl)) (RowIs.cons (at_of_get (hold 99 _ (by kernel_rfl) rfl)) (RowIs.cons (at_of_get (hold 100 _ (by kernel_rfl) rfl)) (RowIs.cons (at_of_get (hold 101 _ (by kernel_rfl) rfl)) (RowIs.cons (at_of_get (hold 102 _ (by kernel_rfl) rfl)) (RowIs.cons (at_of_get (hold 103 _ (by kernel_rfl) rfl)) (RowIs.cons (at_of_get (hold 104 _ (by kernel_rfl) rfl)) (RowIs.cons (at_of_get (hold 105 _ (by kernel_rfl) rfl)) (RowIs.cons (at_of_get (hold 106 _ (by kernel_rfl) rfl)) (RowIs.cons (at_of_get (hold 107 _ (by kernel_rfl) rfl)) (RowIs.cons (at_of_get (hold 108 _ (by kernel_rfl) rfl)) (RowIs.cons (at_of_get (hold 109 _ (by kernel_rfl) rfl)) (RowIs.cons (at_of_get (hold 110 _ (by kernel_rfl) rfl)) (RowIs.cons (at_of_get (hold 111 _ (by kernel_rfl) rfl)) (RowIs.cons (at_of_get (hold 112 _ (by kernel_rfl) rfl)) (RowIs.cons (at_of_get (hold 113 _ (by kernel_rfl) rfl)) (RowIs.cons (at_of_get (hold 114 _ (by kernel_rfl) rfl)) (RowIs.cons (at_of_get (hold 115 _ (by kernel_rfl) rfl)) (RowIs.cons (at_of_get (hold 116 _ (by kernel_rfl) rfl)) (RowIs.cons (at_of_get (hold 117 _ (by kernel_rfl) rfl)) (RowIs.cons (at_of_get (hold 118 _ (by kernel_rfl) rfl)) (RowIs.cons (at_of_get (hold 119 _ (by kernel_rfl) rfl)) (RowIs.cons (at_of_get (hold 120 _ (by kernel_rfl) rfl)) (RowIs.cons (at_of_get (hold 121 _ (by kernel_rfl) rfl)) (RowIs.cons (at_of_get (hold 122 _ (by kernel_rfl) rfl)) (RowIs.cons (at_of_get (hold 123 _ (by kernel_rfl) rfl)) (RowIs.cons (at_of_get (hold 124 _ (by kernel_rfl) rfl)) (RowIs.cons (at_of_get (hold 125 _ (by kernel_rfl) rfl)) (RowIs.cons (at_of_get (hold 126 _ (by kernel_rfl) rfl)) (RowIs.cons (at_of_get (hold 127 _ (by kernel_rfl) rfl)) (RowIs.cons (at_of_get (hold 128 _ (by kernel_rfl) rfl)) (RowIs.cons (at_of_get (hold 129 _ (by kernel_rfl) rfl)) (RowIs.cons (at_of_get (hold 130 _ (by kernel_rfl) rfl)) (RowIs.cons (at_of_get (hold 131 _ (by kernel_rfl) rfl)) (RowIs.cons (at_of_get (hold 132 _ (by kernel_rfl) rfl)) (RowIs.cons (at_of_get (hold 133 _ (by kernel_rfl) rfl)) (RowIs.cons (at_of_get (hold 134 _ (by kernel_rfl) rfl)) (RowIs.cons (at_of_get (hold 135 _ (by kernel_rfl) rfl)) (RowIs.cons (at_of_get (hold 136 _ (by kernel_rfl) rfl)) (RowIs.cons (at_of_get (hold 137 _ (by kernel_rfl) rfl)) (RowIs.cons (at_of_get (hold 138 _ (by kernel_rfl) rfl)) (RowIs.cons (at_of_get (hold 139 _ (by kernel_rfl) rfl)) (RowIs.cons (at_of_get (hold 140 _ (by kernel_rfl) rfl)) (RowIs.cons (at_of_get (hold 141 _ (by kernel_rfl) rfl)) (RowIs.cons (at_of_get (hold 142 _ (by kernel_rfl) rfl)) (RowIs.cons (at_of_get (hold 143 _ (by kernel_rfl) rfl)) (RowIs.cons (hvals 4 144 rfl) (RowIs.cons (hvals 0 145 rfl) (RowIs.cons (hvals 1 146 rfl) (RowIs.cons hv147 (RowIs.cons (hvals 3 148 rfl) (RowIs.cons (hvals 5 149 rfl) (RowIs.cons (hvals 6 150 rfl) (RowIs.cons (at_of_get (hold 151 _ (by kernel_rfl) rfl)) (RowIs.cons (at_of_get (hold 152 _ (by kernel_rfl) rfl)) (RowIs.cons (at_of_get (hold 153 _ (by kernel_rfl) rfl)) (RowIs.cons (at_of_get (hold 154 _ (by kernel_rfl) rfl)) (RowIs.cons (at_of_get (hold 155 _ (by kernel_rfl) rfl)) (RowIs.cons (at_of_get (hold 156 _ (by kernel_rfl) rfl)) (RowIs.cons (at_of_get (hold 157 _ (by kernel_rfl) rfl)) (RowIs.cons (at_of_get (hold 158 _ (by kernel_rfl) rfl)) (RowIs.cons (at_of_get (hold 159 _ (by kernel_rfl) rfl)) (RowIs.cons (at_of_get (hold 160 _ (by kernel_rfl) rfl)) (RowIs.cons (at_of_get (hold 161 _ (by kernel_rfl) rfl)) (RowIs.cons (at_of_get (hold 162 _ (by kernel_rfl) rfl)) (RowIs.cons (at_of_get (hold 163 _ (by kernel_rfl) rfl)) (RowIs.cons (at_of_get (hold 164 _ (by kernel_rfl) rfl)) (RowIs.cons (at_of_get (hold 165 _ (by kernel_rfl) rfl)) (RowIs.cons (at_of_get (hold 166 _ (by kernel_rfl) rfl)) (RowIs.cons (at_of_get (hold 167 _ (by kernel_rfl) rfl)) (RowIs.cons (at_of_get (hold 168 _ (by kernel_rfl) rfl)) (RowIs.cons (at_of_get (hold 169 _ (by kernel_rfl) rfl)) (RowIs.cons (at_of_get (hold 170 _ (by kernel_rfl) rfl)) (RowIs.cons (at_of_get (hold 171 _ (by kernel_rfl) rfl)) (RowIs.cons (at_of_get (hold 172 _ (by kernel_rfl) rfl)) (RowIs.cons (at_of_get (hold 173 _ (by kernel_rfl) rfl)) (RowIs.cons (at_of_get (hold 174 _ (by kernel_rfl) rfl)) (RowIs.cons (at_of_get (hold 175 _ (by kernel_rfl) rfl)) (RowIs.cons (at_of_get (hold 176 _ (by kernel_rfl) rfl)) (RowIs.cons (at_of_get (hold 177 _ (by kernel_rfl) rfl)) (RowIs.cons (at_of_get (hold 178 _ (by kernel_rfl) rfl)) (RowIs.cons (at_of_get (hold 179 _ (by kernel_rfl) rfl)) (RowIs.cons (at_of_get (hold 180 _ (by kernel_rfl) rfl)) (RowIs.cons (at_of_get (hold 181 _ (by kernel_rfl) rfl)) (RowIs.cons (at_of_get (hold 182 _ (by kernel_rfl) rfl)) (RowIs.cons (at_of_get (hold 183 _ (by kernel_rfl) rfl)) (RowIs.cons (at_of_get (hold 184 _ (by kernel_rfl) rfl)) (RowIs.cons (at_of_get (hold 185 _ (by kernel_rfl) rfl)) (RowIs.cons (at_of_get (hold 186 _ (by kernel_rfl) rfl)) (RowIs.cons (at_of_get (hold 187 _ (by kernel_rfl) rfl)) (RowIs.cons (at_of_get (hold 188 _ (by kernel_rfl) rfl)) (RowIs.cons (at_of_get (hold 189 _ (by kernel_rfl) rfl)) (RowIs.cons (at_of_get (hold 190 _ (by kernel_rfl) rfl)) (RowIs.cons (at_of_get (hold 191 _ (by kernel_rfl) rfl)) (RowIs.cons (at_of_get (hold 192 _ (by kernel_rfl) rfl)) (RowIs.cons (at_of_get (hold 193 _ (by kernel_rfl) rfl)) (RowIs.cons (at_of_get (hold 194 _ (by kernel_rfl) rfl)) (RowIs.cons (at_of_get (hold 195 _ (by kernel_rfl) rfl)) (RowIs.cons (at_of_get (hold 196 _ (by kernel_rfl) rfl)) (RowIs.cons (at_of_get (hold 197 _ (by kernel_rfl) rfl)) (RowIs.cons (at_of_get (hold 198 _ (by kernel_rfl) rfl)) (RowIs.cons (at_of_get (hold 199 _ (by kernel_rfl) rfl)) (RowIs.cons (at_of_get (hold 200 _ (by kernel_rfl) rfl)) (RowIs.cons (at_of_get (hold 201 _ (by kernel_rfl) rfl)) (RowIs.cons (at_of_get (hold 202 _ (by kernel_rfl) rfl)) (RowIs.cons (at_of_get (hold 203 _ (by kernel_rfl) rfl)) (RowIs.cons (at_of_get (hold 204 _ (by kernel_rfl) rfl)) (RowIs.cons (at_of_get (hold 205 _ (by kernel_rfl) rfl)) (RowIs.cons (at_of_get (hold 206 _ (by kernel_rfl) rfl)) (RowIs.cons (at_of_get (hold 207 _ (by kernel_rfl) rfl)) (RowIs.cons (at_of_get (hold 208 _ (by kernel_rfl) rfl)) (RowIs.cons (at_of_get (hold 209 _ (by kernel_rfl) rfl)) (RowIs.cons (at_of_get (hold 210 _ (by kernel_rfl) rfl)) (RowIs.cons (at_of_get (hold 211 _ (by kernel_rfl) rfl)) (RowIs.cons (at_of_get (hold 212 _ (by kernel_rfl) rfl)) (RowIs.cons (at_of_get (hold 213 _ (by kernel_rfl) rfl)) (RowIs.cons (at_of_get (hold 214 _ (by kernel_rfl) rfl)) (RowIs.cons (at_of_get (hold 215 _ (by kernel_rfl) rfl)) (RowIs.cons (at_of_get (hold 216 _ (by kernel_rfl) rfl)) (RowIs.cons (at_of_get (hold 217 _ (by kernel_rfl) rfl)) (RowIs.cons (at_of_get (hold 218 _ (by kernel_rfl) rfl)) (RowIs.cons (at_of_get (hold 219 _ (by kernel_rfl) rfl)) (RowIs.cons (at_of_get (hold 220 _ (by kernel_rfl) rfl)) (RowIs.cons (at_of_get (hold 221 _ (by kernel_rfl) rfl)) (RowIs.cons (at_of_get (hold 222 _ (by kernel_rfl) rfl)) (RowIs.cons (at_of_get (hold 223 _ (by kernel_rfl) rfl)) (RowIs.cons (at_of_get (hold 224 _ (by kernel_rfl) rfl)) (RowIs.cons (at_of_get (hold 225 _ (by kernel_rfl) rfl)) (RowIs.cons (at_of_get (hold 226 _ (by kernel_rfl) rfl)) (RowIs.cons (at_of_get (hold 227 _ (by kernel_rfl) rfl)) (RowIs.cons (at_of_get (hold 228 _ (by kernel_rfl) rfl)) (RowIs.cons (at_of_get (hold 229 _ (by kernel_rfl) rfl)) (RowIs.cons (at_of_get (hold 230 _ (by kernel_rfl) rfl)) (RowIs.cons (at_of_get (hold 231 _ (by kernel_rfl) rfl)) (RowIs.cons (at_of_get (hold 232 _ (by kernel_rfl) rfl)) (RowIs.cons (at_of_get (hold 233 _ (by kernel_rfl) rfl)) (RowIs.cons (at_of_get (hold 234 _ (by kernel_rfl) rfl)) (RowIs.cons (at_of_get (hold 235 _ (by kernel_rfl) rfl)) (RowIs.cons (at_of_get (hold 236 _ (by kernel_rfl) rfl)) (RowIs.cons (at_of_get (hold 237 _ (by kernel_rfl) rfl)) (RowIs.cons (at_of_get (hold 238 _ (by kernel_rfl) rfl)) (RowIs.cons (at_of_get (hold 239 _ (by kernel_rfl) rfl)) (RowIs.cons (at_of_get (hold 240 _ (by kernel_rfl) rfl)) (RowIs.cons (at_of_get (hold 241 _ (by kernel_rfl) rfl)) (RowIs.cons (at_of_get (hold 242 _ (by kernel_rfl) rfl)) (RowIs.cons (at_of_get (hold 243 _ (by kernel_rfl) rfl)) (RowIs.cons (at_of_get (hold 244 _ (by kernel_rfl) rfl)) (RowIs.nil _ _)))))))))))))))))))))))))))))))))))))))))))))))))))))))))))))))))))))))))))))))))))))))))))))))))))))))))))))))))))))))))))))))))))))))))))))))))))))))))))))))))))))))))))))))))))))))))))))))))))))))))))))))))))))))))))))))))))))))))))))))))))))) rfl
          clear hsz hdf hold hvals
          subst ha
          try simp only [List.getElem_toArray, List.getElem_cons_succ, List.getElem_cons_zero]
          obtain ⟨W20, rfl⟩ : ∃ W20, W20 = w' := ⟨_, rfl⟩
          have v20 := v19.trans_nil hS
          have aS2 := aS.upd_nil hS
          clear hK19 hS aS hm2 hsb
          go_upto_region 21 with (first
            | (go_at_call 14; refine (hko W20 p1 c1 aS2 lS).mono ?_; rintro e W21 ⟨p2, c2, rfl, aZ, u21⟩)
            | (refine wpList_load_row rfl _ _ rfl b1 rfl _ (row32 G9).toArray _ _ (hKr W20 v20) Try.underlying23 rfl (infoK _) ?_))
          have v21 := v20.trans_nil u21
          have hK21 := fun (W : World) (u : Upd [] W21 W) => hKr W (v21.trans_nil u)
          clear hko aS2 lS u21
          refine wp_region_spec [(.eq (.agg (row32 G9).toArray)), (.eq (.agg #[.int .i64 0, .int .i64 0, .int .i64 0])), (.sl 65553 65553 Zu 5), (.eq (.tuple #[.slice none 0 0, .int .i64 5])), (.eq (.tuple #[.slice none 0 0, .int .i64 5])), (.eq (.slice none 0 0)), (.eq (.int .i64 5)), (.eq (.slice none 0 0)), (.eq (.int .i64 5))] (by kernel_rfl) (by kernel_rfl) rfl ?step ?fin
          case step =>
            intro i o ho a w' hS hold hneed K' hK
            match i, ho with
            | 0, ho =>
              obtain rfl := Option.some.inj ho
              have d1 := hold 1 _ (by kernel_rfl) rfl
              clear hold hneed ho
              (rw [if_pos (by simp [Region.wanted, yielded, *])]; exact wp_load_row 23 (.tmp 1) rfl b1 (by simp [Act.eval, *]) 23 _ (0, 0) _ (hK21 _ hS) Try.underlying23 rfl (infoK _) (hK _ _ rfl (Upd.refl [] _)))
            | 1, ho =>
              obtain rfl := Option.some.inj ho
              clear hold hneed ho
              (go_simp; exact hK _ _ rfl (Upd.refl [] _))
            | 2, ho =>
              obtain rfl := Option.some.inj ho
              clear hold hneed ho
              (go_simp; exact hK _ _ ⟨_, rfl, Blk.new _ _ _⟩ ((Upd.refl [] _).alloc _))
            | 3, ho =>
              obtain rfl := Option.some.inj ho
              have d159 := get_of_at (hneed 0 (of_decide_eq_true (by kernel_rfl)) 159 rfl) (by simp [undef])
              have d160 := get_of_at (hneed 1 (of_decide_eq_true (by kernel_rfl)) 160 rfl) (by simp [undef])
              obtain ⟨b161, e161, hB161⟩ := hneed 2 (of_decide_eq_true (by kernel_rfl)) 161 rfl
              have d161 := get_of_at e161 (by simp [undef])
              clear hold hneed ho
              (go_simp; refine (hob _ _).mono ?_; rintro e w3 ⟨rfl, hu3⟩; exact hK _ _ rfl hu3)
            | 4, ho =>
              obtain rfl := Option.some.inj ho
              have d162 := get_of_at (hneed 3 (of_decide_eq_true (by kernel_rfl)) 162 rfl) (by simp [undef])
              clear hold hneed ho
              (go_simp; exact hK _ _ rfl (Upd.refl [] _))
            | 5, ho =>
              obtain rfl := Option.some.inj ho
              have d158 := get_of_at (hneed 4 (of_decide_eq_true (by kernel_rfl)) 158 rfl) (by simp [undef])
              clear hold hneed ho
              (go_simp; exact hK _ _ rfl (Upd.refl [] _))
            | 6, ho =>
              obtain rfl := Option.some.inj ho
              have d158 := get_of_at (hneed 4 (of_decide_eq_true (by kernel_rfl)) 158 rfl) (by simp [undef])
              clear hold hneed ho
              (go_simp; exact hK _ _ rfl (Upd.refl [] _))
            | 7, ho =>
              obtain rfl := Option.some.inj ho
              have d163 := get_of_at (hneed 5 (of_decide_eq_true (by kernel_rfl)) 163 rfl) (by simp [undef])
              clear hold hneed ho
              (go_simp; exact hK _ _ rfl (Upd.refl [] _))
            | 8, ho =>
              obtain rfl := Option.some.inj ho
              have d164 := get_of_at (hneed 6 (of_decide_eq_true (by kernel_rfl)) 164 rfl) (by simp [undef])
              clear hold hneed ho
              (go_simp; exact hK _ _ rfl (Upd.refl [] _))
            | _ + 9, ho => exact absurd ho (by simp)
          case fin =>
            intro a w' hS hsz hdf hold hvals
            obtain ⟨b161, hv161, hB161⟩ := hvals 2 161 rfl
            have ha := act_lit hsz hdf (RowIs.cons (at_of_get (hold 0 _ (by kernel_rfl) rfl)) (RowIs.cons (at_of_get (hold 1 _ (by kernel_rfl) rfl)) (RowIs.cons (at_of_get (hold 2 _ (by kernel_rfl) rfl)) (RowIs.cons (at_of_get (hold 3 _ (by kernel_rfl) rfl)) (RowIs.cons (at_of_get (hold 4 _ (by kernel_rfl) rfl)) (RowIs.cons (at_of_get (hold 5 _ (by kernel_rfl) rfl)) (RowIs.cons (at_of_get (hold 6 _ (by kernel_rfl) rfl)) (RowIs.cons (at_of_get (hold 7 _ (by kernel_rfl) rfl)) (RowIs.cons (at_of_get (hold 8 _ (by kernel_rfl) rfl)) (RowIs.cons (at_of_get (hold 9 _ (by kernel_rfl) rfl)) (RowIs.cons (at_of_get (hold 10 _ (by kernel_rfl) rfl)) (RowIs.cons (at_of_get (hold 11 _ (by kernel_rfl) rfl)) (RowIs.cons (at_of_get (hold 12 _ (by kernel_rfl) rfl)) (RowIs.cons (at_of_get (hold 13 _ (by kernel_rfl) rfl)) (RowIs.cons (at_of_get (hold 14 _ (by kernel_rfl) rfl)) (RowIs.cons (at_of_get (hold 15 _ (by kernel_rfl) rfl)) (RowIs.cons (at_of_get (hold 16 _ (by kernel_rfl) rfl)) (RowIs.cons (at_of_get (hold 17 _ (by kernel_rfl) rfl)) (RowIs.cons (at_of_get (hold 18 _ (by kernel_rfl) rfl)) (RowIs.cons (at_of_get (hold 19 _ (by kernel_rfl) rfl)) (RowIs.cons (at_of_get (hold 20 _ (by kernel_rfl) rfl)) (RowIs.cons (at_of_get (hold 21 _ (by kernel_rfl) rfl)) (RowIs.cons (at_of_get (hold 22 _ (by kernel_rfl) rfl)) (RowIs.cons (at_of_get (hold 23 _ (by kernel_rfl) rfl)) (RowIs.cons (at_of_get (hold 24 _ (by kernel_rfl) rfl)) (RowIs.cons (at_of_get (hold 25 _ (by kernel_rfl) rfl)) (RowIs.cons (at_of_get (hold 26 _ (by kernel_rfl) rfl)) (RowIs.cons (at_of_get (hold 27 _ (by kernel_rfl) rfl)) (RowIs.cons (at_of_get (hold 28 _ (by kernel_rfl) rfl)) (RowIs.cons (hvals 7 29 rfl) (RowIs.cons (hvals 8 30 rfl) (RowIs.cons (at_of_get (hold 31 _ (by kernel_rfl) rfl)) (RowIs.cons (at_of_get (hold 32 _ (by kernel_rfl) rfl)) (RowIs.cons (at_of_get (hold 33 _ (by kernel_rfl) rfl)) (RowIs.cons (at_of_get (hold 34 _ (by kernel_rfl) rfl)) (RowIs.cons (at_of_get (hold 35 _ (by kernel_rfl) rfl)) (RowIs.cons (at_of_get (hold 36 _ (by kernel_rfl) rfl)) (RowIs.cons (at_of_get (hold 37 _ (by kernel_rfl) rfl)) (RowIs.cons (at_of_get (hold 38 _ (by kernel_rfl) rfl)) (RowIs.cons (at_of_get (hold 39 _ (by kernel_rfl) rfl)) (RowIs.cons (at_of_get (hold 40 _ (by kernel_rfl) rfl)) (RowIs.cons (at_of_get (hold 41 _ (by kernel_rfl) rfl)) (RowIs.cons (at_of_get (hold 42 _ (by kernel_rfl) rfl)) (RowIs.cons (at_of_get (hold 43 _ (by kernel_rfl) rfl)) (RowIs.cons (at_of_get (hold 44 _ (by kernel_rfl) rfl)) (RowIs.cons (at_of_get (hold 45 _ (by kernel_rfl) rfl)) (RowIs.cons (at_of_get (hold 46 _ (by kernel_rfl) rfl)) (RowIs.cons (at_of_get (hold 47 _ (by kernel_rfl) rfl)) (RowIs.cons (at_of_get (hold 48 _ (by kernel_rfl) rfl)) (RowIs.cons (at_of_get (hold 49 _ (by kernel_rfl) rfl)) (RowIs.cons (at_of_get (hold 50 _ (by kernel_rfl) rfl)) (RowIs.cons (at_of_get (hold 51 _ (by kernel_rfl) rfl)) (RowIs.cons (at_of_get (hold 52 _ (by kernel_rfl) rfl)) (RowIs.cons (at_of_get (hold 53 _ (by kernel_rfl) rfl)) (RowIs.cons (at_of_get (hold 54 _ (by kernel_rfl) rfl)) (RowIs.cons (at_of_get (hold 55 _ (by kernel_rfl) rfl)) (RowIs.cons (at_of_get (hold 56 _ (by kernel_rfl) rfl)) (RowIs.cons (at_of_get (hold 57 _ (by kernel_rfl) rfl)) (RowIs.cons (at_of_get (hold 58 _ (by kernel_rfl) rfl)) (RowIs.cons (at_of_get (hold 59 _ (by kernel_rfl) rfl)) (RowIs.cons (at_of_get (hold 60 _ (by kernel_rfl) rfl)) (RowIs.cons (at_of_get (hold 61 _ (by kernel_rfl) rfl)) (RowIs.cons (at_of_get (hold 62 _ (by kernel_rfl) rfl)) (RowIs.cons (at_of_get (hold 63 _ (by kernel_rfl) rfl)) (RowIs.cons (at_of_get (hold 64 _ (by kernel_rfl) rfl)) (RowIs.cons (at_of_get (hold 65 _ (by kernel_rfl) rfl)) (RowIs.cons (at_of_get (hold 66 _ (by kernel_rfl) rfl)) (RowIs.cons (at_of_get (hold 67 _ (by kernel_rfl) rfl)) (RowIs.cons (at_of_get (hold 68 _ (by kernel_rfl) rfl)) (RowIs.cons (at_of_get (hold 69 _ (by kernel_rfl) rfl)) (RowIs.cons (at_of_get (hold 70 _ (by kernel_rfl) rfl)) (RowIs.cons (at_of_get (hold 71 _ (by kernel_rfl) rfl)) (RowIs.cons (at_of_get (hold 72 _ (by kernel_rfl) rfl)) (RowIs.cons (at_of_get (hold 73 _ (by kernel_rfl) rfl)) (RowIs.cons (at_of_get (hold 74 _ (by kernel_rfl) rfl)) (RowIs.cons (at_of_get (hold 75 _ (by kernel_rfl) rfl)) (RowIs.cons (at_of_get (hold 76 _ (by kernel_rfl) rfl)) (RowIs.cons (at_of_get (hold 77 _ (by kernel_rfl) rfl)) (RowIs.cons (at_of_get (hold 78 _ (by kernel_rfl) rfl)) (RowIs.cons (at_of_get (hold 79 _ (by kernel_rfl) rfl)) (RowIs.cons (at_of_get (hold 80 _ (by kernel_rfl) rfl)) (RowIs.cons (at_of_get (hold 81 _ (by kernel_rfl) rfl)) (RowIs.cons (at_of_get (hold 82 _ (by kernel_rfl) rfl)) (RowIs.cons (at_of_get (hold 83 _ (by kernel_rfl) rfl)) (RowIs.cons (at_of_get (hold 84 _ (by kernel_rfl) rfl)) (RowIs.cons (at_of_get (hold 85 _ (by kernel_rfl) rfl)) (RowIs.cons (at_of_get (hold 86 _ (by kernel_rfl) rfl)) (RowIs.cons (at_of_get (hold 87 _ (by kernel_rfl) rfl)) (RowIs.cons (at_of_get (hold 88 _ (by kernel_rfl) rfl)) (RowIs.cons (at_of_get (hold 89 _ (by kernel_rfl) rfl)) (RowIs.cons (at_of_get (hold 90 _ (by kernel_rfl) rfl)) (RowIs.cons (at_of_get (hold 91 _ (by kernel_rfl) rfl)) (RowIs.cons (at_of_get (hold 92 _ (by kernel_rfl) rfl)) (RowIs.cons (at_of_get (hold 93 _ (by kernel_rfl) rfl)) (RowIs.cons (at_of_get (hold 94 _ (by kernel_rfl) rfl)) (RowIs.cons (at_of_get (hold 95 _ (by kernel_rfl) rfl)) (RowIs.cons (at_of_get (hold 96 _ (by kernel_rfl) rfl)) (RowIs.cons (at_of_get (hold 97 _ (by kernel_rfl) rfl)) (RowIs.cons (at_of_get (hold 98 _ (by kernel_rfl) rfl)) (RowIs.cons (at_of_get (hold 99 _ (by kernel_rfl) rfl)) (RowIs.cons (at_of_get (hold 100 _ (by kernel_rfl) rfl)) (RowIs.cons (at_of_get (hold 101 _ (by kernel_rfl) rfl)) (RowIs.cons (at_of_get (hold 102 _ (by kernel_rfl) rfl)) (RowIs.cons (at_of_get (hold 103 _ (by kernel_rfl) rfl)) (RowIs.cons (at_of_get (hold 104 _ (by kernel_rfl) rfl)) (RowIs.cons (at_of_get (hold 105 _ (by kernel_rfl) rfl)) (RowIs.cons (at_of_get (hold 106 _ (by kernel_rfl) rfl)) (RowIs.cons (at_of_get (hold 107 _ (by kernel_rfl) rfl)) (RowIs.cons (at_of_get (hold 108 _ (by kernel_rfl) rfl)) (RowIs.cons (at_of_get (hold 109 _ (by kernel_rfl) rfl)) (RowIs.cons (at_of_get (hold 110 _ (by kernel_rfl) rfl)) (RowIs.cons (at_of_get (hold 111 _ (by kernel_rfl) rfl)) (RowIs.cons (at_of_get (hold 112 _ (by kernel_rfl) rfl)) (RowIs.cons (at_of_get (hold 113 _ (by kernel_rfl) rfl)) (RowIs.cons (at_of_get (hold 114 _ (by kernel_rfl) rfl)) (RowIs.cons (at_of_get (hold 115 _ (by kernel_rfl) rfl)) (RowIs.cons (at_of_get (hold 116 _ (by kernel_rfl) rfl)) (RowIs.cons (at_of_get (hold 117 _ (by kernel_rfl) rfl)) (RowIs.cons (at_of_get (hold 118 _ (by kernel_rfl) rfl)) (RowIs.cons (at_of_get (hold 119 _ (by kernel_rfl) rfl)) (RowIs.cons (at_of_get (hold 120 _ (by kernel_rfl) rfl)) (RowIs.cons (at_of_get (hold 121 _ (by kernel_rfl) rfl)) (RowIs.cons (at_of_get (hold 122 _ (by kernel_rfl) rfl)) (RowIs.cons (at_of_get (hold 123 _ (by kernel_rfl) rfl)) (RowIs.cons (at_of_get (hold 124 _ (by kernel_rfl) rfl)) (RowIs.cons (at_of_get (hold 125 _ (by kernel_rfl) rfl)) (RowIs.cons (at_of_get (hold 126 _ (by kernel_rfl) rfl)) (RowIs.cons (at_of_get (hold 127 _ (by kernel_rfl) rfl)) (RowIs.cons (at_of_get (hold 128 _ (by kernel_rfl) rfl)) (RowIs.cons (at_of_get (hold 129 _ (by kernel_rfl) rfl)) (RowIs.cons (at_of_get (hold 130 _ (by kernel_rfl) rfl)) (RowIs.cons (at_of_get (hold 131 _ (by kernel_rfl) rfl)) (RowIs.cons (at_of_get (hold 132 _ (by kernel_rfl) rfl)) (RowIs.cons (at_of_get (hold 133 _ (by kernel_rfl) rfl)) (RowIs.cons (at_of_get (hold 134 _ (by kernel_rfl) rfl)) (RowIs.cons (at_of_get (hold 135 _ (by kernel_rfl) rfl)) (RowIs.cons (at_of_get (hold 136 _ (by kernel_rfl) rfl)) (RowIs.cons (at_of_get (hold 137 _ (by kernel_rfl) rfl)) (RowIs.cons (at_of_get (hold 138 _ (by kernel_rfl) rfl)) (RowIs.cons (at_of_get (hold 139 _ (by kernel_rfl) rfl)) (RowIs.cons (at_of_get (hold 140 _ (by kernel_rfl) rfl)) (RowIs.cons (at_of_get (hold 141 _ (by kernel_rfl) rfl)) (RowIs.cons (at_of_get (hold 142 _ (by kernel_rfl) rfl)) (RowIs.cons (at_of_get (hold 143 _ (by kernel_rfl) rfl)) (RowIs.cons (at_of_get (hold 144 _ (by kernel_rfl) rfl)) (RowIs.cons (at_of_get (hold 145 _ (by kernel_rfl) rfl)) (RowIs.cons (at_of_get (hold 146 _ (by kernel_rfl) rfl)) (RowIs.cons (at_of_get (hold 147 _ (by kernel_rfl) rfl)) (RowIs.cons (at_of_get (hold 148 _ (by kernel_rfl) rfl)) (RowIs.cons (at_of_get (hold 149 _ (by kernel_rfl) rfl)) (RowIs.cons (at_of_get (hold 150 _ (by kernel_rfl) rfl)) (RowIs.cons (at_of_get (hold 151 _ (by kernel_rfl) rfl)) (RowIs.cons (at_of_get (hold 152 _ (by kernel_rfl) rfl)) (RowIs.cons (at_of_get (hold 153 _ (by kernel_rfl) rfl)) (RowIs.cons (at_of_get (hold 154 _ (by kernel_rfl) rfl)) (RowIs.cons (at_of_get (hold 155 _ (by kernel_rfl) rfl)) (RowIs.cons (at_of_get (hold 156 _ (by kernel_rfl) rfl)) (RowIs.cons (at_of_get (hold 157 _ (by kernel_rfl) rfl)) (RowIs.cons (hvals 4 158 rfl) (RowIs.cons (hvals 0 159 rfl) (RowIs.cons (hvals 1 160 rfl) (RowIs.cons hv161 (RowIs.cons (hvals 3 162 rfl) (RowIs.cons (hvals 5 163 rfl) (RowIs.cons (hvals 6 164 rfl) (RowIs.cons (at_of_get (hold 165 _ (by kernel_rfl) rfl)) (RowIs.cons (at_of_get (hold 166 _ (by kernel_rfl) rfl)) (RowIs.cons (at_of_get (hold 167 _ (by kernel_rfl) rfl)) (RowIs.cons (at_of_get (hold 168 _ (by kernel_rfl) rfl)) (RowIs.cons (at_of_get (hold 169 _ (by kernel_rfl) rfl)) (RowIs.cons (at_of_get (hold 170 _ (by kernel_rfl) rfl)) (RowIs.cons (at_of_get (hold 171 _ (by kernel_rfl) rfl)) (RowIs.cons (at_of_get (hold 172 _ (by kernel_rfl) rfl)) (RowIs.cons (at_of_get (hold 173 _ (by kernel_rfl) rfl)) (RowIs.cons (at_of_get (hold 174 _ (by kernel_rfl) rfl)) (RowIs.cons (at_of_get (hold 175 _ (by kernel_rfl) rfl)) (RowIs.cons (at_of_get (hold 176 _ (by kernel_rfl) rfl)) (RowIs.cons (at_of_get (hold 177 _ (by kernel_rfl) rfl)) (RowIs.cons (at_of_get (hold 178 _ (by kernel_rfl) rfl)) (RowIs.cons (at_of_get (hold 179 _ (by kernel_rfl) rfl)) (RowIs.cons (at_of_get (hold 180 _ (by kernel_rfl) rfl)) (RowIs.cons (at_of_get (hold 181 _ (by kernel_rfl) rfl)) (RowIs.cons (at_of_get (hold 182 _ (by kernel_rfl) rfl)) (RowIs.cons (at_of_get (hold 183 _ (by kernel_rfl) rfl)) (RowIs.cons (at_of_get (hold 184 _ (by kernel_rfl) rfl)) (RowIs.cons (at_of_get (hold 185 _ (by kernel_rfl) rfl)) (RowIs.cons (at_of_get (hold 186 _ (by kernel_rfl) rfl)) (RowIs.cons (at_of_get (hold 187 _ (by kernel_rfl) rfl)) (RowIs.cons (at_of_get (hold 188 _ (by kernel_rfl) rfl)) (RowIs.cons (at_of_get (hold 189 _ (by kernel_rfl) rfl)) (RowIs.cons (at_of_get (hold 190 _ (by kernel_rfl) rfl)) (RowIs.cons (at_of_get (hold 191 _ (by kernel_rfl) rfl)) (RowIs.cons (at_of_get (hold 192 _ (by kernel_rfl) rfl)) (RowIs.cons (at_of_get (hold 193 _ (by kernel_rfl) rfl)) (RowIs.cons (at_of_get (hold 194 _ (by kernel_rfl) rfl)) (RowIs.cons (at_of_get (hold 195 _ (by kernel_rfl) rfl)) (RowIs.cons (at_of_get (hold 196 _ (by kernel_rfl) rfl)) (RowIs.cons (at_of_get (hold 197 _ (by kernel_rfl) rfl)) (RowIs.cons (at_of_get (hold 198 _ (by kernel_rfl) rfl)) (RowIs.cons (at_of_get (hold 199 _ (by kernel_rfl) rfl)) (RowIs.cons (at_of_get (hold 200 _ (by kernel_rfl) rfl)) (RowIs.cons (at_of_get (hold 201 _ (by kernel_rfl) rfl)) (RowIs.cons (at_of_get (hold 202 _ (by kernel_rfl) rfl)) (RowIs.cons (at_of_get (hold 203 _ (by kernel_rfl) rfl)) (RowIs.cons (at_of_get (hold 204 _ (by kernel_rfl) rfl)) (RowIs.cons (at_of_get (hold 205 _ (by kernel_rfl) rfl)) (RowIs.cons (at_of_get (hold 206 _ (by kernel_rfl) rfl)) (RowIs.cons (at_of_get (hold 207 _ (by kernel_rfl) rfl)) (RowIs.cons (at_of_get (hold 208 _ (by kernel_rfl) rfl)) (RowIs.cons (at_of_get (hold 209 _ (by kernel_rfl) rfl)) (RowIs.cons (at_of_get (hold 210 _ (by kernel_rfl) rfl)) (RowIs.cons (at_of_get (hold 211 _ (by kernel_rfl) rfl)) (RowIs.cons (at_of_get (hold 212 _ (by kernel_rfl) rfl)) (RowIs.cons (at_of_get (hold 213 _ (by kernel_rfl) rfl)) (RowIs.cons (at_of_get (hold 214 _ (by kernel_rfl) rfl)) (RowIs.cons (at_of_get (hold 215 _ (by kernel_rfl) rfl)) (RowIs.cons (at_of_get (hold 216 _ (by kernel_rfl) rfl)) (RowIs.cons (at_of_get (hold 217 _ (by kernel_rfl) rfl)) (RowIs.cons (at_of_get (hold 218 _ (by kernel_rfl) rfl)) (RowIs.cons (at_of_get (hold 219 _ (by kernel_rfl) rfl)) (RowIs.cons (at_of_get (hold 220 _ (by kernel_rfl) rfl)) (RowIs.cons (at_of_get (hold 221 _ (by kernel_rfl) rfl)) (RowIs.cons (at_of_get (hold 222 _ (by kernel_rfl) rfl)) (RowIs.cons (at_of_get (hold 223 _ (by kernel_rfl) rfl)) (RowIs.cons (at_of_get (hold 224 _ (by kernel_rfl) rfl)) (RowIs.cons (at_of_get (hold 225 _ (by kernel_rfl) rfl)) (RowIs.cons (at_of_get (hold 226 _ (by kernel_rfl) rfl)) (RowIs.cons (at_of_get (hold 227 _ (by kernel_rfl) rfl)) (RowIs.cons (at_of_get (hold 228 _ (by kernel_rfl) rfl)) (RowIs.cons (at_of_get (hold 229 _ (by kernel_rfl) rfl)) (RowIs.cons (at_of_get (hold 230 _ (by kernel_rfl) rfl)) (RowIs.cons (at_of_get (hold 231 _ (by kernel_rfl) rfl)) (RowIs.cons (at_of_get (hold 232 _ (by kernel_rfl) rfl)) (RowIs.cons (at_of_get (hold 233 _ (by kernel_rfl) rfl)) (RowIs.cons (at_of_get (hold 234 _ (by kernel_rfl) rfl)) (RowIs.cons (at_of_get (hold 235 _ (by kernel_rfl) rfl)) (RowIs.cons (at_of_get (hold 236 _ (by kernel_rfl) rfl)) (RowIs.cons (at_of_get (hold 237 _ (by kernel_rfl) rfl)) (RowIs.cons (at_of_get (hold 238 _ (by kernel_rfl) rfl)) (RowIs.cons (at_of_get (hold 239 _ (by kernel_rfl) rfl)) (RowIs.cons (at_of_get (hold 240 _ (by kernel_rfl) rfl)) (RowIs.cons (at_of_get (hold 241 _ (by kernel_rfl) rfl)) (RowIs.cons (at_of_get (hold 242 _ (by kernel_rfl) rfl)) (RowIs.cons (at_of_get (hold 243 _ (by kernel_rfl) rfl)) (RowIs.cons (at_of_get (hold 244 _ (by kernel_rfl) rfl)) (RowIs.nil _ _)))))))))))))))))))))))))))))))))))))))))))))))))))))))))))))))))))))))))))))))))))))))))))))))))))))))))))))))))))))))))))))))))))))))))))))))))))))))))))))))))))))))))))))))))))))))))))))))))))))))))))))))))))))))))))))))))))))))))))))))))))))) rfl
            clear hsz hdf hold hvals
            subst ha
            try simp only [List.getElem_toArray, List.getElem_cons_succ, List.getElem_cons_zero]
            obtain ⟨W22, rfl⟩ : ∃ W22, W22 = w' := ⟨_, rfl⟩
            have v22 := v21.trans_nil hS
            have hK22 := fun (W : World) (u : Upd [] W22 W) => hKr W (v22.trans_nil u)
            have aZ2 := aZ.upd_nil hS
            clear hK21 hS aZ hm3 hob
            go_upto_region 22 with fail
            refine wp_region_spec [(.eq (.agg (row32 G9).toArray)), (.sl 31 31 Zv 5), (.eq (.tuple #[.slice none 0 0, .int .i64 3])), (.eq (.tuple #[.slice none 0 0, .int .i64 3])), (.eq (.slice none 0 0)), (.eq (.int .i64 3)), (.eq (.slice none 0 0)), (.eq (.int .i64 3))] (by kernel_rfl) (by kernel_rfl) rfl ?step ?fin
            case step =>
              intro i o ho a w' hS hold hneed K' hK
              match i, ho with
              | 0, ho =>
                obtain rfl := Option.some.inj ho
                have d1 := hold 1 _ (by kernel_rfl) rfl
                clear hold hneed ho
                (rw [if_pos (by simp [Region.wanted, yielded, *])]; exact wp_load_row 23 (.tmp 1) rfl b1 (by simp [Act.eval, *]) 23 _ (0, 0) _ (hK22 _ hS) Try.underlying23 rfl (infoK _) (hK _ _ rfl (Upd.refl [] _)))
              | 1, ho =>
                obtain rfl := Option.some.inj ho
                clear hold hneed ho
                (go_simp; exact hK _ _ ⟨_, rfl, Blk.new _ _ _⟩ ((Upd.refl [] _).alloc _))
              | 2, ho =>
                obtain rfl := Option.some.inj ho
                have d166 := get_of_at (hneed 0 (of_decide_eq_true (by kernel_rfl)) 166 rfl) (by simp [undef])
                obtain ⟨b167, e167, hB167⟩ := hneed 1 (of_decide_eq_true (by kernel_rfl)) 167 rfl
                have d167 := get_of_at e167 (by simp [undef])
                clear hold hneed ho
                (go_simp; refine (hsg _ _ hB167).mono ?_; rintro e w3 ⟨rfl, hu3⟩; exact hK _ _ rfl hu3)
              | 3, ho =>
                obtain rfl := Option.some.inj ho
                have d168 := get_of_at (hneed 2 (of_decide_eq_true (by kernel_rfl)) 168 rfl) (by simp [undef])
                clear hold hneed ho
                (go_simp; exact hK _ _ rfl (Upd.refl [] _))
              | 4, ho =>
                obtain rfl := Option.some.inj ho
                have d165 := get_of_at (hneed 3 (of_decide_eq_true (by kernel_rfl)) 165 rfl) (by simp [undef])
                clear hold hneed ho
                (go_simp; exact hK _ _ rfl (Upd.refl [] _))
              | 5, ho =>
                obtain rfl := Option.some.inj ho
                have d165 := get_of_at (hneed 3 (of_decide_eq_true (by kernel_rfl)) 165 rfl) (by simp [undef])
                clear hold hneed ho
                (go_simp; exact hK _ _ rfl (Upd.refl [] _))
              | 6, ho =>
                obtain rfl := Option.some.inj ho
                have d169 := get_of_at (hneed 4 (of_decide_eq_true (by kernel_rfl)) 169 rfl) (by simp [undef])
                clear hold hneed ho
                (go_simp; exact hK _ _ rfl (Upd.refl [] _))
              | 7, ho =>
                obtain rfl := Option.some.inj ho
                have d170 := get_of_at (hneed 5 (of_decide_eq_true (by kernel_rfl)) 170 rfl) (by simp [undef])
                clear hold hneed ho
                (go_simp; exact hK _ _ rfl (Upd.refl [] _))
              | _ + 8, ho => exact absurd ho (by simp)
            case fin =>
              intro a w' hS hsz hdf hold hvals
              obtain ⟨b167, hv167, hB167⟩ := hvals 1 167 rfl
              have ha := act_lit hsz hdf (RowIs.cons (at_of_get (hold 0 _ (by kernel_rfl) rfl)) (RowIs.cons (at_of_get (hold 1 _ (by kernel_rfl) rfl)) (RowIs.cons (at_of_get (hold 2 _ (by kernel_rfl) rfl)) (RowIs.cons (at_of_get (hold 3 _ (by kernel_rfl) rfl)) (RowIs.cons (at_of_get (hold 4 _ (by kernel_rfl) rfl)) (RowIs.cons (at_of_get (hold 5 _ (by kernel_rfl) rfl)) (RowIs.cons (at_of_get (hold 6 _ (by kernel_rfl) rfl)) (RowIs.cons (at_of_get (hold 7 _ (by kernel_rfl) rfl)) (RowIs.cons (at_of_get (hold 8 _ (by kernel_rfl) rfl)) (RowIs.cons (at_of_get (hold 9 _ (by kernel_rfl) rfl)) (RowIs.cons (at_of_get (hold 10 _ (by kernel_rfl) rfl)) (RowIs.cons (at_of_get (hold 11 _ (by kernel_rfl) rfl)) (RowIs.cons (at_of_get (hold 12 _ (by kernel_rfl) rfl)) (RowIs.cons (at_of_get (hold 13 _ (by kernel_rfl) rfl)) (RowIs.cons (at_of_get (hold 14 _ (by kernel_rfl) rfl)) (RowIs.cons (at_of_get (hold 15 _ (by kernel_rfl) rfl)) (RowIs.cons (at_of_get (hold 16 _ (by kernel_rfl) rfl)) (RowIs.cons (at_of_get (hold 17 _ (by kernel_rfl) rfl)) (RowIs.cons (at_of_get (hold 18 _ (by kernel_rfl) rfl)) (RowIs.cons (at_of_get (hold 19 _ (by kernel_rfl) rfl)) (RowIs.cons (at_of_get (hold 20 _ (by kernel_rfl) rfl)) (RowIs.cons (at_of_get (hold 21 _ (by kernel_rfl) rfl)) (RowIs.cons (at_of_get (hold 22 _ (by kernel_rfl) rfl)) (RowIs.cons (at_of_get (hold 23 _ (by kernel_rfl) rfl)) (RowIs.cons (at_of_get (hold 24 _ (by kernel_rfl) rfl)) (RowIs.cons (at_of_get (hold 25 _ (by kernel_rfl) rfl)) (RowIs.cons (at_of_get (hold 26 _ (by kernel_rfl) rfl)) (RowIs.cons (at_of_get (hold 27 _ (by kernel_rfl) rfl)) (RowIs.cons (at_of_get (hold 28 _ (by kernel_rfl) rfl)) (RowIs.cons (at_of_get (hold 29 _ (by kernel_rfl) rfl)) (RowIs.cons (at_of_get (hold 30 _ (by kernel_rfl) rfl)) (RowIs.cons (hvals 6 31 rfl) (RowIs.cons (hvals 7 32 rfl) (RowIs.cons (at_of_get (hold 33 _ (by kernel_rfl) rfl)) (RowIs.cons (at_of_get (hold 34 _ (by kernel_rfl) rfl)) (RowIs.cons (at_of_get (hold 35 _ (by kernel_rfl) rfl)) (RowIs.cons (at_of_get (hold 36 _ (by kernel_rfl) rfl)) (RowIs.cons (at_of_get (hold 37 _ (by kernel_rfl) rfl)) (RowIs.cons (at_of_get (hold 38 _ (by kernel_rfl) rfl)) (RowIs.cons (at_of_get (hold 39 _ (by kernel_rfl) rfl)) (RowIs.cons (at_of_get (hold 40 _ (by kernel_rfl) rfl)) (RowIs.cons (at_of_get (hold 41 _ (by kernel_rfl) rfl)) (RowIs.cons (at_of_get (hold 42 _ (by kernel_rfl) rfl)) (RowIs.cons (at_of_get (hold 43 _ (by kernel_rfl) rfl)) (RowIs.cons (at_of_get (hold 44 _ (by kernel_rfl) rfl)) (RowIs.cons (at_of_get (hold 45 _ (by kernel_rfl) rfl)) (RowIs.cons (at_of_get (hold 46 _ (by kernel_rfl) rfl)) (RowIs.cons (at_of_get (hold 47 _ (by kernel_rfl) rfl)) (RowIs.cons (at_of_get (hold 48 _ (by kernel_rfl) rfl)) (RowIs.cons (at_of_get (hold 49 _ (by kernel_rfl) rfl)) (RowIs.cons (at_of_get (hold 50 _ (by kernel_rfl) rfl)) (RowIs.cons (at_of_get (hold 51 _ (by kernel_rfl) rfl)) (RowIs.cons (at_of_get (hold 52 _ (by kernel_rfl) rfl)) (RowIs.cons (at_of_get (hold 53 _ (by kernel_rfl) rfl)) (RowIs.cons (at_of_get (hold 54 _ (by kernel_rfl) rfl)) (RowIs.cons (at_of_get (hold 55 _ (by kernel_rfl) rfl)) (RowIs.cons (at_of_get (hold 56 _ (by kernel_rfl) rfl)) (RowIs.cons (at_of_get (hold 57 _ (by kernel_rfl) rfl)) (RowIs.cons (at_of_get (hold 58 _ (by kernel_rfl) rfl)) (RowIs.cons (at_of_get (hold 59 _ (by kernel_rfl) rfl)) (RowIs.cons (at_of_get (hold 60 _ (by kernel_rfl) rfl)) (RowIs.cons (at_of_get (hold 61 _ (by kernel_rfl) rfl)) (RowIs.cons (at_of_get (hold 62 _ (by kernel_rfl) rfl)) (RowIs.cons (at_of_get (hold 63 _ (by kernel_rfl) rfl)) (RowIs.cons (at_of_get (hold 64 _ (by kernel_rfl) rfl)) (RowIs.cons (at_of_get (hold 65 _ (by kernel_rfl) rfl)) (RowIs.cons (at_of_get (hold 66 _ (by kernel_rfl) rfl)) (RowIs.cons (at_of_get (hold 67 _ (by kernel_rfl) rfl)) (RowIs.cons (at_of_get (hold 68 _ (by kernel_rfl) rfl)) (RowIs.cons (at_of_get (hold 69 _ (by kernel_rfl) rfl)) (RowIs.cons (at_of_get (hold 70 _ (by kernel_rfl) rfl)) (RowIs.cons (at_of_get (hold 71 _ (by kernel_rfl) rfl)) (RowIs.cons (at_of_get (hold 72 _ (by kernel_rfl) rfl)) (RowIs.cons (at_of_get (hold 73 _ (by kernel_rfl) rfl)) (RowIs.cons (at_of_get (hold 74 _ (by kernel_rfl) rfl)) (RowIs.cons (at_of_get (hold 75 _ (by kernel_rfl) rfl)) (RowIs.cons (at_of_get (hold 76 _ (by kernel_rfl) rfl)) (RowIs.cons (at_of_get (hold 77 _ (by kernel_rfl) rfl)) (RowIs.cons (at_of_get (hold 78 _ (by kernel_rfl) rfl)) (RowIs.cons (at_of_get (hold 79 _ (by kernel_rfl) rfl)) (RowIs.cons (at_of_get (hold 80 _ (by kernel_rfl) rfl)) (RowIs.cons (at_of_get (hold 81 _ (by kernel_rfl) rfl)) (RowIs.cons (at_of_get (hold 82 _ (by kernel_rfl) rfl)) (RowIs.cons (at_of_get (hold 83 _ (by kernel_rfl) rfl)) (RowIs.cons (at_of_get (hold 84 _ (by kernel_rfl) rfl)) (RowIs.cons (at_of_get (hold 85 _ (by kernel_rfl) rfl)) (RowIs.cons (at_of_get (hold 86 _ (by kernel_rfl) rfl)) (RowIs.cons (at_of_get (hold 87 _ (by kernel_rfl) rfl)) (RowIs.cons (at_of_get (hold 88 _ (by kernel_rfl) rfl)) (RowIs.cons (at_of_get (hold 89 _ (by kernel_rfl) rfl)) (RowIs.cons (at_of_get (hold 90 _ (by kernel_rfl) rfl)) (RowIs.cons (at_of_get (hold 91 _ (by kernel_rfl) rfl)) (RowIs.cons (at_of_get (hold 92 _ (by kernel_rfl) rfl)) (RowIs.cons (at_of_get (hold 93 _ (by kernel_rfl) rfl)) (RowIs.cons (at_of_get (hold 94 _ (by kernel_rfl) rfl)) (RowIs.cons (at_of_get (hold 95 _ (by kernel_rfl) rfl)) (RowIs.cons (at_of_get (hold 96 _ (by kernel_rfl) rfl)) (RowIs.cons (at_of_get (hold 97 _ (by kernel_rfl) rfl)) (RowIs.cons (at_of_get (hold 98 _ (by kernel_rfl) rfl)) (RowIs.cons (at_of_get (hold 99 _ (by kernel_rfl) rfl)) (RowIs.cons (at_of_get (hold 100 _ (by kernel_rfl) rfl)) (RowIs.cons (at_of_get (hold 101 _ (by kernel_rfl) rfl)) (RowIs.cons (at_of_get (hold 102 _ (by kernel_rfl) rfl)) (RowIs.cons (at_of_get (hold 103 _ (by kernel_rfl) rfl)) (RowIs.cons (at_of_get (hold 104 _ (by kernel_rfl) rfl)) (RowIs.cons (at_of_get (hold 105 _ (by kernel_rfl) rfl)) (RowIs.cons (at_of_get (hold 106 _ (by kernel_rfl) rfl)) (RowIs.cons (at_of_get (hold 107 _ (by kernel_rfl) rfl)) (RowIs.cons (at_of_get (hold 108 _ (by kernel_rfl) rfl)) (RowIs.cons (at_of_get (hold 109 _ (by kernel_rfl) rfl)) (RowIs.cons (at_of_get (hold 110 _ (by kernel_rfl) rfl)) (RowIs.cons (at_of_get (hold 111 _ (by kernel_rfl) rfl)) (RowIs.cons (at_of_get (hold 112 _ (by kernel_rfl) rfl)) (RowIs.cons (at_of_get (hold 113 _ (by kernel_rfl) rfl)) (RowIs.cons (at_of_get (hold 114 _ (by kernel_rfl) rfl)) (RowIs.cons (at_of_get (hold 115 _ (by kernel_rfl) rfl)) (RowIs.cons (at_of_get (hold 116 _ (by kernel_rfl) rfl)) (RowIs.cons (at_of_get (hold 117 _ (by kernel_rfl) rfl)) (RowIs.cons (at_of_get (hold 118 _ (by kernel_rfl) rfl)) (RowIs.cons (at_of_get (hold 119 _ (by kernel_rfl) rfl)) (RowIs.cons (at_of_get (hold 120 _ (by kernel_rfl) rfl)) (RowIs.cons (at_of_get (hold 121 _ (by kernel_rfl) rfl)) (RowIs.cons (at_of_get (hold 122 _ (by kernel_rfl) rfl)) (RowIs.cons (at_of_get (hold 123 _ (by kernel_rfl) rfl)) (RowIs.cons (at_of_get (hold 124 _ (by kernel_rfl) rfl)) (RowIs.cons (at_of_get (hold 125 _ (by kernel_rfl) rfl)) (RowIs.cons (at_of_get (hold 126 _ (by kernel_rfl) rfl)) (RowIs.cons (at_of_get (hold 127 _ (by kernel_rfl) rfl)) (RowIs.cons (at_of_get (hold 128 _ (by kernel_rfl) rfl)) (RowIs.cons (at_of_get (hold 129 _ (by kernel_rfl) rfl)) (RowIs.cons (at_of_get (hold 130 _ (by kernel_rfl) rfl)) (RowIs.cons (at_of_get (hold 131 _ (by kernel_rfl) rfl)) (RowIs.cons (at_of_get (hold 132 _ (by kernel_rfl) rfl)) (RowIs.cons (at_of_get (hold 133 _ (by kernel_rfl) rfl)) (RowIs.cons (at_of_get (hold 134 _ (by kernel_rfl) rfl)) (RowIs.cons (at_of_get (hold 135 _ (by kernel_rfl) rfl)) (RowIs.cons (at_of_get (hold 136 _ (by kernel_rfl) rfl)) (RowIs.cons (at_of_get (hold 137 _ (by kernel_rfl) rfl)) (RowIs.cons (at_of_get (hold 138 _ (by kernel_rfl) rfl)) (RowIs.cons (at_of_get (hold 139 _ (by kernel_rfl) rfl)) (RowIs.cons (at_of_get (hold 140 _ (by kernel_rfl) rfl)) (RowIs.cons (at_of_get (hold 141 _ (by kernel_rfl) rfl)) (RowIs.cons (at_of_get (hold 142 _ (by kernel_rfl) rfl)) (RowIs.cons (at_of_get (hold 143 _ (by kernel_rfl) rfl)) (RowIs.cons (at_of_get (hold 144 _ (by kernel_rfl) rfl)) (RowIs.cons (at_of_get (hold 145 _ (by kernel_rfl) rfl)) (RowIs.cons (at_of_get (hold 146 _ (by kernel_rfl) rfl)) (RowIs.cons (at_of_get (hold 147 _ (by kernel_rfl) rfl)) (RowIs.cons (at_of_get (hold 148 _ (by kernel_rfl) rfl)) (RowIs.cons (at_of_get (hold 149 _ (by kernel_rfl) rfl)) (RowIs.cons (at_of_get (hold 150 _ (by kernel_rfl) rfl)) (RowIs.cons (at_of_get (hold 151 _ (by kernel_rfl) rfl)) (RowIs.cons (at_of_get (hold 152 _ (by kernel_rfl) rfl)) (RowIs.cons (at_of_get (hold 153 _ (by kernel_rfl) rfl)) (RowIs.cons (at_of_get (hold 154 _ (by kernel_rfl) rfl)) (RowIs.cons (at_of_get (hold 155 _ (by kernel_rfl) rfl)) (RowIs.cons (at_of_get (hold 156 _ (by kernel_rfl) rfl)) (RowIs.cons (at_of_get (hold 157 _ (by kernel_rfl) rfl)) (RowIs.cons (at_of_get (hold 158 _ (by kernel_rfl) rfl)) (RowIs.cons (at_of_get (hold 159 _ (by kernel_rfl) rfl)) (RowIs.cons (at_of_get (hold 160 _ (by kernel_rfl) rfl)) (RowIs.cons (at_of_get (hold 161 _ (by kernel_rfl) rfl)) (RowIs.cons (at_of_get (hold 162 _ (by kernel_rfl) rfl)) (RowIs.cons (at_of_get (hold 163 _ (by kernel_rfl) rfl)) (RowIs.cons (at_of_get (hold 164 _ (by kernel_rfl) rfl)) (RowIs.cons (hvals 3 165 rfl) (RowIs.cons (hvals 0 166 rfl) (RowIs.cons hv167 (RowIs.cons (hvals 2 168 rfl) (RowIs.cons (hvals 4 169 rfl) (RowIs.cons (hvals 5 170 rfl) (RowIs.cons (at_of_get (hold 171 _ (by kernel_rfl) rfl)) (RowIs.cons (at_of_get (hold 172 _ (by kernel_rfl) rfl)) (RowIs.cons (at_of_get (hold 173 _ (by kernel_rfl) rfl)) (RowIs.cons (at_of_get (hold 174 _ (by kernel_rfl) rfl)) (RowIs.cons (at_of_get (hold 175 _ (by kernel_rfl) rfl)) (RowIs.cons (at_of_get (hold 176 _ (by kernel_rfl) rfl)) (RowIs.cons (at_of_get (hold 177 _ (by kernel_rfl) rfl)) (RowIs.cons (at_of_get (hold 178 _ (by kernel_rfl) rfl)) (RowIs.cons (at_of_get (hold 179 _ (by kernel_rfl) rfl)) (RowIs.cons (at_of_get (hold 180 _ (by kernel_rfl) rfl)) (RowIs.cons (at_of_get (hold 181 _ (by kernel_rfl) rfl)) (RowIs.cons (at_of_get (hold 182 _ (by kernel_rfl) rfl)) (RowIs.cons (at_of_get (hold 183 _ (by kernel_rfl) rfl)) (RowIs.cons (at_of_get (hold 184 _ (by kernel_rfl) rfl)) (RowIs.cons (at_of_get (hold 185 _ (by kernel_rfl) rfl)) (RowIs.cons (at_of_get (hold 186 _ (by kernel_rfl) rfl)) (RowIs.cons (at_of_get (hold 187 _ (by kernel_rfl) rfl)) (RowIs.cons (at_of_get (hold 188 _ (by kernel_rfl) rfl)) (RowIs.cons (at_of_get (hold 189 _ (by kernel_rfl) rfl)) (RowIs.cons (at_of_get (hold 190 _ (by kernel_rfl) rfl)) (RowIs.cons (at_of_get (hold 191 _ (by kernel_rfl) rfl)) (RowIs.cons (at_of_get (hold 192 _ (by kernel_rfl) rfl)) (RowIs.cons (at_of_get (hold 193 _ (by kernel_rfl) rfl)) (RowIs.cons (at_of_get (hold 194 _ (by kernel_rfl) rfl)) (RowIs.cons (at_of_get (hold 195 _ (by kernel_rfl) rfl)) (RowIs.cons (at_of_get (hold 196 _ (by kernel_rfl) rfl)) (RowIs.cons (at_of_get (hold 197 _ (by kernel_rfl) rfl)) (RowIs.cons (at_of_get (hold 198 _ (by kernel_rfl) rfl)) (RowIs.cons (at_of_get (hold 199 _ (by kernel_rfl) rfl)) (RowIs.cons (at_of_get (hold 200 _ (by kernel_rfl) rfl)) (RowIs.cons (at_of_get (hold 201 _ (by kernel_rfl) rfl)) (RowIs.cons (at_of_get (hold 202 _ (by kernel_rfl) rfl)) (RowIs.cons (at_of_get (hold 203 _ (by kernel_rfl) rfl)) (RowIs.cons (at_of_get (hold 204 _ (by kernel_rfl) rfl)) (RowIs.cons (at_of_get (hold 205 _ (by kernel_rfl) rfl)) (RowIs.cons (at_of_get (hold 206 _ (by kernel_rfl) rfl)) (RowIs.cons (at_of_get (hold 207 _ (by kernel_rfl) rfl)) (RowIs.cons (at_of_get (hold 208 _ (by kernel_rfl) rfl)) (RowIs.cons (at_of_get (hold 209 _ (by kernel_rfl) rfl)) (RowIs.cons (at_of_get (hold 210 _ (by kernel_rfl) rfl)) (RowIs.cons (at_of_get (hold 211 _ (by kernel_rfl) rfl)) (RowIs.cons (at_of_get (hold 212 _ (by kernel_rfl) rfl)) (RowIs.cons (at_of_get (hold 213 _ (by kernel_rfl) rfl)) (RowIs.cons (at_of_get (hold 214 _ (by kernel_rfl) rfl)) (RowIs.cons (at_of_get (hold 215 _ (by kernel_rfl) rfl)) (RowIs.cons (at_of_get (hold 216 _ (by kernel_rfl) rfl)) (RowIs.cons (at_of_get (hold 217 _ (by kernel_rfl) rfl)) (RowIs.cons (at_of_get (hold 218 _ (by kernel_rfl) rfl)) (RowIs.cons (at_of_get (hold 219 _ (by kernel_rfl) rfl)) (RowIs.cons (at_of_get (hold 220 _ (by kernel_rfl) rfl)) (RowIs.cons (at_of_get (hold 221 _ (by kernel_rfl) rfl)) (RowIs.cons (at_of_get (hold 222 _ (by kernel_rfl) rfl)) (RowIs.cons (at_of_get (hold 223 _ (by kernel_rfl) rfl)) (RowIs.cons (at_of_get (hold 224 _ (by kernel_rfl) rfl)) (RowIs.cons (at_of_get (hold 225 _ (by kernel_rfl) rfl)) (RowIs.cons (at_of_get (hold 226 _ (by kernel_rfl) rfl)) (RowIs.cons (at_of_get (hold 227 _ (by kernel_rfl) rfl)) (RowIs.cons (at_of_get (hold 228 _ (by kernel_rfl) rfl)) (RowIs.cons (at_of_get (hold 229 _ (by kernel_rfl) rfl)) (RowIs.cons (at_of_get (hold 230 _ (by kernel_rfl) rfl)) (RowIs.cons (at_of_get (hold 231 _ (by kernel_rfl) rfl)) (RowIs.cons (at_of_get (hold 232 _ (by kernel_rfl) rfl)) (RowIs.cons (at_of_get (hold 233 _ (by kernel_rfl) rfl)) (RowIs.cons (at_of_get (hold 234 _ (by kernel_rfl) rfl)) (RowIs.cons (at_of_get (hold 235 _ (by kernel_rfl) rfl)) (RowIs.cons (at_of_get (hold 236 _ (by kernel_rfl) rfl)) (RowIs.cons (at_of_get (hold 237 _ (by kernel_rfl) rfl)) (RowIs.cons (at_of_get (hold 238 _ (by kernel_rfl) rfl)) (RowIs.cons (at_of_get (hold 239 _ (by kernel_rfl) rfl)) (RowIs.cons (at_of_get (hold 240 _ (by kernel_rfl) rfl)) (RowIs.cons (at_of_get (hold 241 _ (by kernel_rfl) rfl)) (RowIs.cons (at_of_get (hold 242 _ (by kernel_rfl) rfl)) (RowIs.cons (at_of_get (hold 243 _ (by kernel_rfl) rfl)) (RowIs.cons (at_of_get (hold 244 _ (by kernel_rfl) rfl)) (RowIs.nil _ _)))))))))))))))))))))))))))))))))))))))))))))))))))))))))))))))))))))))))))))))))))))))))))))))))))))))))))))))))))))))))))))))))))))))))))))))))))))))))))))))))))))))))))))))))))))))))))))))))))))))))))))))))))))))))))))))))))))))))))))))))))))) rfl
              clear hsz hdf hold hvals
              subst ha
              try simp only [List.getElem_toArray, List.getElem_cons_succ, List.getElem_cons_zero]
              obtain ⟨W23, rfl⟩ : ∃ W23, W23 = w' := ⟨_, rfl⟩
              have v23 := v22.trans_nil hS
              have aZ3 := aZ2.upd_nil hS
              clear hK22 hS aZ2 hm4 hsg
              go_upto_region 24 with (first
                | (go_at_call 11; refine (hk0 W23).mono ?_; rintro e W24 ⟨p3, c3, rfl, aN, lN, u24⟩)
                | (refine wpList_load_row rfl _ _ rfl b1 rfl _ (row32 G9).toArray _ _ (hKr W23 v23) Try.underlying23 rfl (infoK _) ?_))
              have v24 := v23.trans_nil u24
              go_upto_region 25 with (first
                | (go_at_call 14; refine (hk1 W24 p3 c3 aN lN).mono ?_; rintro e W25 ⟨p4, c4, rfl, aO, u25⟩)
                | (refine wpList_load_row rfl _ _ rfl b1 rfl _ (row32 G9).toArray _ _ (hKr W24 v24) Try.underlying23 rfl (infoK _) ?_))
              have v25 := v24.trans_nil u25
              have aZ4 := (aZ3.upd_nil u24).upd_nil u25
              have hwk := works_walk W25
              clear hk0 hk1 aN aO lN aZ3 u24 u25 v24 v23 v22 v21 v20 v19 hKr
              go_wp2_with (first
                | (go_at_call 17; refine hwk.mono ?_; rintro e W26 ⟨rfl, u26⟩; have aZ5 := (aZ4.upd_nil u26).upd_nil ((Upd.refl [] W26).alloc (.cells Zs.toArray 5)))
                | (go_at_call 16; refine (hke _ _ _ _ _ aZ5 (hnew W26)).mono ?_; rintro e W27 ⟨rfl, u27⟩))
              go_ret
              exact ⟨rfl, ((((u2.trans_nil v25).trans_nil u26).trans_nil ((Upd.refl [] W26).alloc (.cells Zs.toArray 5))).trans_nil u27)⟩
      
end Go.Proofs.Ytppbaahaegmgeaa
