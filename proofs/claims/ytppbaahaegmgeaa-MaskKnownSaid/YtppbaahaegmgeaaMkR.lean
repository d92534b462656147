/- MaskStream: the walk. -/
import Derived.Test.YtppbaahaegmgeaaMkO
import Derived.Laws.Cover1
namespace Go.Proofs.Ytppbaahaegmgeaa
open Go.RowKit

theorem xor_u8_bv (x y : Int) : bits BinOp.xor IntKind.u8 x y = ((BitVec.ofInt 8 x ^^^ BitVec.ofInt 8 y).toNat : Int) := by
  show IntKind.u8.wrap ((BitVec.ofInt 8 x ^^^ BitVec.ofInt 8 y).toNat : Int) = _
  rw [IntKind.wrap_u8']
  have := (BitVec.ofInt 8 x ^^^ BitVec.ofInt 8 y).isLt
  omega
theorem ofInt_toNat8 (b : BitVec 8) : BitVec.ofInt 8 (b.toNat : Int) = b := by rw [BitVec.ofInt_natCast, BitVec.ofNat_toNat]; simp
theorem xor_cancel (a b s : Int) : bits BinOp.xor IntKind.u8 (bits BinOp.xor IntKind.u8 a s) (bits BinOp.xor IntKind.u8 b s) = bits BinOp.xor IntKind.u8 a b := by
  rw [xor_u8_bv a s, xor_u8_bv b s, xor_u8_bv _ _, xor_u8_bv a b, ofInt_toNat8, ofInt_toNat8]
  congr 2
  rw [BitVec.xor_assoc, BitVec.xor_comm (BitVec.ofInt 8 b), ← BitVec.xor_assoc (BitVec.ofInt 8 s), BitVec.xor_self, BitVec.zero_xor]
theorem sealL_at (G : Nat → Int) (X xs : List Int) (i : Nat) (h : i < xs.length) : (sealL G X xs).getD i 0 = bits .xor .u8 (xs.getD i 0) (stF G X i) := by
  unfold sealL outL
  rw [List.getD_eq_getElem?_getD, List.getElem?_append_left (by rw [xorB_len]; exact h)]
  unfold xorB
  rw [List.getElem?_map, List.getElem?_range h]
  rfl

set_option maxRecDepth 100000 in
set_option maxHeartbeats 8000000 in
theorem mstream_walk (w : World) (G : Nat → Int) (hG : RngF G) (a s r : Int) (ha : I64 a) (hs : I64 s) (hr : I64 r)
    (p0 : Option Addr) (xs : List Int) (c0 : Nat) (hx : ByAt w p0 xs) (hrx : Rng xs) (hxl : xs.length ≤ 9223372036854775807) (hxc : xs.length ≤ c0)
    (p1 : Option Addr) (ys : List Int) (c1 : Nat) (hy : ByAt w p1 ys) (hry : Rng ys) (hyl : ys.length ≤ 9223372036854775807) (hyc : ys.length ≤ c1) :
    Calls Try.prog 4 #[.agg (row32 G).toArray, .agg #[.int .i64 a, .int .i64 s, .int .i64 r], .agg #[.slice p0 xs.length c0, .slice p1 ys.length c1]] w fun e w' => e = .returned (.bool true) ∧ Upd [] w w' := by
  obtain ⟨n, hn⟩ : ∃ n : Nat, min (min (xs.length : Int) (ys.length : Int)) 500 = n := ⟨min (min xs.length ys.length) 500, by omega⟩
  have hA : ByAt w p0 (xs.take n) := hx.take n
  have hB : ByAt w p1 (ys.take n) := hy.take n
  have hAr : Rng (xs.take n) := hrx.take n
  have hBr : Rng (ys.take n) := hry.take n
  have hAl : (xs.take n).length = n := by rw [List.length_take]; omega
  have hBl : (ys.take n).length = n := by rw [List.length_take]; omega
  have k1 : (n : Int) ≤ c0 := by omega
  have k2 : (n : Int) ≤ c1 := by omega
  have k3 : (0 : Int) ≤ n := by omega
  have k4 : n ≤ 500 := by omega
  have k5 : n ≤ c0 := by omega
  have k6 : n ≤ c1 := by omega
  have k7 : (n : Int) ≤ 500 := by omega
  have hnr := fun W => near_walk W a s r ha hs hr
  have hno := near_ok a s r
  obtain ⟨a', ha'⟩ : ∃ x, a % 9007199254740992 = x := ⟨_, rfl⟩
  obtain ⟨s', hs'⟩ : ∃ x, s % 9007199254740992 = x := ⟨_, rfl⟩
  obtain ⟨r', hr'⟩ : ∃ x, r % 9007199254740992 = x := ⟨_, rfl⟩
  rw [ha', hs', hr'] at hno hnr
  clear ha' hs' hr' hx hrx hy hry
  generalize xs.take n = A at *
  generalize ys.take n = B at *
  have Hn := Lib.hid hn
  have HAl := Lib.hid hAl
  have HBl := Lib.hid hBl
  go_enter Try.func4, Try.ntmps4
  go_upto_region 1 with fail
  have u1 := (((Upd.refl [] w).alloc (.cells (row32 G).toArray 23)).alloc (.cells #[.int .i64 a, .int .i64 s, .int .i64 r] 25)).alloc (.cells #[.slice p0 xs.length c0, .slice p1 ys.length c1] 37)
  have hD : Blk (((w.alloc (.cells (row32 G).toArray 23)).alloc (.cells #[.int .i64 a, .int .i64 s, .int .i64 r] 25)).alloc (.cells #[.slice p0 xs.length c0, .slice p1 ys.length c1] 37)) w.heap.size (row32 G) 23 := Blk.alloc (Blk.alloc (Blk.new w (row32 G).toArray 23) _) _
  have hN := Blk.alloc (Blk.new (w.alloc (.cells (row32 G).toArray 23)) #[.int .i64 a, .int .i64 s, .int .i64 r] 25) (.cells #[.slice p0 xs.length c0, .slice p1 ys.length c1] 37)
  have hR := Blk.new ((w.alloc (.cells (row32 G).toArray 23)).alloc (.cells #[.int .i64 a, .int .i64 s, .int .i64 r] 25)) #[.slice p0 xs.length c0, .slice p1 ys.length c1] 37
  simp only [World.size_alloc] at hN hR
  generalize ((w.alloc (.cells (row32 G).toArray 23)).alloc (.cells #[.int .i64 a, .int .i64 s, .int .i64 r] 25)).alloc (.cells #[.slice p0 xs.length c0, .slice p1 ys.length c1] 37) = W1 at *
  generalize hd : w.heap.size = D at hD hN hR ⊢
  obtain ⟨E, hE⟩ : ∃ E, D + 1 = E := ⟨_, rfl⟩
  rw [hE] at hN hR ⊢
  obtain ⟨R, hRR⟩ : ∃ R, E + 1 = R := ⟨_, rfl⟩
  rw [hRR] at hR ⊢
  have hDE : D ≠ E := by omega
  have hRE : R ≠ E := by omega
  have hEw : w.heap.size ≤ E := by omega
  try simp only [List.toList_toArray] at hN hR
  clear hE hd hRR hn hAl hBl
  go_upto_region 3 with (go_at_call 17; refine (works_walk W1).mono ?_; rintro e W2 ⟨rfl, u2⟩)
  have hN2 := hN.upd_nil u2
  have hD2 := hD.upd_nil u2
  have hR2 := hR.upd_nil u2
  have t2 := u1.trans_nil u2
  have n0 := hN2.cell 0 rfl
  have n1 := hN2.cell 1 rfl
  have n2 := hN2.cell 2 rfl
  clear hN hD hR u1 u2
  go_upto_region 4 with (go_at_call 18; refine (hnr W2).mono ?_; rintro e W3 ⟨rfl, u3⟩; have hN3 := hN2.upd_nil u3; have z0 := hN3.cell 0 rfl; have z1 := hN3.cell 1 rfl; have z2 := hN3.cell 2 rfl; have f0 := hN3.free 0; have f1 := hN3.free 1; have f2 := hN3.free 2)
  have hN4 := ((hN3.set 0 (.int .i64 a')).set 1 (.int .i64 s')).set 2 (.int .i64 r')
  have hD4 := (((hD2.upd_nil u3).set_ne ⟨E, 0, none⟩ hDE (.int .i64 a')).set_ne ⟨E, 1, none⟩ hDE (.int .i64 s')).set_ne ⟨E, 2, none⟩ hDE (.int .i64 r')
  have hR4 := (((hR2.upd_nil u3).set_ne ⟨E, 0, none⟩ hRE (.int .i64 a')).set_ne ⟨E, 1, none⟩ hRE (.int .i64 s')).set_ne ⟨E, 2, none⟩ hRE (.int .i64 r')
  have t4 := (((t2.trans_nil u3).setCell (p := ⟨E, 0, none⟩) (Or.inr hEw) (.int .i64 a')).setCell (p := ⟨E, 1, none⟩) (Or.inr hEw) (.int .i64 s')).setCell (p := ⟨E, 2, none⟩) (Or.inr hEw) (.int .i64 r')
  clear hN3 hN2 hD2 hR2 t2 u3 z0 z1 z2 f0 f1 f2 n0 n1 n2 hnr
  generalize ((W3.setCell ⟨E, 0, none⟩ (.int .i64 a')).setCell ⟨E, 1, none⟩ (.int .i64 s')).setCell ⟨E, 2, none⟩ (.int .i64 r') = W4 at *
  have hKr : ∀ W, Upd [] W4 W → W.heap[D]? = some (.cells (row32 G).toArray 23 (0, 0)) := fun W u => hD4.upd_nil u
  have hNc : ∀ W, Upd [] W4 W → W.cell? ⟨E, 0, none⟩ = some (.int .i64 a') ∧ W.cell? ⟨E, 1, none⟩ = some (.int .i64 s') ∧ W.cell? ⟨E, 2, none⟩ = some (.int .i64 r') := fun W u =>
    ⟨(hN4.upd_nil u).cell 0 rfl, (hN4.upd_nil u).cell 1 rfl, (hN4.upd_nil u).cell 2 rfl⟩
  have hRc : ∀ W, Upd [] W4 W → W.cell? ⟨R, 0, none⟩ = some (.slice p0 xs.length c0) ∧ W.cell? ⟨R, 1, none⟩ = some (.slice p1 ys.length c1) := fun W u =>
    ⟨(hR4.upd_nil u).cell 0 rfl, (hR4.upd_nil u).cell 1 rfl⟩
  clear hN4 hD4 hR4
  obtain ⟨r0, r1⟩ := hRc W4 (Upd.refl [] _)
  have hmin : ∀ w, (Builtin.min_ #[3, 3, 3] 3 #[.int .i64 (xs.length : Int), .int .i64 (ys.length : Int), .int .i64 500]).run Try.prog w = .ok (.int .i64 (n : Int)) w := fun w => by
    rw [run_min_int3]
    have e : (if (500 : Int) < (if (ys.length : Int) < (xs.length : Int) then (ys.length : Int) else (xs.length : Int)) then (500 : Int) else (if (ys.length : Int) < (xs.length : Int) then (ys.length : Int) else (xs.length : Int))) = (n : Int) := by
      have := Hn.out
      split <;> split at * <;> omega
    rw [e]
  go_upto_region 5 with fail
  clear r0 r1
  refine wp_region_spec [(.eq (.pointer (some ⟨R, 0, none⟩))), (.eq (.slice p0 xs.length c0)), (.eq (.int .i64 (n : Int))), (.eq (.slice p0 n c0)), (.eq (.pointer (some ⟨R, 1, none⟩))), (.eq (.slice p1 ys.length c1)), (.eq (.int .i64 (n : Int))), (.eq (.slice p1 n c1)), (.eq (.slice p0 n c0)), (.eq (.slice p1 n c1))] (by kernel_rfl) (by kernel_rfl) rfl ?step ?fin
  case step =>
    intro i o ho a w' hS hold hneed K' hK
    match i, ho with
    | 0, ho =>
      obtain rfl := Option.some.inj ho
      have d5 := hold 5 _ (by kernel_rfl) rfl
      clear hold hneed ho
      (go_simp; exact hK _ _ rfl (Upd.refl [] _))
    | 1, ho =>
      obtain rfl := Option.some.inj ho
      have d26 := get_of_at (hneed 0 (of_decide_eq_true (by kernel_rfl)) 26 rfl) (by simp [undef])
      clear hold hneed ho
      (have q0 := (hRc _ hS).1; go_simp; exact hK _ _ rfl (Upd.refl [] _))
    | 2, ho =>
      obtain rfl := Option.some.inj ho
      have d7 := hold 7 _ (by kernel_rfl) rfl
      clear hold hneed ho
      (go_simp; exact hK _ _ rfl (Upd.refl [] _))
    | 3, ho =>
      obtain rfl := Option.some.inj ho
      have d27 := get_of_at (hneed 1 (of_decide_eq_true (by kernel_rfl)) 27 rfl) (by simp [undef])
      have d28 := get_of_at (hneed 2 (of_decide_eq_true (by kernel_rfl)) 28 rfl) (by simp [undef])
      clear hold hneed ho
      (go_simp; exact hK _ _ rfl (Upd.refl [] _))
    | 4, ho =>
      obtain rfl := Option.some.inj ho
      have d5 := hold 5 _ (by kernel_rfl) rfl
      clear hold hneed ho
      (go_simp; exact hK _ _ rfl (Upd.refl [] _))
    | 5, ho =>
      obtain rfl := Option.some.inj ho
      have d30 := get_of_at (hneed 4 (of_decide_eq_true (by kernel_rfl)) 30 rfl) (by simp [undef])
      clear hold hneed ho
      (have q0 := (hRc _ hS).2; go_simp; exact hK _ _ rfl (Upd.refl [] _))
    | 6, ho =>
      obtain rfl := Option.some.inj ho
      have d7 := hold 7 _ (by kernel_rfl) rfl
      clear hold hneed ho
      (go_simp; exact hK _ _ rfl (Upd.refl [] _))
    | 7, ho =>
      obtain rfl := Option.some.inj ho
      have d31 := get_of_at (hneed 5 (of_decide_eq_true (by kernel_rfl)) 31 rfl) (by simp [undef])
      have d32 := get_of_at (hneed 6 (of_decide_eq_true (by kernel_rfl)) 32 rfl) (by simp [undef])
      clear hold hneed ho
      (go_simp; exact hK _ _ rfl (Upd.refl [] _))
    | 8, ho =>
      obtain rfl := Option.some.inj ho
      have d29 := get_of_at (hneed 3 (of_decide_eq_true (by kernel_rfl)) 29 rfl) (by simp [undef])
      clear hold hneed ho
      (go_simp; exact hK _ _ rfl (Upd.refl [] _))
    | 9, ho =>
      obtain rfl := Option.some.inj ho
      have d33 := get_of_at (hneed 7 (of_decide_eq_true (by kernel_rfl)) 33 rfl) (by simp [undef])
      clear hold hneed ho
      (go_simp; exact hK _ _ rfl (Upd.refl [] _))
    | _ + 10, ho => exact absurd ho (by simp)
  case fin =>
    intro a w' hS hsz hdf hold hvals
    have ha := act_lit hsz hdf (RowIs.cons (at_of_get (hold 0 _ (by kernel_rfl) rfl)) (RowIs.cons (at_of_get (hold 1 _ (by kernel_rfl) rfl)) (RowIs.cons (at_of_get (hold 2 _ (by kernel_rfl) rfl)) (RowIs.cons (at_of_get (hold 3 _ (by kernel_rfl) rfl)) (RowIs.cons (at_of_get (hold 4 _ (by kernel_rfl) rfl)) (RowIs.cons (at_of_get (hold 5 _ (by kernel_rfl) rfl)) (RowIs.cons (at_of_get (hold 6 _ (by kernel_rfl) rfl)) (RowIs.cons (at_of_get (hold 7 _ (by kernel_rfl) rfl)) (RowIs.cons (hvals 8 8 rfl) (RowIs.cons (hvals 9 9 rfl) (RowIs.cons (at_of_get (hold 10 _ (by kernel_rfl) rfl)) (RowIs.cons (at_of_get (hold 11 _ (by kernel_rfl) rfl)) (RowIs.cons (at_of_get (hold 12 _ (by kernel_rfl) rfl)) (RowIs.cons (at_of_get (hold 13 _ (by kernel_rfl) rfl)) (RowIs.cons (at_of_get (hold 14 _ (by kernel_rfl) rfl)) (RowIs.cons (at_of_get (hold 15 _ (by kernel_rfl) rfl)) (RowIs.cons (at_of_get (hold 16 _ (by kernel_rfl) rfl)) (RowIs.cons (at_of_get (hold 17 _ (by kernel_rfl) rfl)) (RowIs.cons (at_of_get (hold 18 _ (by kernel_rfl) rfl)) (RowIs.cons (at_of_get (hold 19 _ (by kernel_rfl) rfl)) (RowIs.cons (at_of_get (hold 20 _ (by kernel_rfl) rfl)) (RowIs.cons (at_of_get (hold 21 _ (by kernel_rfl) rfl)) (RowIs.cons (at_of_get (hold 22 _ (by kernel_rfl) rfl)) (RowIs.cons (at_of_get (hold 23 _ (by kernel_rfl) rfl)) (RowIs.cons (at_of_get (hold 24 _ (by kernel_rfl) rfl)) (RowIs.cons (at_of_get (hold 25 _ (by kernel_rfl) rfl)) (RowIs.cons (hvals 0 26 rfl) (RowIs.cons (hvals 1 27 rfl) (RowIs.cons (hvals 2 28 rfl) (RowIs.cons (hvals 3 29 rfl) (RowIs.cons (hvals 4 30 rfl) (RowIs.cons (hvals 5 31 rfl) (RowIs.cons (hvals 6 32 rfl) (RowIs.cons (hvals 7 33 rfl) (RowIs.cons (at_of_get (hold 34 _ (by kernel_rfl) rfl)) (RowIs.cons (at_of_get (hold 35 _ (by kernel_rfl) rfl)) (RowIs.cons (at_of_get (hold 36 _ (by kernel_rfl) rfl)) (RowIs.cons (at_of_get (hold 37 _ (by kernel_rfl) rfl)) (RowIs.cons (at_of_get (hold 38 _ (by kernel_rfl) rfl)) (RowIs.cons (at_of_get (hold 39 _ (by kernel_rfl) rfl)) (RowIs.cons (at_of_get (hold 40 _ (by kernel_rfl) rfl)) (RowIs.cons (at_of_get (hold 41 _ (by kernel_rfl) rfl)) (RowIs.cons (at_of_get (hold 42 _ (by kernel_rfl) rfl)) (RowIs.cons (at_of_get (hold 43 _ (by kernel_rfl) rfl)) (RowIs.cons (at_of_get (hold 44 _ (by kernel_rfl) rfl)) (RowIs.cons (at_of_get (hold 45 _ (by kernel_rfl) rfl)) (RowIs.cons (at_of_get (hold 46 _ (by kernel_rfl) rfl)) (RowIs.cons (at_of_get (hold 47 _ (by kernel_rfl) rfl)) (RowIs.cons (at_of_get (hold 48 _ (by kernel_rfl) rfl)) (RowIs.cons (at_of_get (hold 49 _ (by kernel_rfl) rfl)) (RowIs.cons (at_of_get (hold 50 _ (by kernel_rfl) rfl)) (RowIs.cons (at_of_get (hold 51 _ (by kernel_rfl) rfl)) (RowIs.cons (at_of_get (hold 52 _ (by kernel_rfl) rfl)) (RowIs.cons (at_of_get (hold 53 _ (by kernel_rfl) rfl)) (RowIs.cons (at_of_get (hold 54 _ (by kernel_rfl) rfl)) (RowIs.cons (at_of_get (hold 55 _ (by kernel_rfl) rfl)) (RowIs.cons (at_of_get (hold 56 _ (by kernel_rfl) rfl)) (RowIs.cons (at_of_get (hold 57 _ (by kernel_rfl) rfl)) (RowIs.cons (at_of_get (hold 58 _ (by kernel_rfl) rfl)) (RowIs.cons (at_of_get (hold 59 _ (by kernel_rfl) rfl)) (RowIs.cons (at_of_get (hold 60 _ (by kernel_rfl) rfl)) (RowIs.cons (at_of_get (hold 61 _ (by kernel_rfl) rfl)) (RowIs.cons (at_of_get (hold 62 _ (by kernel_rfl) rfl)) (RowIs.cons (at_of_get (hold 63 _ (by kernel_rfl) rfl)) (RowIs.cons (at_of_get (hold 64 _ (by kernel_rfl) rfl)) (RowIs.cons (at_of_get (hold 65 _ (by kernel_rfl) rfl)) (RowIs.cons (at_of_get (hold 66 _ (by kernel_rfl) rfl)) (RowIs.cons (at_of_get (hold 67 _ (by kernel_rfl) rfl)) (RowIs.cons (at_of_get (hold 68 _ (by kernel_rfl) rfl)) (RowIs.cons (at_of_get (hold 69 _ (by kernel_rfl) rfl)) (RowIs.cons (at_of_get (hold 70 _ (by kernel_rfl) rfl)) (RowIs.cons (at_of_get (hold 71 _ (by kernel_rfl) rfl)) (RowIs.cons (at_of_get (hold 72 _ (by kernel_rfl) rfl)) (RowIs.cons (at_of_get (hold 73 _ (by kernel_rfl) rfl)) (RowIs.cons (at_of_get (hold 74 _ (by kernel_rfl) rfl)) (RowIs.cons (at_of_get (hold 75 _ (by kernel_rfl) rfl)) (RowIs.cons (at_of_get (hold 76 _ (by kernel_rfl) rfl)) (RowIs.cons (at_of_get (hold 77 _ (by kernel_rfl) rfl)) (RowIs.cons (at_of_get (hold 78 _ (by kernel_rfl) rfl)) (RowIs.cons (at_of_get (hold 79 _ (by kernel_rfl) rfl)) (RowIs.cons (at_of_get (hold 80 _ (by kernel_rfl) rfl)) (RowIs.cons (at_of_get (hold 81 _ (by kernel_rfl) rfl)) (RowIs.cons (at_of_get (hold 82 _ (by kernel_rfl) rfl)) (RowIs.cons (at_of_get (hold 83 _ (by kernel_rfl) rfl)) (RowIs.cons (at_of_get (hold 84 _ (by kernel_rfl) rfl)) (RowIs.cons (at_of_get (hold 85 _ (by kernel_rfl) rfl)) (RowIs.cons (at_of_get (hold 86 _ (by kernel_rfl) rfl)) (RowIs.cons (at_of_get (hold 87 _ (by kernel_rfl) rfl)) (RowIs.cons (at_of_get (hold 88 _ (by kernel_rfl) rfl)) (RowIs.cons (at_of_get (hold 89 _ (by kernel_rfl) rfl)) (RowIs.cons (at_of_get (hold 90 _ (by kernel_rfl) rfl)) (RowIs.cons (at_of_get (hold 91 _ (by kernel_rfl) rfl)) (RowIs.nil _ _))))))))))))))))))))))))))))))))))))))))))))))))))))))))))))))))))))))))))))))))))))))))))))) rfl
    clear hsz hdf hold hvals
    subst ha
    try simp only [List.getElem_toArray, List.getElem_cons_succ, List.getElem_cons_zero]
    obtain ⟨W5, rfl⟩ : ∃ W5, W5 = w' := ⟨_, rfl⟩
    have t5 := t4.trans_nil hS
    have hKr5 := fun (W : World) (u : Upd [] W5 W) => hKr W (hS.trans_nil u)
    have hNc5 := fun (W : World) (u : Upd [] W5 W) => hNc W (hS.trans_nil u)
    clear hKr hNc hRc hS t4
    obtain ⟨X, hX⟩ : ∃ X, rowsI [a', s', r'] = X := ⟨_, rfl⟩
    obtain ⟨n16, h16⟩ : ∃ k, n + 16 = k := ⟨_, rfl⟩
    have hs0 := fun (W : World) (u : Upd [] W5 W) => seal_ok W G hG a' s' r' hno p0 A c0 (hA.upd_nil (t5.trans_nil u)) hAr (by rw [HAl.out]; omega) (by rw [HAl.out]; omega)
    have hs1 := fun (W : World) (u : Upd [] W5 W) => seal_ok W G hG a' s' r' hno p1 B c1 (hB.upd_nil (t5.trans_nil u)) hBr (by rw [HBl.out]; omega) (by rw [HBl.out]; omega)
    have hC0l : (sealL G X A).length = n16 := by rw [sealL_len, HAl.out]; exact h16
    have hC1l : (sealL G X B).length = n16 := by rw [sealL_len, HBl.out]; exact h16
    have hat0 : ∀ i, i < n → (sealL G X A).getD i 0 = bits .xor .u8 (A.getD i 0) (stF G X i) := fun i hi => sealL_at G X A i (by rw [HAl.out]; exact hi)
    have hat1 : ∀ i, i < n → (sealL G X B).getD i 0 = bits .xor .u8 (B.getD i 0) (stF G X i) := fun i hi => sealL_at G X B i (by rw [HBl.out]; exact hi)
    rw [HAl.out, h16, hX] at hs0
    rw [HBl.out, h16, hX] at hs1
    generalize sealL G X A = C0 at *
    generalize sealL G X B = C1 at *
    have e16 : (n : Int) + 16 = (n16 : Int) := by omega
    have H16 := Lib.hid h16
    have HC0 := Lib.hid hC0l
    have HC1 := Lib.hid hC1l
    clear hX h16 hC0l hC1l
    obtain ⟨m0, m1, m2⟩ := hNc5 W5 (Upd.refl [] _)
    go_upto_region 7 with (first
      | (go_at_call 11; refine (hs0 W5 (Upd.refl [] _)).mono ?_; rintro e W6 ⟨q0, d0, rfl, o6, u6⟩)
      | (have tok := m0; refine wpList_load_row rfl _ _ rfl D rfl _ (row32 G).toArray _ _ (hKr5 W5 (Upd.refl [] _)) Try.underlying23 rfl (infoK G) ?_))
    clear m0 m1 m2
    obtain ⟨m0, m1, m2⟩ := hNc5 W6 u6
    go_upto_region 8 with (first
      | (go_at_call 11; refine (hs1 W6 u6).mono ?_; rintro e W7 ⟨q1, d1, rfl, o7, u7⟩)
      | (have tok := m0; refine wpList_load_row rfl _ _ rfl D rfl _ (row32 G).toArray _ _ (hKr5 W6 u6) Try.underlying23 rfl (infoK G) ?_))
    have t7 := (t5.trans_nil u6).trans_nil u7
    have o67 := o6.upd_nil u7
    have hA7 := hA.upd_nil t7
    have hB7 := hB.upd_nil t7
    clear m0 m1 m2 hs0 hs1 hKr5 hNc5 o6 u6 u7 t5 hA hB
    go_wp2_with fail
    go_loopw [14] (fun iv wr => ∃ ni : Nat, ni ≤ n ∧ iv = .int .i64 (ni : Int) ∧ Upd [] W7 wr) (fun iv _ => n - (intOf iv).toNat)
    case atStart => exact ⟨0, by omega, rfl, Upd.refl [] _⟩
    case round =>
      obtain ⟨ni, hni, rfl, hu⟩ := hrel
      obtain ⟨wo, rfl⟩ : ∃ wo, wo = wr := ⟨_, rfl⟩
      rcases Nat.lt_or_ge ni n with hlt | hge
      · obtain ⟨g0, rfl, -, hg0', -, y0, -, -⟩ := o67.spot ni (by rw [HC0.out]; have := H16.out; omega)
        obtain ⟨g1, rfl, -, hg1', -, y1, -, -⟩ := o7.spot ni (by rw [HC1.out]; have := H16.out; omega)
        obtain ⟨b0, o0, rfl⟩ := hA7.form (by rw [HAl.out]; omega)
        obtain ⟨b1, o1, rfl⟩ := hB7.form (by rw [HBl.out]; omega)
        have y2 := hA7.cell ni (by rw [HAl.out]; exact hlt)
        have y3 := hB7.cell ni (by rw [HBl.out]; exact hlt)
        have hb0' := hA7.lt (by rw [HAl.out]; omega)
        have hb1' := hB7.lt (by rw [HBl.out]; omega)
        rw [hat0 ni hlt] at y0
        rw [hat1 ni hlt] at y1
        have e0 := (hu.cell (a := ⟨g0, ni, none⟩) hg0' (by simp)).trans y0
        have e1 := (hu.cell (a := ⟨g1, ni, none⟩) hg1' (by simp)).trans y1
        have e2 := (hu.cell (a := ⟨b0, o0 + ni, none⟩) hb0' (by simp)).trans y2
        have e3 := (hu.cell (a := ⟨b1, o1 + ni, none⟩) hb1' (by simp)).trans y3
        have hg0 := Nat.lt_of_lt_of_le hg0' hu.size
        have hg1 := Nat.lt_of_lt_of_le hg1' hu.size
        have hb0 := Nat.lt_of_lt_of_le hb0' hu.size
        have hb1 := Nat.lt_of_lt_of_le hb1' hu.size
        have hx := xor_cancel (A.getD ni 0) (B.getD ni 0) (stF G X ni)
        clear y0 y1 y2 y3 hat0 hat1 o67 o7 hA7 hB7
        generalize A.getD ni 0 = v2 at *
        generalize B.getD ni 0 = v3 at *
        generalize stF G X ni = sv at *
        obtain ⟨v0, hv0⟩ : ∃ v, bits .xor .u8 v2 sv = v := ⟨_, rfl⟩
        obtain ⟨v1, hv1⟩ : ∃ v, bits .xor .u8 v3 sv = v := ⟨_, rfl⟩
        obtain ⟨z, hz⟩ : ∃ z, bits .xor .u8 v2 v3 = z := ⟨_, rfl⟩
        rw [hv0] at e0 hx
        rw [hv1] at e1 hx
        rw [hz] at hx
        have X1 := Lib.hid hx
        have X2 := Lib.hid hz
        clear hx hz hv0 hv1
        have i1 : (0 : Int) ≤ ni := by omega
        have i2 : (ni : Int) < n := by omega
        have i3 : (ni : Int) < n16 := by have := H16.out; omega
        have HE0 := Lib.hid e0
        go_upto_region 13 with fail
        refine wp_region_spec [(.eq (.slice (some ⟨g0, 0, none⟩) n16 d0)), (.eq (.int .i64 (ni : Int))), (.eq (.pointer (some ⟨g0, ni, none⟩))), (.eq (.int .u8 v0)), (.eq (.slice (some ⟨g1, 0, none⟩) n16 d1)), (.eq (.int .i64 (ni : Int))), (.eq (.pointer (some ⟨g1, ni, none⟩))), (.eq (.int .u8 v1)), (.eq (.int .u8 z)), (.eq (.slice (some ⟨b0, o0, none⟩) n c0)), (.eq (.int .i64 (ni : Int))), (.eq (.pointer (some ⟨b0, o0 + ni, none⟩))), (.eq (.int .u8 v2)), (.eq (.slice (some ⟨b1, o1, none⟩) n c1)), (.eq (.int .i64 (ni : Int))), (.eq (.pointer (some ⟨b1, o1 + ni, none⟩))), (.eq (.int .u8 v3)), (.eq (.int .u8 z)), (.eq (.bool false))] (by kernel_rfl) (by kernel_rfl) rfl ?step ?fin
        case step =>
          intro i o ho a w' hS hold hneed K' hK
          match i, ho with
          | 0, ho =>
            obtain rfl := Option.some.inj ho
            have d10 := hold 10 _ (by kernel_rfl) rfl
            clear hold hneed ho
            (go_simp; exact hK _ _ rfl (Upd.refl [] _))
          | 1, ho =>
            obtain rfl := Option.some.inj ho
            have d14 := hold 14 _ (by kernel_rfl) rfl
            clear hold hneed ho
            (go_simp; exact hK _ _ rfl (Upd.refl [] _))
          | 2, ho =>
            obtain rfl := Option.some.inj ho
            have d73 := get_of_at (hneed 0 (of_decide_eq_true (by kernel_rfl)) 73 rfl) (by simp [undef])
            have d74 := get_of_at (hneed 1 (of_decide_eq_true (by kernel_rfl)) 74 rfl) (by simp [undef])
            clear hold hneed ho
            (go_simp; exact hK _ _ rfl (Upd.refl [] _))
          | 3, ho =>
            obtain rfl := Option.some.inj ho
            have d75 := get_of_at (hneed 2 (of_decide_eq_true (by kernel_rfl)) 75 rfl) (by simp [undef])
            clear hold hneed ho
            (have q0 := (hS.cell (a := ⟨g0, ni, none⟩) hg0 (by simp)).trans e0; go_simp; exact hK _ _ rfl (Upd.refl [] _))
          | 4, ho =>
            obtain rfl := Option.some.inj ho
            have d12 := hold 12 _ (by kernel_rfl) rfl
            clear hold hneed ho
            (go_simp; exact hK _ _ rfl (Upd.refl [] _))
          | 5, ho =>
            obtain rfl := Option.some.inj ho
            have d14 := hold 14 _ (by kernel_rfl) rfl
            clear hold hneed ho
            (go_simp; exact hK _ _ rfl (Upd.refl [] _))
          | 6, ho =>
            obtain rfl := Option.some.inj ho
            have d77 := get_of_at (hneed 4 (of_decide_eq_true (by kernel_rfl)) 77 rfl) (by simp [undef])
            have d78 := get_of_at (hneed 5 (of_decide_eq_true (by kernel_rfl)) 78 rfl) (by simp [undef])
            clear hold hneed ho
            (go_simp; exact hK _ _ rfl (Upd.refl [] _))
          | 7, ho =>
            obtain rfl := Option.some.inj ho
            have d79 := get_of_at (hneed 6 (of_decide_eq_true (by kernel_rfl)) 79 rfl) (by simp [undef])
            clear hold hneed ho
            (have q0 := (hS.cell (a := ⟨g1, ni, none⟩) hg1 (by simp)).trans e1; go_simp; exact hK _ _ rfl (Upd.refl [] _))
          | 8, ho =>
            obtain rfl := Option.some.inj ho
            have d76 := get_of_at (hneed 3 (of_decide_eq_true (by kernel_rfl)) 76 rfl) (by simp [undef])
            have d80 := get_of_at (hneed 7 (of_decide_eq_true (by kernel_rfl)) 80 rfl) (by simp [undef])
            clear hold hneed ho
            (go_simp; rw [X1.out]; exact hK _ _ rfl (Upd.refl [] _))
          | 9, ho =>
            obtain rfl := Option.some.inj ho
            have d8 := hold 8 _ (by kernel_rfl) rfl
            clear hold hneed ho
            (go_simp; exact hK _ _ rfl (Upd.refl [] _))
          | 10, ho =>
            obtain rfl := Option.some.inj ho
            have d14 := hold 14 _ (by kernel_rfl) rfl
            clear hold hneed ho
            (go_simp; exact hK _ _ rfl (Upd.refl [] _))
          | 11, ho =>
            obtain rfl := Option.some.inj ho
            have d82 := get_of_at (hneed 9 (of_decide_eq_true (by kernel_rfl)) 82 rfl) (by simp [undef])
            have d83 := get_of_at (hneed 10 (of_decide_eq_true (by kernel_rfl)) 83 rfl) (by simp [undef])
            clear hold hneed ho
            (go_simp; exact hK _ _ rfl (Upd.refl [] _))
          | 12, ho =>
            obtain rfl := Option.some.inj ho
            have d84 := get_of_at (hneed 11 (of_decide_eq_true (by kernel_rfl)) 84 rfl) (by simp [undef])
            clear hold hneed ho
            (have q0 := (hS.cell (a := ⟨b0, o0 + ni, none⟩) hb0 (by simp)).trans e2; go_simp; exact hK _ _ rfl (Upd.refl [] _))
          | 13, ho =>
            obtain rfl := Option.some.inj ho
            have d9 := hold 9 _ (by kernel_rfl) rfl
            clear hold hneed ho
            (go_simp; exact hK _ _ rfl (Upd.refl [] _))
          | 14, ho =>
            obtain rfl := Option.some.inj ho
            have d14 := hold 14 _ (by kernel_rfl) rfl
            clear hold hneed ho
            (go_simp; exact hK _ _ rfl (Upd.refl [] _))
          | 15, ho =>
            obtain rfl := Option.some.inj ho
            have d86 := get_of_at (hneed 13 (of_decide_eq_true (by kernel_rfl)) 86 rfl) (by simp [undef])
            have d87 := get_of_at (hneed 14 (of_decide_eq_true (by kernel_rfl)) 87 rfl) (by simp [undef])
            clear hold hneed ho
            (go_simp; exact hK _ _ rfl (Upd.refl [] _))
          | 16, ho =>
            obtain rfl := Option.some.inj ho
            have d88 := get_of_at (hneed 15 (of_decide_eq_true (by kernel_rfl)) 88 rfl) (by simp [undef])
            clear hold hneed ho
            (have q0 := (hS.cell (a := ⟨b1, o1 + ni, none⟩) hb1 (by simp)).trans e3; go_simp; exact hK _ _ rfl (Upd.refl [] _))
          | 17, ho =>
            obtain rfl := Option.some.inj ho
            have d85 := get_of_at (hneed 12 (of_decide_eq_true (by kernel_rfl)) 85 rfl) (by simp [undef])
            have d89 := get_of_at (hneed 16 (of_decide_eq_true (by kernel_rfl)) 89 rfl) (by simp [undef])
            clear hold hneed ho
            (go_simp; rw [X2.out]; exact hK _ _ rfl (Upd.refl [] _))
          | 18, ho =>
            obtain rfl := Option.some.inj ho
            have d81 := get_of_at (hneed 8 (of_decide_eq_true (by kernel_rfl)) 81 rfl) (by simp [undef])
            have d90 := get_of_at (hneed 17 (of_decide_eq_true (by kernel_rfl)) 90 rfl) (by simp [undef])
            clear hold hneed ho
            (go_simp; exact hK _ _ rfl (Upd.refl [] _))
          | _ + 19, ho => exact absurd ho (by simp)
        case fin =>
          intro a w' hS hsz hdf hold hvals
          have ha := act_lit hsz hdf (RowIs.cons (at_of_get (hold 0 _ (by kernel_rfl) rfl)) (RowIs.cons (at_of_get (hold 1 _ (by kernel_rfl) rfl)) (RowIs.cons (at_of_get (hold 2 _ (by kernel_rfl) rfl)) (RowIs.cons (at_of_get (hold 3 _ (by kernel_rfl) rfl)) (RowIs.cons (at_of_get (hold 4 _ (by kernel_rfl) rfl)) (RowIs.cons (at_of_get (hold 5 _ (by kernel_rfl) rfl)) (RowIs.cons (at_of_get (hold 6 _ (by kernel_rfl) rfl)) (RowIs.cons (at_of_get (hold 7 _ (by kernel_rfl) rfl)) (RowIs.cons (at_of_get (hold 8 _ (by kernel_rfl) rfl)) (RowIs.cons (at_of_get (hold 9 _ (by kernel_rfl) rfl)) (RowIs.cons (at_of_get (hold 10 _ (by kernel_rfl) rfl)) (RowIs.cons (at_of_get (hold 11 _ (by kernel_rfl) rfl)) (RowIs.cons (at_of_get (hold 12 _ (by kernel_rfl) rfl)) (RowIs.cons (at_of_get (hold 13 _ (by kernel_rfl) rfl)) (RowIs.cons (at_of_get (hold 14 _ (by kernel_rfl) rfl)) (RowIs.cons (at_of_get (hold 15 _ (by kernel_rfl) rfl)) (RowIs.cons (at_of_get (hold 16 _ (by kernel_rfl) rfl)) (RowIs.cons (at_of_get (hold 17 _ (by kernel_rfl) rfl)) (RowIs.cons (at_of_get (hold 18 _ (by kernel_rfl) rfl)) (RowIs.cons (at_of_get (hold 19 _ (by kernel_rfl) rfl)) (RowIs.cons (at_of_get (hold 20 _ (by kernel_rfl) rfl)) (RowIs.cons (at_of_get (hold 21 _ (by kernel_rfl) rfl)) (RowIs.cons (at_of_get (hold 22 _ (by kernel_rfl) rfl)) (RowIs.cons (at_of_get (hold 23 _ (by kernel_rfl) rfl)) (RowIs.cons (at_of_get (hold 24 _ (by kernel_rfl) rfl)) (RowIs.cons (at_of_get (hold 25 _ (by kernel_rfl) rfl)) (RowIs.cons (at_of_get (hold 26 _ (by kernel_rfl) rfl)) (RowIs.cons (at_of_get (hold 27 _ (by kernel_rfl) rfl)) (RowIs.cons (at_of_get (hold 28 _ (by kernel_rfl) rfl)) (RowIs.cons (at_of_get (hold 29 _ (by kernel_rfl) rfl)) (RowIs.cons (at_of_get (hold 30 _ (by kernel_rfl) rfl)) (RowIs.cons (at_of_get (hold 31 _ (by kernel_rfl) rfl)) (RowIs.cons (at_of_get (hold 32 _ (by kernel_rfl) rfl)) (RowIs.cons (at_of_get (hold 33 _ (by kernel_rfl) rfl)) (RowIs.cons (at_of_get (hold 34 _ (by kernel_rfl) rfl)) (RowIs.cons (at_of_get (hold 35 _ (by kernel_rfl) rfl)) (RowIs.cons (at_of_get (hold 36 _ (by kernel_rfl) rfl)) (RowIs.cons (at_of_get (hold 37 _ (by kernel_rfl) rfl)) (RowIs.cons (at_of_get (hold 38 _ (by kernel_rfl) rfl)) (RowIs.cons (at_of_get (hold 39 _ (by kernel_rfl) rfl)) (RowIs.cons (at_of_get (hold 40 _ (by kernel_rfl) rfl)) (RowIs.cons (at_of_get (hold 41 _ (by kernel_rfl) rfl)) (RowIs.cons (at_of_get (hold 42 _ (by kernel_rfl) rfl)) (RowIs.cons (at_of_get (hold 43 _ (by kernel_rfl) rfl)) (RowIs.cons (at_of_get (hold 44 _ (by kernel_rfl) rfl)) (RowIs.cons (at_of_get (hold 45 _ (by kernel_rfl) rfl)) (RowIs.cons (at_of_get (hold 46 _ (by kernel_rfl) rfl)) (RowIs.cons (at_of_get (hold 47 _ (by kernel_rfl) rfl)) (RowIs.cons (at_of_get (hold 48 _ (by kernel_rfl) rfl)) (RowIs.cons (at_of_get (hold 49 _ (by kernel_rfl) rfl)) (RowIs.cons (at_of_get (hold 50 _ (by kernel_rfl) rfl)) (RowIs.cons (at_of_get (hold 51 _ (by kernel_rfl) rfl)) (RowIs.cons (at_of_get (hold 52 _ (by kernel_rfl) rfl)) (RowIs.cons (at_of_get (hold 53 _ (by kernel_rfl) rfl)) (RowIs.cons (at_of_get (hold 54 _ (by kernel_rfl) rfl)) (RowIs.cons (at_of_get (hold 55 _ (by kernel_rfl) rfl)) (RowIs.cons (at_of_get (hold 56 _ (by kernel_rfl) rfl)) (RowIs.cons (at_of_get (hold 57 _ (by kernel_rfl) rfl)) (RowIs.cons (at_of_get (hold 58 _ (by kernel_rfl) rfl)) (RowIs.cons (at_of_get (hold 59 _ (by kernel_rfl) rfl)) (RowIs.cons (at_of_get (hold 60 _ (by kernel_rfl) rfl)) (RowIs.cons (at_of_get (hold 61 _ (by kernel_rfl) rfl)) (RowIs.cons (at_of_get (hold 62 _ (by kernel_rfl) rfl)) (RowIs.cons (at_of_get (hold 63 _ (by kernel_rfl) rfl)) (RowIs.cons (at_of_get (hold 64 _ (by kernel_rfl) rfl)) (RowIs.cons (at_of_get (hold 65 _ (by kernel_rfl) rfl)) (RowIs.cons (at_of_get (hold 66 _ (by kernel_rfl) rfl)) (RowIs.cons (at_of_get (hold 67 _ (by kernel_rfl) rfl)) (RowIs.cons (at_of_get (hold 68 _ (by kernel_rfl) rfl)) (RowIs.cons (at_of_get (hold 69 _ (by kernel_rfl) rfl)) (RowIs.cons (at_of_get (hold 70 _ (by kernel_rfl) rfl)) (RowIs.cons (at_of_get (hold 71 _ (by kernel_rfl) rfl)) (RowIs.cons (at_of_get (hold 72 _ (by kernel_rfl) rfl)) (RowIs.cons (hvals 0 73 rfl) (RowIs.cons (hvals 1 74 rfl) (RowIs.cons (hvals 2 75 rfl) (RowIs.cons (hvals 3 76 rfl) (RowIs.cons (hvals 4 77 rfl) (RowIs.cons (hvals 5 78 rfl) (RowIs.cons (hvals 6 79 rfl) (RowIs.cons (hvals 7 80 rfl) (RowIs.cons (hvals 8 81 rfl) (RowIs.cons (hvals 9 82 rfl) (RowIs.cons (hvals 10 83 rfl) (RowIs.cons (hvals 11 84 rfl) (RowIs.cons (hvals 12 85 rfl) (RowIs.cons (hvals 13 86 rfl) (RowIs.cons (hvals 14 87 rfl) (RowIs.cons (hvals 15 88 rfl) (RowIs.cons (hvals 16 89 rfl) (RowIs.cons (hvals 17 90 rfl) (RowIs.cons (hvals 18 91 rfl) (RowIs.nil _ _))))))))))))))))))))))))))))))))))))))))))))))))))))))))))))))))))))))))))))))))))))))))))))) rfl
          clear hsz hdf hold hvals
          subst ha
          try simp only [List.getElem_toArray, List.getElem_cons_succ, List.getElem_cons_zero]
          have hu2 := hu.trans_nil hS
          clear hS
          go_wp2_with fail
          exact ⟨⟨ni + 1, by omega, by go_num, hu2⟩, by simp [intOf]; omega⟩
      · have i2 : (n : Int) ≤ ni := by omega
        clear hat0 hat1
        go_wp2_with fail
        go_ret
        exact ⟨rfl, t7.trans_nil hu⟩

end Go.Proofs.Ytppbaahaegmgeaa
