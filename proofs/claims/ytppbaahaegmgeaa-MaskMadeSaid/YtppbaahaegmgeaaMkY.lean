/- MaskMade: the walk. -/
import Derived.Test.YtppbaahaegmgeaaMkX2
namespace Go.Proofs.Ytppbaahaegmgeaa
open Go.RowKit

set_option maxRecDepth 100000 in
set_option maxHeartbeats 16000000 in
theorem mmade_walk (w : World) (G : Nat → Int) (hG : RngF G) (a s r : Int) (ha : I64 a) (hs : I64 s) (hr : I64 r) (p : Option Addr) (bs : List Int) (c : Nat) (hb : ByAt w p bs) (hrb : Rng bs) (hbl : bs.length ≤ 9223372036854775807) (hbc : bs.length ≤ c) :
    Calls Try.prog 5 #[.agg (row32 G).toArray, .agg #[.int .i64 a, .int .i64 s, .int .i64 r], .slice p bs.length c] w fun e w' => e = .returned (.bool true) ∧ Upd [] w w' := by
  have hz : ∀ w : World, (zeroValue 22).run Try.prog w = .ok (.agg (row32 fun _ => 0).toArray) w := fun w => by kernel_rfl
  have hzK := zeroK
  have hz16 := zero16
  obtain ⟨n, hn⟩ : ∃ n : Nat, min (bs.length : Int) 500 = n := ⟨min bs.length 500, by omega⟩
  have hB : ByAt w p (bs.take 500) := hb.take 500
  have hBr : Rng (bs.take 500) := hrb.take 500
  have hBl : (bs.take 500).length = n := by rw [List.length_take]; omega
  have k1 : (n : Int) ≤ c := by omega
  have k2 : (0 : Int) ≤ n := by omega
  have k3 : n ≤ 500 := by omega
  have k4 : n ≤ c := by omega
  have k5 : (n : Int) ≤ bs.length := by omega
  have hnr := fun W => near_walk W a s r ha hs hr
  have hno := near_ok a s r
  obtain ⟨a', ha'⟩ : ∃ x, a % 9007199254740992 = x := ⟨_, rfl⟩
  obtain ⟨s', hs'⟩ : ∃ x, s % 9007199254740992 = x := ⟨_, rfl⟩
  obtain ⟨r', hr'⟩ : ∃ x, r % 9007199254740992 = x := ⟨_, rfl⟩
  rw [ha', hs', hr'] at hno hnr
  clear ha' hs' hr' hb hrb
  generalize bs.take 500 = B at *
  have Hn := Lib.hid hn
  have HBl := Lib.hid hBl
  go_enter Try.func5, Try.ntmps5
  go_upto_region 1 with fail
  have u1 := ((Upd.refl [] w).alloc (.cells (row32 G).toArray 23)).alloc (.cells #[.int .i64 a, .int .i64 s, .int .i64 r] 25)
  have hD : Blk ((w.alloc (.cells (row32 G).toArray 23)).alloc (.cells #[.int .i64 a, .int .i64 s, .int .i64 r] 25)) w.heap.size (row32 G) 23 := Blk.alloc (Blk.new w (row32 G).toArray 23) _
  have hN := Blk.new (w.alloc (.cells (row32 G).toArray 23)) #[.int .i64 a, .int .i64 s, .int .i64 r] 25
  rw [World.size_alloc] at hN
  generalize (w.alloc (.cells (row32 G).toArray 23)).alloc (.cells #[.int .i64 a, .int .i64 s, .int .i64 r] 25) = W1 at *
  generalize hd : w.heap.size = D at hD hN ⊢
  obtain ⟨E, hE⟩ : ∃ E, D + 1 = E := ⟨_, rfl⟩
  rw [hE] at hN ⊢
  have hDE : D ≠ E := by omega
  have hEw : w.heap.size ≤ E := by omega
  simp only [List.toList_toArray] at hN
  clear hE hd hn hBl
  go_upto_region 3 with (go_at_call 17; refine (works_walk W1).mono ?_; rintro e W2 ⟨rfl, u2⟩)
  go_upto_region 4 with fail
  rw [Hn.out]
  simp only [Int.toNat_natCast]
  have hN2 := hN.upd_nil u2
  have hD2 := hD.upd_nil u2
  have t2 := u1.trans_nil u2
  have n0 := hN2.cell 0 rfl
  have n1 := hN2.cell 1 rfl
  have n2 := hN2.cell 2 rfl
  clear hN hD u1 u2
  go_upto_region 5 with (go_at_call 18; refine (hnr W2).mono ?_; rintro e W3 ⟨rfl, u3⟩; have hN3 := hN2.upd_nil u3; have z0 := hN3.cell 0 rfl; have z1 := hN3.cell 1 rfl; have z2 := hN3.cell 2 rfl; have f0 := hN3.free 0; have f1 := hN3.free 1; have f2 := hN3.free 2)
  have hN4 := ((hN3.set 0 (.int .i64 a')).set 1 (.int .i64 s')).set 2 (.int .i64 r')
  have hD4 := (((hD2.upd_nil u3).set_ne ⟨E, 0, none⟩ hDE (.int .i64 a')).set_ne ⟨E, 1, none⟩ hDE (.int .i64 s')).set_ne ⟨E, 2, none⟩ hDE (.int .i64 r')
  have t4 := (((t2.trans_nil u3).setCell (p := ⟨E, 0, none⟩) (Or.inr hEw) (.int .i64 a')).setCell (p := ⟨E, 1, none⟩) (Or.inr hEw) (.int .i64 s')).setCell (p := ⟨E, 2, none⟩) (Or.inr hEw) (.int .i64 r')
  clear hN3 hN2 hD2 t2 u3 z0 z1 z2 f0 f1 f2 n0 n1 n2 hnr
  generalize ((W3.setCell ⟨E, 0, none⟩ (.int .i64 a')).setCell ⟨E, 1, none⟩ (.int .i64 s')).setCell ⟨E, 2, none⟩ (.int .i64 r') = W4 at *
  have hKr : ∀ W, Upd [] W4 W → Blk W D (row32 G) 23 := fun W u => hD4.upd_nil u
  have hNc : ∀ W, Upd [] W4 W → W.cell? ⟨E, 0, none⟩ = some (.int .i64 a') ∧ W.cell? ⟨E, 1, none⟩ = some (.int .i64 s') ∧ W.cell? ⟨E, 2, none⟩ = some (.int .i64 r') := fun W u =>
    ⟨(hN4.upd_nil u).cell 0 rfl, (hN4.upd_nil u).cell 1 rfl, (hN4.upd_nil u).cell 2 rfl⟩
  clear hN4 hD4
  have oa : okU a' := hno a' (by simp)
  have os : okU s' := hno s' (by simp)
  have or' : okU r' := hno r' (by simp)
  -- the rows of the nonce
  have hA7 := fun W => uI_ok a' oa W
  have hA8 := fun W => uI_ok s' os W
  have hA9 := fun W => uI_ok r' or' W
  have hX : rowsI [a', s', r'] = rowI a' ++ (rowI s' ++ rowI r') := by simp [rowsI]
  have g7 := rowI_rng a'
  have g8 := rowI_rng s'
  have g9 := rowI_rng r'
  have i7 := rowI_len oa
  have i8 := rowI_len os
  have i9 := rowI_len or'
  have hak := fun W => akey_ok W G hG a' oa
  have hse := fun (W : World) (u : Upd [] W4 W) => seal_ok W G hG a' s' r' hno p B c (hB.upd_nil (t4.trans_nil u)) hBr (by rw [HBl.out]; omega) (by rw [HBl.out]; omega)
  have hsg := fun (W : World) (u : Upd [] W4 W) => sign_walk W G hG p B c (hB.upd_nil (t4.trans_nil u)) hBr (by rw [HBl.out]; omega) (by rw [HBl.out]; omega)
  rw [hX] at hse
  clear oa os or' hno hX
  generalize rowI a' = A7 at *
  generalize rowI s' = A8 at *
  generalize rowI r' = A9 at *
  obtain ⟨l7, h7⟩ : ∃ k, A7.length = k := ⟨_, rfl⟩
  obtain ⟨l8, h8⟩ : ∃ k, A8.length = k := ⟨_, rfl⟩
  obtain ⟨l9, h9⟩ : ∃ k, A9.length = k := ⟨_, rfl⟩
  rw [h7] at hA7 i7
  rw [h8] at hA8 i8
  rw [h9] at hA9 i9
  have H7 := Lib.hid h7
  have H8 := Lib.hid h8
  have H9 := Lib.hid h9
  obtain ⟨n32, h32⟩ : ∃ k, n + 32 = k := ⟨_, rfl⟩
  obtain ⟨n16, h16⟩ : ∃ k, n + 16 = k := ⟨_, rfl⟩
  obtain ⟨F3, hF3⟩ : ∃ F, mac (keyL G) (3 :: B) = F := ⟨_, rfl⟩
  obtain ⟨F2, hF2⟩ : ∃ F, mac (keyL G) (2 :: A7) = F := ⟨_, rfl⟩
  obtain ⟨F1, hF1⟩ : ∃ F, mac (keyL G) (1 :: B) = F := ⟨_, rfl⟩
  obtain ⟨Y, hY⟩ : ∃ Y, outL G (A7 ++ (A8 ++ A9)) B = Y := ⟨_, rfl⟩
  have hYl : Y.length = n := by rw [← hY, outL_len]; exact HBl.out
  have hYr : Rng Y := by rw [← hY]; exact xorB_rng _ _
  obtain ⟨F5, hF5⟩ : ∃ F, mac (keyL G) (5 :: (A7 ++ (A8 ++ (A9 ++ Y)))) = F := ⟨_, rfl⟩
  have e5 : sealL G (A7 ++ (A8 ++ A9)) B = Y ++ (keyL F5).take 16 := by
    unfold sealL tagL macL
    rw [hY, ← hF5]
    simp only [List.append_assoc]
  have e3 : B ++ macL G 3 B = B ++ keyL F3 := by unfold macL; rw [hF3]
  rw [HBl.out, h32, e3] at hsg
  rw [HBl.out, h16, e5] at hse
  rw [hF2] at hak
  have H32 := Lib.hid h32
  have H16 := Lib.hid h16
  have HF3 := Lib.hid hF3
  have HF2 := Lib.hid hF2
  have HF1 := Lib.hid hF1
  have HF5 := Lib.hid hF5
  have HYl := Lib.hid hYl
  clear h7 h8 h9 h32 h16 hF3 hF2 hF1 hF5 hY e5 e3 hYl
  obtain ⟨m0, m1, m2⟩ := hNc W4 (Upd.refl [] _)
  go_upto_region 6 with (go_at_call 19; refine (hA7 W4).mono ?_; rintro e W5 ⟨q7, c7, rfl, o7, d7, u5⟩)
  clear m0 m1 m2
  obtain ⟨m0, m1, m2⟩ := hNc W5 u5
  go_upto_region 7 with (go_at_call 19; refine (hA8 W5).mono ?_; rintro e W6 ⟨q8, c8, rfl, o8, d8, u6⟩)
  have v6 := u5.trans_nil u6
  clear m0 m1 m2
  obtain ⟨m0, m1, m2⟩ := hNc W6 v6
  go_upto_region 8 with (go_at_call 19; refine (hA9 W6).mono ?_; rintro e W7 ⟨q9, c9, rfl, o9, d9, u7⟩)
  have v7 := v6.trans_nil u7
  have o7' := (o7.upd_nil u6).upd_nil u7
  have o8' := o8.upd_nil u7
  clear m0 m1 m2 o7 o8 hA7 hA8 hA9 u6 u5
  go_upto_region 9 with (first
    | (go_at_call 20; refine (hsg W7 v7).mono ?_; rintro e W8 ⟨p8, cs, rfl, os, u8⟩)
    | (refine wpList_load_row rfl _ _ rfl D rfl _ (row32 G).toArray _ _ (hKr W7 v7) Try.underlying23 rfl (infoK G) ?_))
  have v8 := v7.trans_nil u8
  have ls := own_cap os
  have asn := os.at_
  obtain ⟨m0, m1, m2⟩ := hNc W8 v8
  clear os hsg
  go_upto_region 10 with (first
    | (have tok := u8; go_at_call 21; refine (hak W8).mono ?_; rintro e W9 ⟨rfl, u9⟩; have hC := Blk.new W9 (row32 fun _ => 0).toArray 23)
    | (have tok := u9; refine wpList_store_rowTo rfl _ _ _ rfl rfl _ (row32 F2).toArray rfl rfl _ (row32 fun _ => 0).toArray hC (infoK _) (size32 _ _) (one32 _) ?_)
    | (refine wpList_load_row rfl _ _ rfl D rfl _ (row32 G).toArray _ _ (hKr W8 v8) Try.underlying23 rfl (infoK G) ?_))
  have hC10 := hC.setRow (row32 F2).toArray
  have t9 := t4.trans_nil (v8.trans_nil u9)
  have u10 := (Upd.refl [] W9).alloc (.cells (row32 fun _ => 0).toArray 23)
  have u10' := u10.setRow (b := W9.heap.size) (Or.inr (by simp)) (row32 F2).toArray
  generalize hW10 : (W9.alloc (.cells (row32 fun _ => 0).toArray 23)).setRow W9.heap.size (row32 F2).toArray = W10 at *
  obtain ⟨C, hCC⟩ : ∃ C, W9.heap.size = C := ⟨_, rfl⟩
  rw [hCC] at hC10 ⊢
  have v10 := (v8.trans_nil u9).trans_nil u10'
  have r10 := (u8.trans_nil u9).trans_nil u10'
  have as10 := (asn.upd_nil u9).upd_nil u10'
  have hCw : w.heap.size ≤ C := by rw [← hCC]; exact t9.size
  try simp only [List.toList_toArray] at hC10
  clear hW10 hCC u10 u10' hC t9 asn u8 u9 hak m0 m1 m2
  obtain ⟨m0, m1, m2⟩ := hNc W10 v10
  go_upto_region 11 with (first
    | (go_at_call 11; refine (hse W10 v10).mono ?_; rintro e W11 ⟨px, cx, rfl, ox, u11⟩)
    | (have tok := m0; refine wpList_load_row rfl _ _ rfl D rfl _ (row32 G).toArray _ _ (hKr W10 v10) Try.underlying23 rfl (infoK G) ?_))
  have lx := own_cap ox
  have ax := ox.at_
  have as11 := as10.upd_nil u11
  have hC11 := hC10.upd_nil u11
  have v11 := v10.trans_nil u11
  have r11 := r10.trans_nil u11
  have a7 := o7'.upd_nil r11
  have a8 := o8'.upd_nil r11
  have a9 := o9.upd_nil r11
  have e32 : (n : Int) + 32 = (n32 : Int) := by have := H32.out; omega
  have e16 : (n : Int) + 16 = (n16 : Int) := by have := H16.out; omega
  have x32 : (32 : Int) ≤ (n32 : Int) := by omega
  have x16 : (16 : Int) ≤ (n16 : Int) := by omega
  clear as10 hC10 ox r10 r11 o7' o8' o9 hse m0 m1 m2 u11 v8 v7 v6 v10
  go_upto_region 13 with fail
  have t11 := t4.trans_nil v11
  have hKr11 := fun (W : World) (u : Upd [] W11 W) => hKr W (v11.trans_nil u)
  have hw3 : ∀ W, Upd [] W11 W → ∀ b b9, Blk W b [.slice (some ⟨b9, 0, none⟩) 1 1, .slice p n c] 26 → Blk W b9 [.int .u8 3] 5 →
      Calls Try.prog 22 #[.slice (some ⟨D, 0, none⟩) 32 32, .slice (some ⟨b, 0, none⟩) 2 2] W fun e w' => e = .returned (agg32 F3) ∧ Upd [] W w' := fun W u b b9 hb hb9 =>
    wax_two W D G hG _ (hKr11 W u) b b9 3 (by omega) p B n c hb hb9 HBl.out (hB.upd_nil (t11.trans_nil u)) hBr k4 (by omega) F3 HF3.out 2
  have hw1 : ∀ W, Upd [] W11 W → ∀ b b9, Blk W b [.slice (some ⟨b9, 0, none⟩) 1 1, .slice p n c] 26 → Blk W b9 [.int .u8 1] 5 →
      Calls Try.prog 22 #[.slice (some ⟨D, 0, none⟩) 32 32, .slice (some ⟨b, 0, none⟩) 2 2] W fun e w' => e = .returned (agg32 F1) ∧ Upd [] W w' := fun W u b b9 hb hb9 =>
    wax_two W D G hG _ (hKr11 W u) b b9 1 (by omega) p B n c hb hb9 HBl.out (hB.upd_nil (t11.trans_nil u)) hBr k4 (by omega) F1 HF1.out 2
  have hw2 : ∀ W, Upd [] W11 W → ∀ b b9, Blk W b [.slice (some ⟨b9, 0, none⟩) 1 1, .slice q7 l7 c7] 26 → Blk W b9 [.int .u8 2] 5 →
      Calls Try.prog 22 #[.slice (some ⟨D, 0, none⟩) 32 32, .slice (some ⟨b, 0, none⟩) 2 2] W fun e w' => e = .returned (agg32 F2) ∧ Upd [] W w' := fun W u b b9 hb hb9 =>
    wax_two W D G hG _ (hKr11 W u) b b9 2 (by omega) q7 A7 l7 c7 hb hb9 H7.out (a7.upd_nil u) g7 d7 (by omega) F2 HF2.out 2
  clear v11 hNc
  refine wp_region_head4 18 [(.s (.eq (.slice (some ⟨D, 0, none⟩) 32 32))), (.s (.sl 1 1 [.int .u8 3] 5)), (.s (.eq (.slice p n c))), (isTwo 3 (.slice p n c)), (.s (.eq (.agg (row32 F3).toArray))), (.s (.eq (.slice (some ⟨D, 0, none⟩) 32 32))), (.s (.sl 1 1 [.int .u8 2] 5)), (.s (.eq (.slice q7 l7 c7))), (isTwo 2 (.slice q7 l7 c7)), (.s (.eq (.agg (row32 F2).toArray))), (.s (.eq (.slice (some ⟨D, 0, none⟩) 32 32))), (.s (.sl 1 1 [.int .u8 1] 5)), (.s (.eq (.slice p n c))), (isTwo 1 (.slice p n c)), (.s (.eq (.agg (row32 F1).toArray))), (.s (.pt (row32 fun _ => 0) 22)), (.s (.pt (row32 fun _ => 0) 22)), (.s (.pt (row32 fun _ => 0) 22))] (by kernel_rfl) (by kernel_rfl) (by kernel_rfl) rfl ?step ?fin
  case step =>
    intro i o him ho a w' hS hold hneed K' hK
    match i, him, ho with
    | 0, _, ho =>
      obtain rfl := Option.some.inj ho
      replace hK := fun v w1 h u => hK v w1 h trivial u
      have d3 := hold 3 _ (by kernel_rfl) rfl
      clear hold hneed ho
      (go_simp; exact hK _ _ rfl (Upd.refl [] _))
    | 1, _, ho =>
      obtain rfl := Option.some.inj ho
      replace hK := fun v w1 h u => hK v w1 h trivial u
      clear hold hneed ho
      (go_simp; exact hK _ _ ⟨_, rfl, Blk.new _ _ _⟩ ((Upd.refl [] _).alloc _))
    | 2, _, ho =>
      obtain rfl := Option.some.inj ho
      replace hK := fun v w1 h u => hK v w1 h trivial u
      have d2 := hold 2 _ (by kernel_rfl) rfl
      clear hold hneed ho
      (go_simp; exact hK _ _ rfl (Upd.refl [] _))
    | 3, _, ho =>
      obtain rfl := Option.some.inj ho
      replace hK := fun v w1 h u => hK v w1 h trivial u
      obtain ⟨b96, e96, hB96⟩ := hneed 1 (of_decide_eq_true (by kernel_rfl)) 96 rfl
      have d96 := get_of_at e96 (by simp [undef])
      have d97 := get_of_at (hneed 2 (of_decide_eq_true (by kernel_rfl)) 97 rfl) (by simp [undef])
      clear hold hneed ho
      (go_simp; exact hK _ _ ⟨_, _, rfl, Blk.new _ _ _, hB96.upd_nil ((Upd.refl [] _).alloc _)⟩ ((Upd.refl [] _).alloc _))
    | 4, _, ho =>
      obtain rfl := Option.some.inj ho
      replace hK := fun v w1 h u => hK v w1 h trivial u
      have d95 := get_of_at (hneed 0 (of_decide_eq_true (by kernel_rfl)) 95 rfl) (by simp [undef])
      have R98 := hneed 3 (of_decide_eq_true (by kernel_rfl)) 98 rfl
      clear hold hneed ho
      (obtain ⟨b, b9, e98, hb, hb9⟩ := R98; have d98 := get_of_at e98 (by simp [undef]); go_simp; refine (hw3 _ hS b b9 hb hb9).mono ?_; rintro e w3 ⟨rfl, hu3⟩; exact hK _ _ rfl hu3)
    | 5, _, ho =>
      obtain rfl := Option.some.inj ho
      replace hK := fun v w1 h u => hK v w1 h trivial u
      have d3 := hold 3 _ (by kernel_rfl) rfl
      clear hold hneed ho
      (go_simp; exact hK _ _ rfl (Upd.refl [] _))
    | 6, _, ho =>
      obtain rfl := Option.some.inj ho
      replace hK := fun v w1 h u => hK v w1 h trivial u
      clear hold hneed ho
      (go_simp; exact hK _ _ ⟨_, rfl, Blk.new _ _ _⟩ ((Upd.refl [] _).alloc _))
    | 7, _, ho =>
      obtain rfl := Option.some.inj ho
      replace hK := fun v w1 h u => hK v w1 h trivial u
      have d7 := hold 7 _ (by kernel_rfl) rfl
      clear hold hneed ho
      (go_simp; exact hK _ _ rfl (Upd.refl [] _))
    | 8, _, ho =>
      obtain rfl := Option.some.inj ho
      replace hK := fun v w1 h u => hK v w1 h trivial u
      obtain ⟨b101, e101, hB101⟩ := hneed 6 (of_decide_eq_true (by kernel_rfl)) 101 rfl
      have d101 := get_of_at e101 (by simp [undef])
      have d102 := get_of_at (hneed 7 (of_decide_eq_true (by kernel_rfl)) 102 rfl) (by simp [undef])
      clear hold hneed ho
      (go_simp; exact hK _ _ ⟨_, _, rfl, Blk.new _ _ _, hB101.upd_nil ((Upd.refl [] _).alloc _)⟩ ((Upd.refl [] _).alloc _))
    | 9, _, ho =>
      obtain rfl := Option.some.inj ho
      replace hK := fun v w1 h u => hK v w1 h trivial u
      have d100 := get_of_at (hneed 5 (of_decide_eq_true (by kernel_rfl)) 100 rfl) (by simp [undef])
      have R103 := hneed 8 (of_decide_eq_true (by kernel_rfl)) 103 rfl
      clear hold hneed ho
      (obtain ⟨b, b9, e103, hb, hb9⟩ := R103; have d103 := get_of_at e103 (by simp [undef]); go_simp; refine (hw2 _ hS b b9 hb hb9).mono ?_; rintro e w3 ⟨rfl, hu3⟩; exact hK _ _ rfl hu3)
    | 10, _, ho =>
      obtain rfl := Option.some.inj ho
      replace hK := fun v w1 h u => hK v w1 h trivial u
      have d3 := hold 3 _ (by kernel_rfl) rfl
      clear hold hneed ho
      (go_simp; exact hK _ _ rfl (Upd.refl [] _))
    | 11, _, ho =>
      obtain rfl := Option.some.inj ho
      replace hK := fun v w1 h u => hK v w1 h trivial u
      clear hold hneed ho
      (go_simp; exact hK _ _ ⟨_, rfl, Blk.new _ _ _⟩ ((Upd.refl [] _).alloc _))
    | 12, _, ho =>
      obtain rfl := Option.some.inj ho
      replace hK := fun v w1 h u => hK v w1 h trivial u
      have d2 := hold 2 _ (by kernel_rfl) rfl
      clear hold hneed ho
      (go_simp; exact hK _ _ rfl (Upd.refl [] _))
    | 13, _, ho =>
      obtain rfl := Option.some.inj ho
      replace hK := fun v w1 h u => hK v w1 h trivial u
      obtain ⟨b106, e106, hB106⟩ := hneed 11 (of_decide_eq_true (by kernel_rfl)) 106 rfl
      have d106 := get_of_at e106 (by simp [undef])
      have d107 := get_of_at (hneed 12 (of_decide_eq_true (by kernel_rfl)) 107 rfl) (by simp [undef])
      clear hold hneed ho
      (go_simp; exact hK _ _ ⟨_, _, rfl, Blk.new _ _ _, hB106.upd_nil ((Upd.refl [] _).alloc _)⟩ ((Upd.refl [] _).alloc _))
    | 14, _, ho =>
      obtain rfl := Option.some.inj ho
      replace hK := fun v w1 h u => hK v w1 h trivial u
      have d105 := get_of_at (hneed 10 (of_decide_eq_true (by kernel_rfl)) 105 rfl) (by simp [undef])
      have R108 := hneed 13 (of_decide_eq_true (by kernel_rfl)) 108 rfl
      clear hold hneed ho
      (obtain ⟨b, b9, e108, hb, hb9⟩ := R108; have d108 := get_of_at e108 (by simp [undef]); go_simp; refine (hw1 _ hS b b9 hb hb9).mono ?_; rintro e w3 ⟨rfl, hu3⟩; exact hK _ _ rfl hu3)
    | 15, _, ho =>
      obtain rfl := Option.some.inj ho
      clear hold hneed ho
      (go_simp; exact hK _ _ ⟨_, rfl, Blk.new _ _ _⟩ ⟨_, rfl, Nat.le_refl _⟩ ((Upd.refl [] _).alloc _))
    | 16, _, ho =>
      obtain rfl := Option.some.inj ho
      clear hold hneed ho
      (go_simp; exact hK _ _ ⟨_, rfl, Blk.new _ _ _⟩ ⟨_, rfl, Nat.le_refl _⟩ ((Upd.refl [] _).alloc _))
    | 17, _, ho =>
      obtain rfl := Option.some.inj ho
      clear hold hneed ho
      (go_simp; exact hK _ _ ⟨_, rfl, Blk.new _ _ _⟩ ⟨_, rfl, Nat.le_refl _⟩ ((Upd.refl [] _).alloc _))
    | _ + 18, him, _ => exact absurd him (by omega)
  case fin =>
    intro a w' hS hsz hdf hold hvals hnew hap
    obtain ⟨b18, hv18, hB18⟩ := hvals 15 18 (of_decide_eq_true (by kernel_rfl)) rfl
    obtain ⟨b', h1, hN18⟩ := hnew 15 18 (of_decide_eq_true (by kernel_rfl)) rfl rfl
    rw [hv18] at h1
    have e' := Option.some.inj h1
    rw [← e'] at hN18
    clear h1 e'
    dsimp only at hN18
    obtain ⟨b19, hv19, hB19⟩ := hvals 16 19 (of_decide_eq_true (by kernel_rfl)) rfl
    obtain ⟨b', h1, hN19⟩ := hnew 16 19 (of_decide_eq_true (by kernel_rfl)) rfl rfl
    rw [hv19] at h1
    have e' := Option.some.inj h1
    rw [← e'] at hN19
    clear h1 e'
    dsimp only at hN19
    obtain ⟨b20, hv20, hB20⟩ := hvals 17 20 (of_decide_eq_true (by kernel_rfl)) rfl
    obtain ⟨b', h1, hN20⟩ := hnew 17 20 (of_decide_eq_true (by kernel_rfl)) rfl rfl
    rw [hv20] at h1
    have e' := Option.some.inj h1
    rw [← e'] at hN20
    clear h1 e'
    dsimp only at hN20
    obtain ⟨b96, hv96, hB96⟩ := hvals 1 96 (of_decide_eq_true (by kernel_rfl)) rfl
    have R98 := hvals 3 98 (of_decide_eq_true (by kernel_rfl)) rfl
    obtain ⟨v98, hv98⟩ : ∃ v, at_ a 98 = v := ⟨_, rfl⟩
    rw [hv98] at R98
    obtain ⟨b101, hv101, hB101⟩ := hvals 6 101 (of_decide_eq_true (by kernel_rfl)) rfl
    have R103 := hvals 8 103 (of_decide_eq_true (by kernel_rfl)) rfl
    obtain ⟨v103, hv103⟩ : ∃ v, at_ a 103 = v := ⟨_, rfl⟩
    rw [hv103] at R103
    obtain ⟨b106, hv106, hB106⟩ := hvals 11 106 (of_decide_eq_true (by kernel_rfl)) rfl
    have R108 := hvals 13 108 (of_decide_eq_true (by kernel_rfl)) rfl
    obtain ⟨v108, hv108⟩ : ∃ v, at_ a 108 = v := ⟨_, rfl⟩
    rw [hv108] at R108
    have ha := act_lit hsz hdf (RowIs.cons (at_of_get (hold 0 _ (by kernel_rfl) rfl)) (RowIs.cons (at_of_get (hold 1 _ (by kernel_rfl) rfl)) (RowIs.cons (at_of_get (hold 2 _ (by kernel_rfl) rfl)) (RowIs.cons (at_of_get (hold 3 _ (by kernel_rfl) rfl)) (RowIs.cons (at_of_get (hold 4 _ (by kernel_rfl) rfl)) (RowIs.cons (at_of_get (hold 5 _ (by kernel_rfl) rfl)) (RowIs.cons (at_of_get (hold 6 _ (by kernel_rfl) rfl)) (RowIs.cons (at_of_get (hold 7 _ (by kernel_rfl) rfl)) (RowIs.cons (at_of_get (hold 8 _ (by kernel_rfl) rfl)) (RowIs.cons (at_of_get (hold 9 _ (by kernel_rfl) rfl)) (RowIs.cons (at_of_get (hold 10 _ (by kernel_rfl) rfl)) (RowIs.cons (at_of_get (hold 11 _ (by kernel_rfl) rfl)) (RowIs.cons (at_of_get (hold 12 _ (by kernel_rfl) rfl)) (RowIs.cons (at_of_get (hold 13 _ (by kernel_rfl) rfl)) (RowIs.cons (at_of_get (hold 14 _ (by kernel_rfl) rfl)) (RowIs.cons (at_of_get (hold 15 _ (by kernel_rfl) rfl)) (RowIs.cons (at_of_get (hold 16 _ (by kernel_rfl) rfl)) (RowIs.cons (at_of_get (hold 17 _ (by kernel_rfl) rfl)) (RowIs.cons hv18 (RowIs.cons hv19 (RowIs.cons hv20 (RowIs.cons (at_of_get (hold 21 _ (by kernel_rfl) rfl)) (RowIs.cons (at_of_get (hold 22 _ (by kernel_rfl) rfl)) (RowIs.cons (at_of_get (hold 23 _ (by kernel_rfl) rfl)) (RowIs.cons (at_of_get (hold 24 _ (by kernel_rfl) rfl)) (RowIs.cons (at_of_get (hold 25 _ (by kernel_rfl) rfl)) (RowIs.cons (at_of_get (hold 26 _ (by kernel_rfl) rfl)) (RowIs.cons (at_of_get (hold 27 _ (by kernel_rfl) rfl)) (RowIs.cons (at_of_get (hold 28 _ (by kernel_rfl) rfl)) (RowIs.cons (at_of_get (hold 29 _ (by kernel_rfl) rfl)) (RowIs.cons (at_of_get (hold 30 _ (by kernel_rfl) rfl)) (RowIs.cons (at_of_get (hold 31 _ (by kernel_rfl) rfl)) (RowIs.cons (at_of_get (hold 32 _ (by kernel_rfl) rfl)) (RowIs.cons (at_of_get (hold 33 _ (by kernel_rfl) rfl)) (RowIs.cons (at_of_get (hold 34 _ (by kernel_rfl) rfl)) (RowIs.cons (at_of_get (hold 35 _ (by kernel_rfl) rfl)) (RowIs.cons (at_of_get (hold 36 _ (by kernel_rfl) rfl)) (RowIs.cons (at_of_get (hold 37 _ (by kernel_rfl) rfl)) (RowIs.cons (at_of_get (hold 38 _ (by kernel_rfl) rfl)) (RowIs.cons (at_of_get (hold 39 _ (by kernel_rfl) rfl)) (RowIs.cons (at_of_get (hold 40 _ (by kernel_rfl) rfl)) (RowIs.cons (at_of_get (hold 41 _ (by kernel_rfl) rfl)) (RowIs.cons (at_of_get (hold 42 _ (by kernel_rfl) rfl)) (RowIs.cons (at_of_get (hold 43 _ (by kernel_rfl) rfl)) (RowIs.cons (at_of_get (hold 44 _ (by kernel_rfl) rfl)) (RowIs.cons (at_of_get (hold 45 _ (by kernel_rfl) rfl)) (RowIs.cons (at_of_get (hold 46 _ (by kernel_rfl) rfl)) (RowIs.cons (at_of_get (hold 47 _ (by kernel_rfl) rfl)) (RowIs.cons (at_of_get (hold 48 _ (by kernel_rfl) rfl)) (RowIs.cons (at_of_get (hold 49 _ (by kernel_rfl) rfl)) (RowIs.cons (at_of_get (hold 50 _ (by kernel_rfl) rfl)) (RowIs.cons (at_of_get (hold 51 _ (by kernel_rfl) rfl)) (RowIs.cons (at_of_get (hold 52 _ (by kernel_rfl) rfl)) (RowIs.cons (at_of_get (hold 53 _ (by kernel_rfl) rfl)) (RowIs.cons (at_of_get (hold 54 _ (by kernel_rfl) rfl)) (RowIs.cons (at_of_get (hold 55 _ (by kernel_rfl) rfl)) (RowIs.cons (at_of_get (hold 56 _ (by kernel_rfl) rfl)) (RowIs.cons (at_of_get (hold 57 _ (by kernel_rfl) rfl)) (RowIs.cons (at_of_get (hold 58 _ (by kernel_rfl) rfl)) (RowIs.cons (at_of_get (hold 59 _ (by kernel_rfl) rfl)) (RowIs.cons (at_of_get (hold 60 _ (by kernel_rfl) rfl)) (RowIs.cons (at_of_get (hold 61 _ (by kernel_rfl) rfl)) (RowIs.cons (at_of_get (hold 62 _ (by kernel_rfl) rfl)) (RowIs.cons (at_of_get (hold 63 _ (by kernel_rfl) rfl)) (RowIs.cons (at_of_get (hold 64 _ (by kernel_rfl) rfl)) (RowIs.cons (at_of_get (hold 65 _ (by kernel_rfl) rfl)) (RowIs.cons (at_of_get (hold 66 _ (by kernel_rfl) rfl)) (RowIs.cons (at_of_get (hold 67 _ (by kernel_rfl) rfl)) (RowIs.cons (at_of_get (hold 68 _ (by kernel_rfl) rfl)) (RowIs.cons (at_of_get (hold 69 _ (by kernel_rfl) rfl)) (RowIs.cons (at_of_get (hold 70 _ (by kernel_rfl) rfl)) (RowIs.cons (at_of_get (hold 71 _ (by kernel_rfl) rfl)) (RowIs.cons (at_of_get (hold 72 _ (by kernel_rfl) rfl)) (RowIs.cons (at_of_get (hold 73 _ (by kernel_rfl) rfl)) (RowIs.cons (at_of_get (hold 74 _ (by kernel_rfl) rfl)) (RowIs.cons (at_of_get (hold 75 _ (by kernel_rfl) rfl)) (RowIs.cons (at_of_get (hold 76 _ (by kernel_rfl) rfl)) (RowIs.cons (at_of_get (hold 77 _ (by kernel_rfl) rfl)) (RowIs.cons (at_of_get (hold 78 _ (by kernel_rfl) rfl)) (RowIs.cons (at_of_get (hold 79 _ (by kernel_rfl) rfl)) (RowIs.cons (at_of_get (hold 80 _ (by kernel_rfl) rfl)) (RowIs.cons (at_of_get (hold 81 _ (by kernel_rfl) rfl)) (RowIs.cons (at_of_get (hold 82 _ (by kernel_rfl) rfl)) (RowIs.cons (at_of_get (hold 83 _ (by kernel_rfl) rfl)) (RowIs.cons (at_of_get (hold 84 _ (by kernel_rfl) rfl)) (RowIs.cons (at_of_get (hold 85 _ (by kernel_rfl) rfl)) (RowIs.cons (at_of_get (hold 86 _ (by kernel_rfl) rfl)) (RowIs.cons (at_of_get (hold 87 _ (by kernel_rfl) rfl)) (RowIs.cons (at_of_get (hold 88 _ (by kernel_rfl) rfl)) (RowIs.cons (at_of_get (hold 89 _ (by kernel_rfl) rfl)) (RowIs.cons (at_of_get (hold 90 _ (by kernel_rfl) rfl)) (RowIs.cons (at_of_get (hold 91 _ (by kernel_rfl) rfl)) (RowIs.cons (at_of_get (hold 92 _ (by kernel_rfl) rfl)) (RowIs.cons (at_of_get (hold 93 _ (by kernel_rfl) rfl)) (RowIs.cons (at_of_get (hold 94 _ (by kernel_rfl) rfl)) (RowIs.cons (hvals 0 95 (of_decide_eq_true (by kernel_rfl)) rfl) (RowIs.cons hv96 (RowIs.cons (hvals 2 97 (of_decide_eq_true (by kernel_rfl)) rfl) (RowIs.cons hv98 (RowIs.cons (hvals 4 99 (of_decide_eq_true (by kernel_rfl)) rfl) (RowIs.cons (hvals 5 100 (of_decide_eq_true (by kernel_rfl)) rfl) (RowIs.cons hv101 (RowIs.cons (hvals 7 102 (of_decide_eq_true (by kernel_rfl)) rfl) (RowIs.cons hv103 (RowIs.cons (hvals 9 104 (of_decide_eq_true (by kernel_rfl)) rfl) (RowIs.cons (hvals 10 105 (of_decide_eq_true (by kernel_rfl)) rfl) (RowIs.cons hv106 (RowIs.cons (hvals 12 107 (of_decide_eq_true (by kernel_rfl)) rfl) (RowIs.cons hv108 (RowIs.cons (hvals 14 109 (of_decide_eq_true (by kernel_rfl)) rfl) (RowIs.cons (at_of_get (hold 110 _ (by kernel_rfl) rfl)) (RowIs.cons (at_of_get (hold 111 _ (by kernel_rfl) rfl)) (RowIs.cons (at_of_get (hold 112 _ (by kernel_rfl) rfl)) (RowIs.cons (at_of_get (hold 113 _ (by kernel_rfl) rfl)) (RowIs.cons (at_of_get (hold 114 _ (by kernel_rfl) rfl)) (RowIs.cons (at_of_get (hold 115 _ (by kernel_rfl) rfl)) (RowIs.cons (at_of_get (hold 116 _ (by kernel_rfl) rfl)) (RowIs.cons (at_of_get (hold 117 _ (by kernel_rfl) rfl)) (RowIs.cons (at_of_get (hold 118 _ (by kernel_rfl) rfl)) (RowIs.cons (at_of_get (hold 119 _ (by kernel_rfl) rfl)) (RowIs.cons (at_of_get (hold 120 _ (by kernel_rfl) rfl)) (RowIs.cons (at_of_get (hold 121 _ (by kernel_rfl) rfl)) (RowIs.cons (at_of_get (hold 122 _ (by kernel_rfl) rfl)) (RowIs.cons (at_of_get (hold 123 _ (by kernel_rfl) rfl)) (RowIs.cons (at_of_get (hold 124 _ (by kernel_rfl) rfl)) (RowIs.cons (at_of_get (hold 125 _ (by kernel_rfl) rfl)) (RowIs.cons (at_of_get (hold 126 _ (by kernel_rfl) rfl)) (RowIs.cons (at_of_get (hold 127 _ (by kernel_rfl) rfl)) (RowIs.cons (at_of_get (hold 128 _ (by kernel_rfl) rfl)) (RowIs.cons (at_of_get (hold 129 _ (by kernel_rfl) rfl)) (RowIs.cons (at_of_get (hold 130 _ (by kernel_rfl) rfl)) (RowIs.cons (at_of_get (hold 131 _ (by kernel_rfl) rfl)) (RowIs.cons (at_of_get (hold 132 _ (by kernel_rfl) rfl)) (RowIs.cons (at_of_get (hold 133 _ (by kernel_rfl) rfl)) (RowIs.cons (at_of_get (hold 134 _ (by kernel_rfl) rfl)) (RowIs.cons (at_of_get (hold 135 _ (by kernel_rfl) rfl)) (RowIs.cons (at_of_get (hold 136 _ (by kernel_rfl) rfl)) (RowIs.cons (at_of_get (hold 137 _ (by kernel_rfl) rfl)) (RowIs.cons (at_of_get (hold 138 _ (by kernel_rfl) rfl)) (RowIs.cons (at_of_get (hold 139 _ (by kernel_rfl) rfl)) (RowIs.cons (at_of_get (hold 140 _ (by kernel_rfl) rfl)) (RowIs.cons (at_of_get (hold 141 _ (by kernel_rfl) rfl)) (RowIs.cons (at_of_get (hold 142 _ (by kernel_rfl) rfl)) (RowIs.cons (at_of_get (hold 143 _ (by kernel_rfl) rfl)) (RowIs.cons (at_of_get (hold 144 _ (by kernel_rfl) rfl)) (RowIs.cons (at_of_get (hold 145 _ (by kernel_rfl) rfl)) (RowIs.cons (at_of_get (hold 146 _ (by kernel_rfl) rfl)) (RowIs.cons (at_of_get (hold 147 _ (by kernel_rfl) rfl)) (RowIs.cons (at_of_get (hold 148 _ (by kernel_rfl) rfl)) (RowIs.cons (at_of_get (hold 149 _ (by kernel_rfl) rfl)) (RowIs.cons (at_of_get (hold 150 _ (by kernel_rfl) rfl)) (RowIs.cons (at_of_get (hold 151 _ (by kernel_rfl) rfl)) (RowIs.cons (at_of_get (hold 152 _ (by kernel_rfl) rfl)) (RowIs.cons (at_of_get (hold 153 _ (by kernel_rfl) rfl)) (RowIs.cons (at_of_get (hold 154 _ (by kernel_rfl) rfl)) (RowIs.cons (at_of_get (hold 155 _ (by kernel_rfl) rfl)) (RowIs.cons (at_of_get (hold 156 _ (by kernel_rfl) rfl)) (RowIs.nil _ _)))))))))))))))))))))))))))))))))))))))))))))))))))))))))))))))))))))))))))))))))))))))))))))))))))))))))))))))))))))))))))))))))))))))))))))))))))))))))))))) rfl
    have ne18_19 : b18 ≠ b19 := by have h := hap 15 16 18 19 (by omega) (by omega) (by omega) rfl rfl rfl rfl; rw [hv18, hv19] at h; exact fun e => h (by rw [e])
    have ne18_20 : b18 ≠ b20 := by have h := hap 15 17 18 20 (by omega) (by omega) (by omega) rfl rfl rfl rfl; rw [hv18, hv20] at h; exact fun e => h (by rw [e])
    have ne19_20 : b19 ≠ b20 := by have h := hap 16 17 19 20 (by omega) (by omega) (by omega) rfl rfl rfl rfl; rw [hv19, hv20] at h; exact fun e => h (by rw [e])
    clear hsz hdf hold hvals hnew hap
    subst ha
    simp only [List.getElem_toArray, List.getElem_cons_succ, List.getElem_cons_zero, List.drop_succ_cons, List.drop_zero]
    have t12 := t11.trans_nil hS
    go_upto_region 14 with (first
      | (refine wpList_store_rowTo rfl _ _ _ rfl rfl _ (row32 F3).toArray rfl rfl _ (row32 fun _ => 0).toArray hB18 (info32 _) (size32 _ _) (one32 _) ?_)
      | (refine wpList_store_rowTo rfl _ _ _ rfl rfl _ (row32 F2).toArray rfl rfl _ (row32 fun _ => 0).toArray (hB19.setRow_ne (Ne.symm ne18_19) (row32 F3).toArray) (info32 _) (size32 _ _) (one32 _) ?_)
      | (refine wpList_store_rowTo rfl _ _ _ rfl rfl _ (row32 F1).toArray rfl rfl _ (row32 fun _ => 0).toArray ((hB20.setRow_ne (Ne.symm ne18_20) (row32 F3).toArray).setRow_ne (Ne.symm ne19_20) (row32 F2).toArray) (info32 _) (size32 _ _) (one32 _) ?_))
    have c18 := ((hB18.setRow (row32 F3).toArray).setRow_ne ne18_19 (row32 F2).toArray).setRow_ne ne18_20 (row32 F1).toArray
    have c19 := ((hB19.setRow_ne (Ne.symm ne18_19) (row32 F3).toArray).setRow (row32 F2).toArray).setRow_ne ne19_20 (row32 F1).toArray
    have c20 := ((hB20.setRow_ne (Ne.symm ne18_20) (row32 F3).toArray).setRow_ne (Ne.symm ne19_20) (row32 F2).toArray).setRow (row32 F1).toArray
    have v12 := ((hS.setRow (b := b18) (Or.inr hN18) (row32 F3).toArray).setRow (b := b19) (Or.inr hN19) (row32 F2).toArray).setRow (b := b20) (Or.inr hN20) (row32 F1).toArray
    simp only [List.toList_toArray] at c18 c19 c20
    clear hB18 hB19 hB20 hS ne18_19 ne18_20 ne19_20 hN18 hN19 hN20 t12 hw1 hw2 hw3
    generalize ((w'.setRow b18 (row32 F3).toArray).setRow b19 (row32 F2).toArray).setRow b20 (row32 F1).toArray = W12 at *
    have hKr12 := fun (W : World) (u : Upd [] W12 W) => hKr11 W (v12.trans_nil u)
    have aY := ax.take n
    rw [List.take_left' HYl.out] at aY
    have k6 : (n : Int) ≤ (cx : Int) := by omega
    have hwn : IntKind.i64.wrap (n : Int) = n := IntWalk.i64_in _ (by omega)
    have Hwn := Lib.hid hwn
    clear hwn
    have hw5 : ∀ W, Upd [] W12 W → ∀ b b9, Blk W b [.slice (some ⟨b9, 0, none⟩) 1 1, .slice q7 l7 c7, .slice q8 l8 c8, .slice q9 l9 c9, .slice px n cx] 26 → Blk W b9 [.int .u8 5] 5 →
        Calls Try.prog 22 #[.slice (some ⟨D, 0, none⟩) 32 32, .slice (some ⟨b, 0, none⟩) 5 5] W fun e w' => e = .returned (agg32 F5) ∧ Upd [] W w' := fun W u b b9 hb hb9 =>
      wax_five W D G hG _ (hKr12 W u) b b9 5 (by omega) q7 A7 l7 c7 q8 A8 l8 c8 q9 A9 l9 c9 px Y n cx hb hb9 H7.out (a7.upd_nil (v12.trans_nil u)) g7 d7 H8.out (a8.upd_nil (v12.trans_nil u)) g8 d8 H9.out (a9.upd_nil (v12.trans_nil u)) g9 d9
        HYl.out (aY.upd_nil (v12.trans_nil u)) hYr (by omega) (by omega) F5 HF5.out 5
    refine wp_region_head4 13 [(.s (.eq (.slice (some ⟨D, 0, none⟩) 32 32))), (.s (.sl 1 1 [.int .u8 5] 5)), (.s (.eq (.slice q7 l7 c7))), (.s (.eq (.slice q8 l8 c8))), (.s (.eq (.slice q9 l9 c9))), (.s (.eq (.slice px n16 cx))), (.s (.eq (.slice px n16 cx))), (.s (.eq (.int .i64 (n16 : Int)))), (.s (.eq (.int .i64 (n : Int)))), (.s (.eq (.slice px n cx))), (isFive 5 (.slice q7 l7 c7) (.slice q8 l8 c8) (.slice q9 l9 c9) (.slice px n cx)), (.s (.eq (.agg (row32 F5).toArray))), (.s (.pt (row32 fun _ => 0) 22))] (by kernel_rfl) (by kernel_rfl) (by kernel_rfl) rfl ?step ?fin
    case step =>
      intro i o him ho a w' hS hold hneed K' hK
      match i, him, ho with
      | 0, _, ho =>
        obtain rfl := Option.some.inj ho
        replace hK := fun v w1 h u => hK v w1 h trivial u
        have d3 := hold 3 _ (by kernel_rfl) rfl
        clear hold hneed ho
        (go_simp; exact hK _ _ rfl (Upd.refl [] _))
      | 1, _, ho =>
        obtain rfl := Option.some.inj ho
        replace hK := fun v w1 h u => hK v w1 h trivial u
        clear hold hneed ho
        (go_simp; exact hK _ _ ⟨_, rfl, Blk.new _ _ _⟩ ((Upd.refl [] _).alloc _))
      | 2, _, ho =>
        obtain rfl := Option.some.inj ho
        replace hK := fun v w1 h u => hK v w1 h trivial u
        have d7 := hold 7 _ (by kernel_rfl) rfl
        clear hold hneed ho
        (go_simp; exact hK _ _ rfl (Upd.refl [] _))
      | 3, _, ho =>
        obtain rfl := Option.some.inj ho
        replace hK := fun v w1 h u => hK v w1 h trivial u
        have d9 := hold 9 _ (by kernel_rfl) rfl
        clear hold hneed ho
        (go_simp; exact hK _ _ rfl (Upd.refl [] _))
      | 4, _, ho =>
        obtain rfl := Option.some.inj ho
        replace hK := fun v w1 h u => hK v w1 h trivial u
        have d11 := hold 11 _ (by kernel_rfl) rfl
        clear hold hneed ho
        (go_simp; exact hK _ _ rfl (Upd.refl [] _))
      | 5, _, ho =>
        obtain rfl := Option.some.inj ho
        replace hK := fun v w1 h u => hK v w1 h trivial u
        have d16 := hold 16 _ (by kernel_rfl) rfl
        clear hold hneed ho
        (go_simp; exact hK _ _ rfl (Upd.refl [] _))
      | 6, _, ho =>
        obtain rfl := Option.some.inj ho
        replace hK := fun v w1 h u => hK v w1 h trivial u
        have d16 := hold 16 _ (by kernel_rfl) rfl
        clear hold hneed ho
        (go_simp; exact hK _ _ rfl (Upd.refl [] _))
      | 7, _, ho =>
        obtain rfl := Option.some.inj ho
        replace hK := fun v w1 h u => hK v w1 h trivial u
        have d116 := get_of_at (hneed 6 (of_decide_eq_true (by kernel_rfl)) 116 rfl) (by simp [undef])
        clear hold hneed ho
        (go_simp; exact hK _ _ rfl (Upd.refl [] _))
      | 8, _, ho =>
        obtain rfl := Option.some.inj ho
        replace hK := fun v w1 h u => hK v w1 h trivial u
        have d117 := get_of_at (hneed 7 (of_decide_eq_true (by kernel_rfl)) 117 rfl) (by simp [undef])
        clear hold hneed ho
        (go_simp; exact hK _ _ (by rw [← e16]; simp; exact congrArg (Value.int IntKind.i64) Hwn.out) (Upd.refl [] _))
      | 9, _, ho =>
        obtain rfl := Option.some.inj ho
        replace hK := fun v w1 h u => hK v w1 h trivial u
        have d115 := get_of_at (hneed 5 (of_decide_eq_true (by kernel_rfl)) 115 rfl) (by simp [undef])
        have d118 := get_of_at (hneed 8 (of_decide_eq_true (by kernel_rfl)) 118 rfl) (by simp [undef])
        clear hold hneed ho
        (go_simp; exact hK _ _ rfl (Upd.refl [] _))
      | 10, _, ho =>
        obtain rfl := Option.some.inj ho
        replace hK := fun v w1 h u => hK v w1 h trivial u
        obtain ⟨b111, e111, hB111⟩ := hneed 1 (of_decide_eq_true (by kernel_rfl)) 111 rfl
        have d111 := get_of_at e111 (by simp [undef])
        have d112 := get_of_at (hneed 2 (of_decide_eq_true (by kernel_rfl)) 112 rfl) (by simp [undef])
        have d113 := get_of_at (hneed 3 (of_decide_eq_true (by kernel_rfl)) 113 rfl) (by simp [undef])
        have d114 := get_of_at (hneed 4 (of_decide_eq_true (by kernel_rfl)) 114 rfl) (by simp [undef])
        have d119 := get_of_at (hneed 9 (of_decide_eq_true (by kernel_rfl)) 119 rfl) (by simp [undef])
        clear hold hneed ho
        (go_simp; exact hK _ _ ⟨_, _, rfl, Blk.new _ _ _, hB111.upd_nil ((Upd.refl [] _).alloc _)⟩ ((Upd.refl [] _).alloc _))
      | 11, _, ho =>
        obtain rfl := Option.some.inj ho
        replace hK := fun v w1 h u => hK v w1 h trivial u
        have d110 := get_of_at (hneed 0 (of_decide_eq_true (by kernel_rfl)) 110 rfl) (by simp [undef])
        have R120 := hneed 10 (of_decide_eq_true (by kernel_rfl)) 120 rfl
        clear hold hneed ho
        (obtain ⟨b, b9, e120, hb, hb9⟩ := R120; have d120 := get_of_at e120 (by simp [undef]); go_simp; refine (hw5 _ hS b b9 hb hb9).mono ?_; rintro e w3 ⟨rfl, hu3⟩; exact hK _ _ rfl hu3)
      | 12, _, ho =>
        obtain rfl := Option.some.inj ho
        clear hold hneed ho
        (go_simp; exact hK _ _ ⟨_, rfl, Blk.new _ _ _⟩ ⟨_, rfl, Nat.le_refl _⟩ ((Upd.refl [] _).alloc _))
      | _ + 13, him, _ => exact absurd him (by omega)
    case fin =>
      intro a w' hS hsz hdf hold hvals hnew hap
      obtain ⟨b21, hv21, hB21⟩ := hvals 12 21 (of_decide_eq_true (by kernel_rfl)) rfl
      obtain ⟨b', h1, hN21⟩ := hnew 12 21 (of_decide_eq_true (by kernel_rfl)) rfl rfl
      rw [hv21] at h1
      have e' := Option.some.inj h1
      rw [← e'] at hN21
      clear h1 e'
      dsimp only at hN21
      obtain ⟨b111, hv111, hB111⟩ := hvals 1 111 (of_decide_eq_true (by kernel_rfl)) rfl
      have R120 := hvals 10 120 (of_decide_eq_true (by kernel_rfl)) rfl
      obtain ⟨v120, hv120⟩ : ∃ v, at_ a 120 = v := ⟨_, rfl⟩
      rw [hv120] at R120
      have ha := act_lit hsz hdf (RowIs.cons (at_of_get (hold 0 _ (by kernel_rfl) rfl)) (RowIs.cons (at_of_get (hold 1 _ (by kernel_rfl) rfl)) (RowIs.cons (at_of_get (hold 2 _ (by kernel_rfl) rfl)) (RowIs.cons (at_of_get (hold 3 _ (by kernel_rfl) rfl)) (RowIs.cons (at_of_get (hold 4 _ (by kernel_rfl) rfl)) (RowIs.cons (at_of_get (hold 5 _ (by kernel_rfl) rfl)) (RowIs.cons (at_of_get (hold 6 _ (by kernel_rfl) rfl)) (RowIs.cons (at_of_get (hold 7 _ (by kernel_rfl) rfl)) (RowIs.cons (at_of_get (hold 8 _ (by kernel_rfl) rfl)) (RowIs.cons (at_of_get (hold 9 _ (by kernel_rfl) rfl)) (RowIs.cons (at_of_get (hold 10 _ (by kernel_rfl) rfl)) (RowIs.cons (at_of_get (hold 11 _ (by kernel_rfl) rfl)) (RowIs.cons (at_of_get (hold 12 _ (by kernel_rfl) rfl)) (RowIs.cons (at_of_get (hold 13 _ (by kernel_rfl) rfl)) (RowIs.cons (at_of_get (hold 14 _ (by kernel_rfl) rfl)) (RowIs.cons (at_of_get (hold 15 _ (by kernel_rfl) rfl)) (RowIs.cons (at_of_get (hold 16 _ (by kernel_rfl) rfl)) (RowIs.cons (at_of_get (hold 17 _ (by kernel_rfl) rfl)) (RowIs.cons (at_of_get (hold 18 _ (by kernel_rfl) rfl)) (RowIs.cons (at_of_get (hold 19 _ (by kernel_rfl) rfl)) (RowIs.cons (at_of_get (hold 20 _ (by kernel_rfl) rfl)) (RowIs.cons hv21 (RowIs.cons (at_of_get (hold 22 _ (by kernel_rfl) rfl)) (RowIs.cons (at_of_get (hold 23 _ (by kernel_rfl) rfl)) (RowIs.cons (at_of_get (hold 24 _ (by kernel_rfl) rfl)) (RowIs.cons (at_of_get (hold 25 _ (by kernel_rfl) rfl)) (RowIs.cons (at_of_get (hold 26 _ (by kernel_rfl) rfl)) (RowIs.cons (at_of_get (hold 27 _ (by kernel_rfl) rfl)) (RowIs.cons (at_of_get (hold 28 _ (by kernel_rfl) rfl)) (RowIs.cons (at_of_get (hold 29 _ (by kernel_rfl) rfl)) (RowIs.cons (at_of_get (hold 30 _ (by kernel_rfl) rfl)) (RowIs.cons (at_of_get (hold 31 _ (by kernel_rfl) rfl)) (RowIs.cons (at_of_get (hold 32 _ (by kernel_rfl) rfl)) (RowIs.cons (at_of_get (hold 33 _ (by kernel_rfl) rfl)) (RowIs.cons (at_of_get (hold 34 _ (by kernel_rfl) rfl)) (RowIs.cons (at_of_get (hold 35 _ (by kernel_rfl) rfl)) (RowIs.cons (at_of_get (hold 36 _ (by kernel_rfl) rfl)) (RowIs.cons (at_of_get (hold 37 _ (by kernel_rfl) rfl)) (RowIs.cons (at_of_get (hold 38 _ (by kernel_rfl) rfl)) (RowIs.cons (at_of_get (hold 39 _ (by kernel_rfl) rfl)) (RowIs.cons (at_of_get (hold 40 _ (by kernel_rfl) rfl)) (RowIs.cons (at_of_get (hold 41 _ (by kernel_rfl) rfl)) (RowIs.cons (at_of_get (hold 42 _ (by kernel_rfl) rfl)) (RowIs.cons (at_of_get (hold 43 _ (by kernel_rfl) rfl)) (RowIs.cons (at_of_get (hold 44 _ (by kernel_rfl) rfl)) (RowIs.cons (at_of_get (hold 45 _ (by kernel_rfl) rfl)) (RowIs.cons (at_of_get (hold 46 _ (by kernel_rfl) rfl)) (RowIs.cons (at_of_get (hold 47 _ (by kernel_rfl) rfl)) (RowIs.cons (at_of_get (hold 48 _ (by kernel_rfl) rfl)) (RowIs.cons (at_of_get (hold 49 _ (by kernel_rfl) rfl)) (RowIs.cons (at_of_get (hold 50 _ (by kernel_rfl) rfl)) (RowIs.cons (at_of_get (hold 51 _ (by kernel_rfl) rfl)) (RowIs.cons (at_of_get (hold 52 _ (by kernel_rfl) rfl)) (RowIs.cons (at_of_get (hold 53 _ (by kernel_rfl) rfl)) (RowIs.cons (at_of_get (hold 54 _ (by kernel_rfl) rfl)) (RowIs.cons (at_of_get (hold 55 _ (by kernel_rfl) rfl)) (RowIs.cons (at_of_get (hold 56 _ (by kernel_rfl) rfl)) (RowIs.cons (at_of_get (hold 57 _ (by kernel_rfl) rfl)) (RowIs.cons (at_of_get (hold 58 _ (by kernel_rfl) rfl)) (RowIs.cons (at_of_get (hold 59 _ (by kernel_rfl) rfl)) (RowIs.cons (at_of_get (hold 60 _ (by kernel_rfl) rfl)) (RowIs.cons (at_of_get (hold 61 _ (by kernel_rfl) rfl)) (RowIs.cons (at_of_get (hold 62 _ (by kernel_rfl) rfl)) (RowIs.cons (at_of_get (hold 63 _ (by kernel_rfl) rfl)) (RowIs.cons (at_of_get (hold 64 _ (by kernel_rfl) rfl)) (RowIs.cons (at_of_get (hold 65 _ (by kernel_rfl) rfl)) (RowIs.cons (at_of_get (hold 66 _ (by kernel_rfl) rfl)) (RowIs.cons (at_of_get (hold 67 _ (by kernel_rfl) rfl)) (RowIs.cons (at_of_get (hold 68 _ (by kernel_rfl) rfl)) (RowIs.cons (at_of_get (hold 69 _ (by kernel_rfl) rfl)) (RowIs.cons (at_of_get (hold 70 _ (by kernel_rfl) rfl)) (RowIs.cons (at_of_get (hold 71 _ (by kernel_rfl) rfl)) (RowIs.cons (at_of_get (hold 72 _ (by kernel_rfl) rfl)) (RowIs.cons (at_of_get (hold 73 _ (by kernel_rfl) rfl)) (RowIs.cons (at_of_get (hold 74 _ (by kernel_rfl) rfl)) (RowIs.cons (at_of_get (hold 75 _ (by kernel_rfl) rfl)) (RowIs.cons (at_of_get (hold 76 _ (by kernel_rfl) rfl)) (RowIs.cons (at_of_get (hold 77 _ (by kernel_rfl) rfl)) (RowIs.cons (at_of_get (hold 78 _ (by kernel_rfl) rfl)) (RowIs.cons (at_of_get (hold 79 _ (by kernel_rfl) rfl)) (RowIs.cons (at_of_get (hold 80 _ (by kernel_rfl) rfl)) (RowIs.cons (at_of_get (hold 81 _ (by kernel_rfl) rfl)) (RowIs.cons (at_of_get (hold 82 _ (by kernel_rfl) rfl)) (RowIs.cons (at_of_get (hold 83 _ (by kernel_rfl) rfl)) (RowIs.cons (at_of_get (hold 84 _ (by kernel_rfl) rfl)) (RowIs.cons (at_of_get (hold 85 _ (by kernel_rfl) rfl)) (RowIs.cons (at_of_get (hold 86 _ (by kernel_rfl) rfl)) (RowIs.cons (at_of_get (hold 87 _ (by kernel_rfl) rfl)) (RowIs.cons (at_of_get (hold 88 _ (by kernel_rfl) rfl)) (RowIs.cons (at_of_get (hold 89 _ (by kernel_rfl) rfl)) (RowIs.cons (at_of_get (hold 90 _ (by kernel_rfl) rfl)) (RowIs.cons (at_of_get (hold 91 _ (by kernel_rfl) rfl)) (RowIs.cons (at_of_get (hold 92 _ (by kernel_rfl) rfl)) (RowIs.cons (at_of_get (hold 93 _ (by kernel_rfl) rfl)) (RowIs.cons (at_of_get (hold 94 _ (by kernel_rfl) rfl)) (RowIs.cons (at_of_get (hold 95 _ (by kernel_rfl) rfl)) (RowIs.cons (at_of_get (hold 96 _ (by kernel_rfl) rfl)) (RowIs.cons (at_of_get (hold 97 _ (by kernel_rfl) rfl)) (RowIs.cons (at_of_get (hold 98 _ (by kernel_rfl) rfl)) (RowIs.cons (at_of_get (hold 99 _ (by kernel_rfl) rfl)) (RowIs.cons (at_of_get (hold 100 _ (by kernel_rfl) rfl)) (RowIs.cons (at_of_get (hold 101 _ (by kernel_rfl) rfl)) (RowIs.cons (at_of_get (hold 102 _ (by kernel_rfl) rfl)) (RowIs.cons (at_of_get (hold 103 _ (by kernel_rfl) rfl)) (RowIs.cons (at_of_get (hold 104 _ (by kernel_rfl) rfl)) (RowIs.cons (at_of_get (hold 105 _ (by kernel_rfl) rfl)) (RowIs.cons (at_of_get (hold 106 _ (by kernel_rfl) rfl)) (RowIs.cons (at_of_get (hold 107 _ (by kernel_rfl) rfl)) (RowIs.cons (at_of_get (hold 108 _ (by kernel_rfl) rfl)) (RowIs.cons (at_of_get (hold 109 _ (by kernel_rfl) rfl)) (RowIs.cons (hvals 0 110 (of_decide_eq_true (by kernel_rfl)) rfl) (RowIs.cons hv111 (RowIs.cons (hvals 2 112 (of_decide_eq_true (by kernel_rfl)) rfl) (RowIs.cons (hvals 3 113 (of_decide_eq_true (by kernel_rfl)) rfl) (RowIs.cons (hvals 4 114 (of_decide_eq_true (by kernel_rfl)) rfl) (RowIs.cons (hvals 5 115 (of_decide_eq_true (by kernel_rfl)) rfl) (RowIs.cons (hvals 6 116 (of_decide_eq_true (by kernel_rfl)) rfl) (RowIs.cons (hvals 7 117 (of_decide_eq_true (by kernel_rfl)) rfl) (RowIs.cons (hvals 8 118 (of_decide_eq_true (by kernel_rfl)) rfl) (RowIs.cons (hvals 9 119 (of_decide_eq_true (by kernel_rfl)) rfl) (RowIs.cons hv120 (RowIs.cons (hvals 11 121 (of_decide_eq_true (by kernel_rfl)) rfl) (RowIs.cons (at_of_get (hold 122 _ (by kernel_rfl) rfl)) (RowIs.cons (at_of_get (hold 123 _ (by kernel_rfl) rfl)) (RowIs.cons (at_of_get (hold 124 _ (by kernel_rfl) rfl)) (RowIs.cons (at_of_get (hold 125 _ (by kernel_rfl) rfl)) (RowIs.cons (at_of_get (hold 126 _ (by kernel_rfl) rfl)) (RowIs.cons (at_of_get (hold 127 _ (by kernel_rfl) rfl)) (RowIs.cons (at_of_get (hold 128 _ (by kernel_rfl) rfl)) (RowIs.cons (at_of_get (hold 129 _ (by kernel_rfl) rfl)) (RowIs.cons (at_of_get (hold 130 _ (by kernel_rfl) rfl)) (RowIs.cons (at_of_get (hold 131 _ (by kernel_rfl) rfl)) (RowIs.cons (at_of_get (hold 132 _ (by kernel_rfl) rfl)) (RowIs.cons (at_of_get (hold 133 _ (by kernel_rfl) rfl)) (RowIs.cons (at_of_get (hold 134 _ (by kernel_rfl) rfl)) (RowIs.cons (at_of_get (hold 135 _ (by kernel_rfl) rfl)) (RowIs.cons (at_of_get (hold 136 _ (by kernel_rfl) rfl)) (RowIs.cons (at_of_get (hold 137 _ (by kernel_rfl) rfl)) (RowIs.cons (at_of_get (hold 138 _ (by kernel_rfl) rfl)) (RowIs.cons (at_of_get (hold 139 _ (by kernel_rfl) rfl)) (RowIs.cons (at_of_get (hold 140 _ (by kernel_rfl) rfl)) (RowIs.cons (at_of_get (hold 141 _ (by kernel_rfl) rfl)) (RowIs.cons (at_of_get (hold 142 _ (by kernel_rfl) rfl)) (RowIs.cons (at_of_get (hold 143 _ (by kernel_rfl) rfl)) (RowIs.cons (at_of_get (hold 144 _ (by kernel_rfl) rfl)) (RowIs.cons (at_of_get (hold 145 _ (by kernel_rfl) rfl)) (RowIs.cons (at_of_get (hold 146 _ (by kernel_rfl) rfl)) (RowIs.cons (at_of_get (hold 147 _ (by kernel_rfl) rfl)) (RowIs.cons (at_of_get (hold 148 _ (by kernel_rfl) rfl)) (RowIs.cons (at_of_get (hold 149 _ (by kernel_rfl) rfl)) (RowIs.cons (at_of_get (hold 150 _ (by kernel_rfl) rfl)) (RowIs.cons (at_of_get (hold 151 _ (by kernel_rfl) rfl)) (RowIs.cons (at_of_get (hold 152 _ (by kernel_rfl) rfl)) (RowIs.cons (at_of_get (hold 153 _ (by kernel_rfl) rfl)) (RowIs.cons (at_of_get (hold 154 _ (by kernel_rfl) rfl)) (RowIs.cons (at_of_get (hold 155 _ (by kernel_rfl) rfl)) (RowIs.cons (at_of_get (hold 156 _ (by kernel_rfl) rfl)) (RowIs.nil _ _)))))))))))))))))))))))))))))))))))))))))))))))))))))))))))))))))))))))))))))))))))))))))))))))))))))))))))))))))))))))))))))))))))))))))))))))))))))))))))))) rfl
      clear hsz hdf hold hvals hnew hap
      subst ha
      simp only [List.getElem_toArray, List.getElem_cons_succ, List.getElem_cons_zero, List.drop_succ_cons, List.drop_zero]
      go_upto_region 15 with (refine wpList_store_rowTo rfl _ _ _ rfl rfl _ (row32 F5).toArray rfl rfl _ (row32 fun _ => 0).toArray hB21 (info32 _) (size32 _ _) (one32 _) ?_)
      have c21 := hB21.setRow (row32 F5).toArray
      have l18 := c18.lt
      have l19 := c19.lt
      have l20 := c20.lt
      have e18 := (c18.upd_nil hS).setRow_ne (c := b21) (by omega) (row32 F5).toArray
      have e19 := (c19.upd_nil hS).setRow_ne (c := b21) (by omega) (row32 F5).toArray
      have e20 := (c20.upd_nil hS).setRow_ne (c := b21) (by omega) (row32 F5).toArray
      have v13 := hS.setRow (b := b21) (Or.inr hN21) (row32 F5).toArray
      simp only [List.toList_toArray] at c21
      clear hB21 hS hN21 c18 c19 c20 l18 l19 l20 hw5 aY
      generalize w'.setRow b21 (row32 F5).toArray = W13 at *
      have hst := fun (W : World) (u : Upd [] W13 W) => bstr_any (w := W) (c := c) HBl.out (hB.upd_nil (t11.trans_nil (v12.trans_nil (v13.trans_nil u))))
      have hmk := fun W => mark_any W G hG B hBr (by rw [HBl.out]; omega)
      obtain ⟨FM, hFM⟩ : ∃ FM, markF G B = FM := ⟨_, rfl⟩
      rw [hFM] at hmk
      have HFM := Lib.hid hFM
      clear hFM
      generalize hstr : strOfNums B = str at *
      clear hstr
      have s13 := hst W13 (Upd.refl [] _)
      go_upto_region 16 with (first
        | (go_at_call 23; refine (hmk W13).mono ?_; rintro e W14 ⟨rfl, u14⟩; have hM := Blk.new W14 (row16 fun _ => 0).toArray 46)
        | (have tok := u14; refine wpList_store_rowTo rfl _ _ _ rfl rfl _ (row16 FM).toArray rfl rfl _ (row16 fun _ => 0).toArray hM (info16 _) (size16 _ _) (one16 _) ?_)
        | (refine wpList_load_row rfl _ _ rfl D rfl _ (row32 G).toArray _ _ (hKr12 W13 v13) Try.underlying23 rfl (infoK G) ?_))
      have c22 := hM.setRow (row16 FM).toArray
      have l18 := e18.lt
      have l19 := e19.lt
      have l20 := e20.lt
      have l21 := c21.lt
      have u15 := (Upd.refl [] W14).alloc (.cells (row16 fun _ => 0).toArray 46)
      have u15' := u15.setRow (b := W14.heap.size) (Or.inr (by simp)) (row16 FM).toArray
      generalize (W14.alloc (.cells (row16 fun _ => 0).toArray 46)).setRow W14.heap.size (row16 FM).toArray = W15 at *
      obtain ⟨b22, hb22⟩ : ∃ b, W14.heap.size = b := ⟨_, rfl⟩
      rw [hb22] at c22 ⊢
      simp only [List.toList_toArray] at c22
      have v15 := v13.trans_nil (u14.trans_nil u15')
      have r15 := u14.trans_nil u15'
      have z15 := v12.trans_nil v15
      have hC15 := fun (W : World) (u : Upd [] W15 W) => hC11.upd_nil (z15.trans_nil u)
      have hR18 := fun (W : World) (u : Upd [] W15 W) => e18.upd_nil (r15.trans_nil u)
      have hR19 := fun (W : World) (u : Upd [] W15 W) => e19.upd_nil (r15.trans_nil u)
      have hR20 := fun (W : World) (u : Upd [] W15 W) => e20.upd_nil (r15.trans_nil u)
      have hR21 := fun (W : World) (u : Upd [] W15 W) => c21.upd_nil (r15.trans_nil u)
      have hR22 := fun (W : World) (u : Upd [] W15 W) => c22.upd_nil u
      have t15 := t11.trans_nil z15
      clear e18 e19 e20 c21 c22 hC11 hM u15 u15' hb22 l18 l19 l20 l21 s13 hst hmk u14 v13
      obtain ⟨q2, hq2⟩ : ∃ q2, (if cs = n then p8 else p8.map (·.add n)) = q2 := ⟨_, rfl⟩
      obtain ⟨d2, hd2⟩ : ∃ d2, cs - n = d2 := ⟨_, rfl⟩
      obtain ⟨q3, hq3⟩ : ∃ q3, (if cx = n then px else px.map (·.add n)) = q3 := ⟨_, rfl⟩
      obtain ⟨d3, hd3⟩ : ∃ d3, cx - n = d3 := ⟨_, rfl⟩
      have h32n : n32 - n = 32 := by omega
      have h16n : n16 - n = 16 := by omega
      have hr3 : Rng (keyL F3) := by rw [← HF3.out]; exact keyL_rng (mac_bdK _ _)
      have hr5 : Rng (keyL F5) := by rw [← HF5.out]; exact keyL_rng (mac_bdK _ _)
      have hr1 : Rng (keyL F1) := by rw [← HF1.out]; exact keyL_rng (mac_bdK _ _)
      have aq2 : ByAt W11 q2 (keyL F3) := by
        have h := byAdv' as11 n cs (by rw [List.length_append, keyL_len, HBl.out]; omega)
        rw [hq2, List.drop_left' HBl.out] at h
        exact h
      have aq3 : ByAt W11 q3 ((keyL F5).take 16) := by
        have h := byAdv' ax n cx (by rw [List.length_append, List.length_take, keyL_len, HYl.out]; omega)
        rw [hq3, List.drop_left' HYl.out] at h
        exact h
      have hq1 : ∀ W, Upd [] W15 W → Calls Try.prog 16 #[.slice q2 32 d2, .slice (some ⟨b18, 0, none⟩) 32 32] W fun e w' => e = .returned (.bool true) ∧ Upd [] W w' := fun W u => by
        have := eqb_gen W q2 (keyL F3) d2 (some ⟨b18, 0, none⟩) (keyL F3) 32 (aq2.upd_nil (z15.trans_nil u)) (row32_bytes (hR18 W u)) hr3 hr3 (by rw [keyL_len]; omega) (by rw [keyL_len]; omega)
        rw [keyL_len, decide_eq_true rfl] at this
        exact this
      have lt5 : ((keyL F5).take 16).length = 16 := by rw [List.length_take, keyL_len]; rfl
      have lt1 : ((keyL F1).take 16).length = 16 := by rw [List.length_take, keyL_len]; rfl
      have hq2' : ∀ W, Upd [] W15 W → Calls Try.prog 16 #[.slice q3 16 d3, .slice (some ⟨b21, 0, none⟩) 16 32] W fun e w' => e = .returned (.bool true) ∧ Upd [] W w' := fun W u => by
        have := eqb_gen W q3 ((keyL F5).take 16) d3 (some ⟨b21, 0, none⟩) ((keyL F5).take 16) 32 (aq3.upd_nil (z15.trans_nil u)) ((row32_bytes (hR21 W u)).take 16) (hr5.take 16) (hr5.take 16) (by rw [lt5]; omega) (by rw [lt5]; omega)
        rw [lt5, decide_eq_true rfl] at this
        exact this
      obtain ⟨t, ht⟩ : ∃ t : Bool, ((n : Int) == 0) = !t := ⟨!((n : Int) == 0), by simp⟩
      have hq3' : ∀ W, Upd [] W15 W → t = true → Calls Try.prog 16 #[.slice (some ⟨b22, 0, none⟩) 16 16, .slice (some ⟨b20, 0, none⟩) 16 32] W fun e w' => e = .returned (.bool true) ∧ Upd [] W w' := fun W u h => by
        have hB0 : B ≠ [] := fun e => by
          have hn0 : n = 0 := by rw [← HBl.out, e]; rfl
          rw [h, hn0] at ht
          exact Bool.noConfusion ht
        have hFF : FM = F1 := by rw [← HFM.out, markF, if_neg hB0, HF1.out]
        have hy := row16_bytes (hR22 W u)
        rw [hFF, ← keyL_take] at hy
        have := eqb_gen W (some ⟨b22, 0, none⟩) ((keyL F1).take 16) 16 (some ⟨b20, 0, none⟩) ((keyL F1).take 16) 32 hy ((row32_bytes (hR20 W u)).take 16) (hr1.take 16) (hr1.take 16) (by rw [lt1]; omega) (by rw [lt1]; omega)
        rw [lt1, decide_eq_true rfl] at this
        exact this
      have Hq2 := Lib.hid hq2
      have Hd2 := Lib.hid hd2
      have Hq3 := Lib.hid hq3
      have Hd3 := Lib.hid hd3
      have H32n := Lib.hid h32n
      have H16n := Lib.hid h16n
      have Ht := Lib.hid ht
      have E32 := Lib.hid e32
      have E16 := Lib.hid e16
      have x1 : (n : Int) ≤ (n32 : Int) := by omega
      have x2 : (n32 : Int) ≤ (cs : Int) := by omega
      have x3 : (n : Int) ≤ (n16 : Int) := by omega
      have x4 : (n16 : Int) ≤ (cx : Int) := by omega
      have heq := fun w : World => eq_sameK w F2
      clear hq2 hd2 hq3 hd3 h32n h16n ht e32 e16 lt5 lt1 hr1 hr3 hr5 aq2 aq3 as11 ax
      refine wp_region_spec [(.eq (.slice p8 n32 cs)), (.eq (.slice p8 n32 cs)), (.eq (.int .i64 (n32 : Int))), (.eq (.int .i64 (n : Int))), (.eq (.slice q2 32 d2)), (.eq (.slice (some ⟨b18, 0, none⟩) 32 32)), (.eq (.bool true)), (.eq (.bool true)), (.eq (.agg (row32 F2).toArray)), (.eq (.agg (row32 F2).toArray)), (.eq (.bool true)), (.eq (.bool true)), (.eq (.bool true)), (.eq (.slice px n16 cx)), (.eq (.slice px n16 cx)), (.eq (.int .i64 (n16 : Int))), (.eq (.int .i64 (n : Int))), (.eq (.slice q3 16 d3)), (.eq (.slice (some ⟨b21, 0, none⟩) 16 32)), (.eq (.bool true)), (.eq (.bool true)), (.eq (.bool true)), (.eq (.slice p n c)), (.eq (.int .i64 (n : Int))), (.eq (.bool (!t))), (.eq (.bool (!t))), (.wh (t) (.slice (some ⟨b22, 0, none⟩) 16 16)), (.wh (t) (.slice (some ⟨b20, 0, none⟩) 16 32)), (.wh (t) (.bool true)), (.eq (.bool true)), (.eq (.bool true)), (.eq (.bool true))] (by kernel_rfl) (by kernel_rfl) rfl ?step ?fin
      case step =>
        intro i o ho a w' hS hold hneed K' hK
        match i, ho with
        | 0, ho =>
          obtain rfl := Option.some.inj ho
          have d13 := hold 13 _ (by kernel_rfl) rfl
          clear hold hneed ho
          (go_simp; exact hK _ _ rfl (Upd.refl [] _))
        | 1, ho =>
          obtain rfl := Option.some.inj ho
          have d13 := hold 13 _ (by kernel_rfl) rfl
          clear hold hneed ho
          (go_simp; exact hK _ _ rfl (Upd.refl [] _))
        | 2, ho =>
          obtain rfl := Option.some.inj ho
          have d127 := get_of_at (hneed 1 (of_decide_eq_true (by kernel_rfl)) 127 rfl) (by simp [undef])
          clear hold hneed ho
          (go_simp; exact hK _ _ rfl (Upd.refl [] _))
        | 3, ho =>
          obtain rfl := Option.some.inj ho
          have d128 := get_of_at (hneed 2 (of_decide_eq_true (by kernel_rfl)) 128 rfl) (by simp [undef])
          clear hold hneed ho
          (go_simp; exact hK _ _ (by rw [← E32.out]; simp; exact congrArg (Value.int IntKind.i64) Hwn.out) (Upd.refl [] _))
        | 4, ho =>
          obtain rfl := Option.some.inj ho
          have d126 := get_of_at (hneed 0 (of_decide_eq_true (by kernel_rfl)) 126 rfl) (by simp [undef])
          have d129 := get_of_at (hneed 3 (of_decide_eq_true (by kernel_rfl)) 129 rfl) (by simp [undef])
          clear hold hneed ho
          (go_simp; rw [Hq2.out, H32n.out, Hd2.out]; exact hK _ _ rfl (Upd.refl [] _))
        | 5, ho =>
          obtain rfl := Option.some.inj ho
          have d18 := hold 18 _ (by kernel_rfl) rfl
          clear hold hneed ho
          (go_simp; exact hK _ _ rfl (Upd.refl [] _))
        | 6, ho =>
          obtain rfl := Option.some.inj ho
          have d130 := get_of_at (hneed 4 (of_decide_eq_true (by kernel_rfl)) 130 rfl) (by simp [undef])
          have d131 := get_of_at (hneed 5 (of_decide_eq_true (by kernel_rfl)) 131 rfl) (by simp [undef])
          clear hold hneed ho
          (go_simp; refine (hq1 _ hS).mono ?_; rintro e w3 ⟨rfl, hu3⟩; exact hK _ _ rfl hu3)
        | 7, ho =>
          obtain rfl := Option.some.inj ho
          have d132 := get_of_at (hneed 6 (of_decide_eq_true (by kernel_rfl)) 132 rfl) (by simp [undef])
          clear hold hneed ho
          (go_simp; exact hK _ _ rfl (Upd.refl [] _))
        | 8, ho =>
          obtain rfl := Option.some.inj ho
          have d14 := hold 14 _ (by kernel_rfl) rfl
          have d133 := get_of_at (hneed 7 (of_decide_eq_true (by kernel_rfl)) 133 rfl) (by simp [undef])
          clear hold hneed ho
          (rw [if_pos (by simp [Region.wanted, yielded, *])]; exact wp_load_row 23 (.tmp 14) rfl C (by simp [Act.eval, *]) 23 _ (0, 0) _ (hC15 _ hS) Try.underlying23 rfl (infoK _) (hK _ _ rfl (Upd.refl [] _)))
        | 9, ho =>
          obtain rfl := Option.some.inj ho
          have d19 := hold 19 _ (by kernel_rfl) rfl
          have d133 := get_of_at (hneed 7 (of_decide_eq_true (by kernel_rfl)) 133 rfl) (by simp [undef])
          clear hold hneed ho
          (rw [if_pos (by simp [Region.wanted, yielded, *])]; exact wp_load_row 22 (.tmp 19) rfl b19 (by simp [Act.eval, *]) 22 _ (0, 0) _ (hR19 _ hS) Try.underlying22 rfl (info32 _) (hK _ _ rfl (Upd.refl [] _)))
        | 10, ho =>
          obtain rfl := Option.some.inj ho
          have d134 := get_of_at (hneed 8 (of_decide_eq_true (by kernel_rfl)) 134 rfl) (by simp [undef])
          have d135 := get_of_at (hneed 9 (of_decide_eq_true (by kernel_rfl)) 135 rfl) (by simp [undef])
          have d133 := get_of_at (hneed 7 (of_decide_eq_true (by kernel_rfl)) 133 rfl) (by simp [undef])
          clear hold hneed ho
          (go_simp; exact hK _ _ rfl (Upd.refl [] _))
        | 11, ho =>
          obtain rfl := Option.some.inj ho
          have d133 := get_of_at (hneed 7 (of_decide_eq_true (by kernel_rfl)) 133 rfl) (by simp [undef])
          have d136 := get_of_at (hneed 10 (of_decide_eq_true (by kernel_rfl)) 136 rfl) (by simp [undef])
          clear hold hneed ho
          (go_simp; exact hK _ _ rfl (Upd.refl [] _))
        | 12, ho =>
          obtain rfl := Option.some.inj ho
          have d137 := get_of_at (hneed 11 (of_decide_eq_true (by kernel_rfl)) 137 rfl) (by simp [undef])
          clear hold hneed ho
          (go_simp; exact hK _ _ rfl (Upd.refl [] _))
        | 13, ho =>
          obtain rfl := Option.some.inj ho
          have d16 := hold 16 _ (by kernel_rfl) rfl
          have d138 := get_of_at (hneed 12 (of_decide_eq_true (by kernel_rfl)) 138 rfl) (by simp [undef])
          clear hold hneed ho
          (go_simp; exact hK _ _ rfl (Upd.refl [] _))
        | 14, ho =>
          obtain rfl := Option.some.inj ho
          have d16 := hold 16 _ (by kernel_rfl) rfl
          have d138 := get_of_at (hneed 12 (of_decide_eq_true (by kernel_rfl)) 138 rfl) (by simp [undef])
          clear hold hneed ho
          (go_simp; exact hK _ _ rfl (Upd.refl [] _))
        | 15, ho =>
          obtain rfl := Option.some.inj ho
          have d140 := get_of_at (hneed 14 (of_decide_eq_true (by kernel_rfl)) 140 rfl) (by simp [undef])
          have d138 := get_of_at (hneed 12 (of_decide_eq_true (by kernel_rfl)) 138 rfl) (by simp [undef])
          clear hold hneed ho
          (go_simp; exact hK _ _ rfl (Upd.refl [] _))
        | 16, ho =>
          obtain rfl := Option.some.inj ho
          have d141 := get_of_at (hneed 15 (of_decide_eq_true (by kernel_rfl)) 141 rfl) (by simp [undef])
          have d138 := get_of_at (hneed 12 (of_decide_eq_true (by kernel_rfl)) 138 rfl) (by simp [undef])
          clear hold hneed ho
          (go_simp; exact hK _ _ (by rw [← E16.out]; simp; exact congrArg (Value.int IntKind.i64) Hwn.out) (Upd.refl [] _))
        | 17, ho =>
          obtain rfl := Option.some.inj ho
          have d139 := get_of_at (hneed 13 (of_decide_eq_true (by kernel_rfl)) 139 rfl) (by simp [undef])
          have d142 := get_of_at (hneed 16 (of_decide_eq_true (by kernel_rfl)) 142 rfl) (by simp [undef])
          have d138 := get_of_at (hneed 12 (of_decide_eq_true (by kernel_rfl)) 138 rfl) (by simp [undef])
          clear hold hneed ho
          (go_simp; rw [Hq3.out, H16n.out, Hd3.out]; exact hK _ _ rfl (Upd.refl [] _))
        | 18, ho =>
          obtain rfl := Option.some.inj ho
          have d21 := hold 21 _ (by kernel_rfl) rfl
          have d138 := get_of_at (hneed 12 (of_decide_eq_true (by kernel_rfl)) 138 rfl) (by simp [undef])
          clear hold hneed ho
          (go_simp; exact hK _ _ rfl (Upd.refl [] _))
        | 19, ho =>
          obtain rfl := Option.some.inj ho
          have d143 := get_of_at (hneed 17 (of_decide_eq_true (by kernel_rfl)) 143 rfl) (by simp [undef])
          have d144 := get_of_at (hneed 18 (of_decide_eq_true (by kernel_rfl)) 144 rfl) (by simp [undef])
          have d138 := get_of_at (hneed 12 (of_decide_eq_true (by kernel_rfl)) 138 rfl) (by simp [undef])
          clear hold hneed ho
          (go_simp; refine (hq2' _ hS).mono ?_; rintro e w3 ⟨rfl, hu3⟩; exact hK _ _ rfl hu3)
        | 20, ho =>
          obtain rfl := Option.some.inj ho
          have d138 := get_of_at (hneed 12 (of_decide_eq_true (by kernel_rfl)) 138 rfl) (by simp [undef])
          have d145 := get_of_at (hneed 19 (of_decide_eq_true (by kernel_rfl)) 145 rfl) (by simp [undef])
          clear hold hneed ho
          (go_simp; exact hK _ _ rfl (Upd.refl [] _))
        | 21, ho =>
          obtain rfl := Option.some.inj ho
          have d146 := get_of_at (hneed 20 (of_decide_eq_true (by kernel_rfl)) 146 rfl) (by simp [undef])
          clear hold hneed ho
          (go_simp; exact hK _ _ rfl (Upd.refl [] _))
        | 22, ho =>
          obtain rfl := Option.some.inj ho
          have d2 := hold 2 _ (by kernel_rfl) rfl
          have d147 := get_of_at (hneed 21 (of_decide_eq_true (by kernel_rfl)) 147 rfl) (by simp [undef])
          clear hold hneed ho
          (go_simp; exact hK _ _ rfl (Upd.refl [] _))
        | 23, ho =>
          obtain rfl := Option.some.inj ho
          have d148 := get_of_at (hneed 22 (of_decide_eq_true (by kernel_rfl)) 148 rfl) (by simp [undef])
          have d147 := get_of_at (hneed 21 (of_decide_eq_true (by kernel_rfl)) 147 rfl) (by simp [undef])
          clear hold hneed ho
          (go_simp; exact hK _ _ rfl (Upd.refl [] _))
        | 24, ho =>
          obtain rfl := Option.some.inj ho
          have d149 := get_of_at (hneed 23 (of_decide_eq_true (by kernel_rfl)) 149 rfl) (by simp [undef])
          have d147 := get_of_at (hneed 21 (of_decide_eq_true (by kernel_rfl)) 147 rfl) (by simp [undef])
          clear hold hneed ho
          (go_simp; exact hK _ _ (congrArg Value.bool Ht.out) (Upd.refl [] _))
        | 25, ho =>
          obtain rfl := Option.some.inj ho
          have d150 := get_of_at (hneed 24 (of_decide_eq_true (by kernel_rfl)) 150 rfl) (by simp [undef])
          have d147 := get_of_at (hneed 21 (of_decide_eq_true (by kernel_rfl)) 147 rfl) (by simp [undef])
          clear hold hneed ho
          (go_simp; exact hK _ _ rfl (Upd.refl [] _))
        | 26, ho =>
          obtain rfl := Option.some.inj ho
          have d22 := hold 22 _ (by kernel_rfl) rfl
          have d151 := get_of_at (hneed 25 (of_decide_eq_true (by kernel_rfl)) 151 rfl) (by simp [undef])
          clear hold hneed ho
          (cases t <;> (go_simp; first | exact hK _ _ (fun h => Bool.noConfusion h) (Upd.refl [] _) | exact hK _ _ (fun _ => rfl) (Upd.refl [] _)))
        | 27, ho =>
          obtain rfl := Option.some.inj ho
          have d20 := hold 20 _ (by kernel_rfl) rfl
          have d151 := get_of_at (hneed 25 (of_decide_eq_true (by kernel_rfl)) 151 rfl) (by simp [undef])
          clear hold hneed ho
          (cases t <;> (go_simp; first | exact hK _ _ (fun h => Bool.noConfusion h) (Upd.refl [] _) | exact hK _ _ (fun _ => rfl) (Upd.refl [] _)))
        | 28, ho =>
          obtain rfl := Option.some.inj ho
          have d152 := fun h => get_of_at (hneed 26 (of_decide_eq_true (by kernel_rfl)) 152 rfl h) (by simp [undef])
          have d153 := fun h => get_of_at (hneed 27 (of_decide_eq_true (by kernel_rfl)) 153 rfl h) (by simp [undef])
          have d151 := get_of_at (hneed 25 (of_decide_eq_true (by kernel_rfl)) 151 rfl) (by simp [undef])
          clear hold hneed ho
          (cases t <;> (try replace d152 := d152 rfl) <;> (try replace d153 := d153 rfl) <;> (go_simp; first | exact hK _ _ (fun h => Bool.noConfusion h) (Upd.refl [] _) | (refine (hq3' _ hS rfl).mono ?_; rintro e w3 ⟨rfl, hu3⟩; exact hK _ _ (fun _ => rfl) hu3)))
        | 29, ho =>
          obtain rfl := Option.some.inj ho
          have d151 := get_of_at (hneed 25 (of_decide_eq_true (by kernel_rfl)) 151 rfl) (by simp [undef])
          have d154 := fun h => get_of_at (hneed 28 (of_decide_eq_true (by kernel_rfl)) 154 rfl h) (by simp [undef])
          have d147 := get_of_at (hneed 21 (of_decide_eq_true (by kernel_rfl)) 147 rfl) (by simp [undef])
          clear hold hneed ho
          (cases t <;> (try replace d154 := d154 rfl) <;> (go_simp; exact hK _ _ rfl (Upd.refl [] _)))
        | 30, ho =>
          obtain rfl := Option.some.inj ho
          have d147 := get_of_at (hneed 21 (of_decide_eq_true (by kernel_rfl)) 147 rfl) (by simp [undef])
          have d155 := get_of_at (hneed 29 (of_decide_eq_true (by kernel_rfl)) 155 rfl) (by simp [undef])
          clear hold hneed ho
          (go_simp; exact hK _ _ rfl (Upd.refl [] _))
        | 31, ho =>
          obtain rfl := Option.some.inj ho
          have d156 := get_of_at (hneed 30 (of_decide_eq_true (by kernel_rfl)) 156 rfl) (by simp [undef])
          clear hold hneed ho
          (go_simp; exact hK _ _ rfl (Upd.refl [] _))
        | _ + 32, ho => exact absurd ho (by simp)
      case fin =>
        intro a w' hS hsz hdf hold hvals
        obtain ⟨v152, hv152⟩ : ∃ v, at_ a 152 = v := ⟨_, rfl⟩
        obtain ⟨v153, hv153⟩ : ∃ v, at_ a 153 = v := ⟨_, rfl⟩
        obtain ⟨v154, hv154⟩ : ∃ v, at_ a 154 = v := ⟨_, rfl⟩
        have ha := act_lit hsz hdf (RowIs.cons (at_of_get (hold 0 _ (by kernel_rfl) rfl)) (RowIs.cons (at_of_get (hold 1 _ (by kernel_rfl) rfl)) (RowIs.cons (at_of_get (hold 2 _ (by kernel_rfl) rfl)) (RowIs.cons (at_of_get (hold 3 _ (by kernel_rfl) rfl)) (RowIs.cons (at_of_get (hold 4 _ (by kernel_rfl) rfl)) (RowIs.cons (at_of_get (hold 5 _ (by kernel_rfl) rfl)) (RowIs.cons (hvals 31 6 rfl) (RowIs.cons (at_of_get (hold 7 _ (by kernel_rfl) rfl)) (RowIs.cons (at_of_get (hold 8 _ (by kernel_rfl) rfl)) (RowIs.cons (at_of_get (hold 9 _ (by kernel_rfl) rfl)) (RowIs.cons (at_of_get (hold 10 _ (by kernel_rfl) rfl)) (RowIs.cons (at_of_get (hold 11 _ (by kernel_rfl) rfl)) (RowIs.cons (at_of_get (hold 12 _ (by kernel_rfl) rfl)) (RowIs.cons (at_of_get (hold 13 _ (by kernel_rfl) rfl)) (RowIs.cons (at_of_get (hold 14 _ (by kernel_rfl) rfl)) (RowIs.cons (at_of_get (hold 15 _ (by kernel_rfl) rfl)) (RowIs.cons (at_of_get (hold 16 _ (by kernel_rfl) rfl)) (RowIs.cons (at_of_get (hold 17 _ (by kernel_rfl) rfl)) (RowIs.cons (at_of_get (hold 18 _ (by kernel_rfl) rfl)) (RowIs.cons (at_of_get (hold 19 _ (by kernel_rfl) rfl)) (RowIs.cons (at_of_get (hold 20 _ (by kernel_rfl) rfl)) (RowIs.cons (at_of_get (hold 21 _ (by kernel_rfl) rfl)) (RowIs.cons (at_of_get (hold 22 _ (by kernel_rfl) rfl)) (RowIs.cons (at_of_get (hold 23 _ (by kernel_rfl) rfl)) (RowIs.cons (at_of_get (hold 24 _ (by kernel_rfl) rfl)) (RowIs.cons (at_of_get (hold 25 _ (by kernel_rfl) rfl)) (RowIs.cons (at_of_get (hold 26 _ (by kernel_rfl) rfl)) (RowIs.cons (at_of_get (hold 27 _ (by kernel_rfl) rfl)) (RowIs.cons (at_of_get (hold 28 _ (by kernel_rfl) rfl)) (RowIs.cons (at_of_get (hold 29 _ (by kernel_rfl) rfl)) (RowIs.cons (at_of_get (hold 30 _ (by kernel_rfl) rfl)) (RowIs.cons (at_of_get (hold 31 _ (by kernel_rfl) rfl)) (RowIs.cons (at_of_get (hold 32 _ (by kernel_rfl) rfl)) (RowIs.cons (at_of_get (hold 33 _ (by kernel_rfl) rfl)) (RowIs.cons (at_of_get (hold 34 _ (by kernel_rfl) rfl)) (RowIs.cons (at_of_get (hold 35 _ (by kernel_rfl) rfl)) (RowIs.cons (at_of_get (hold 36 _ (by kernel_rfl) rfl)) (RowIs.cons (at_of_get (hold 37 _ (by kernel_rfl) rfl)) (RowIs.cons (at_of_get (hold 38 _ (by kernel_rfl) rfl)) (RowIs.cons (at_of_get (hold 39 _ (by kernel_rfl) rfl)) (RowIs.cons (at_of_get (hold 40 _ (by kernel_rfl) rfl)) (RowIs.cons (at_of_get (hold 41 _ (by kernel_rfl) rfl)) (RowIs.cons (at_of_get (hold 42 _ (by kernel_rfl) rfl)) (RowIs.cons (at_of_get (hold 43 _ (by kernel_rfl) rfl)) (RowIs.cons (at_of_get (hold 44 _ (by kernel_rfl) rfl)) (RowIs.cons (at_of_get (hold 45 _ (by kernel_rfl) rfl)) (RowIs.cons (at_of_get (hold 46 _ (by kernel_rfl) rfl)) (RowIs.cons (at_of_get (hold 47 _ (by kernel_rfl) rfl)) (RowIs.cons (at_of_get (hold 48 _ (by kernel_rfl) rfl)) (RowIs.cons (at_of_get (hold 49 _ (by kernel_rfl) rfl)) (RowIs.cons (at_of_get (hold 50 _ (by kernel_rfl) rfl)) (RowIs.cons (at_of_get (hold 51 _ (by kernel_rfl) rfl)) (RowIs.cons (at_of_get (hold 52 _ (by kernel_rfl) rfl)) (RowIs.cons (at_of_get (hold 53 _ (by kernel_rfl) rfl)) (RowIs.cons (at_of_get (hold 54 _ (by kernel_rfl) rfl)) (RowIs.cons (at_of_get (hold 55 _ (by kernel_rfl) rfl)) (RowIs.cons (at_of_get (hold 56 _ (by kernel_rfl) rfl)) (RowIs.cons (at_of_get (hold 57 _ (by kernel_rfl) rfl)) (RowIs.cons (at_of_get (hold 58 _ (by kernel_rfl) rfl)) (RowIs.cons (at_of_get (hold 59 _ (by kernel_rfl) rfl)) (RowIs.cons (at_of_get (hold 60 _ (by kernel_rfl) rfl)) (RowIs.cons (at_of_get (hold 61 _ (by kernel_rfl) rfl)) (RowIs.cons (at_of_get (hold 62 _ (by kernel_rfl) rfl)) (RowIs.cons (at_of_get (hold 63 _ (by kernel_rfl) rfl)) (RowIs.cons (at_of_get (hold 64 _ (by kernel_rfl) rfl)) (RowIs.cons (at_of_get (hold 65 _ (by kernel_rfl) rfl)) (RowIs.cons (at_of_get (hold 66 _ (by kernel_rfl) rfl)) (RowIs.cons (at_of_get (hold 67 _ (by kernel_rfl) rfl)) (RowIs.cons (at_of_get (hold 68 _ (by kernel_rfl) rfl)) (RowIs.cons (at_of_get (hold 69 _ (by kernel_rfl) rfl)) (RowIs.cons (at_of_get (hold 70 _ (by kernel_rfl) rfl)) (RowIs.cons (at_of_get (hold 71 _ (by kernel_rfl) rfl)) (RowIs.cons (at_of_get (hold 72 _ (by kernel_rfl) rfl)) (RowIs.cons (at_of_get (hold 73 _ (by kernel_rfl) rfl)) (RowIs.cons (at_of_get (hold 74 _ (by kernel_rfl) rfl)) (RowIs.cons (at_of_get (hold 75 _ (by kernel_rfl) rfl)) (RowIs.cons (at_of_get (hold 76 _ (by kernel_rfl) rfl)) (RowIs.cons (at_of_get (hold 77 _ (by kernel_rfl) rfl)) (RowIs.cons (at_of_get (hold 78 _ (by kernel_rfl) rfl)) (RowIs.cons (at_of_get (hold 79 _ (by kernel_rfl) rfl)) (RowIs.cons (at_of_get (hold 80 _ (by kernel_rfl) rfl)) (RowIs.cons (at_of_get (hold 81 _ (by kernel_rfl) rfl)) (RowIs.cons (at_of_get (hold 82 _ (by kernel_rfl) rfl)) (RowIs.cons (at_of_get (hold 83 _ (by kernel_rfl) rfl)) (RowIs.cons (at_of_get (hold 84 _ (by kernel_rfl) rfl)) (RowIs.cons (at_of_get (hold 85 _ (by kernel_rfl) rfl)) (RowIs.cons (at_of_get (hold 86 _ (by kernel_rfl) rfl)) (RowIs.cons (at_of_get (hold 87 _ (by kernel_rfl) rfl)) (RowIs.cons (at_of_get (hold 88 _ (by kernel_rfl) rfl)) (RowIs.cons (at_of_get (hold 89 _ (by kernel_rfl) rfl)) (RowIs.cons (at_of_get (hold 90 _ (by kernel_rfl) rfl)) (RowIs.cons (at_of_get (hold 91 _ (by kernel_rfl) rfl)) (RowIs.cons (at_of_get (hold 92 _ (by kernel_rfl) rfl)) (RowIs.cons (at_of_get (hold 93 _ (by kernel_rfl) rfl)) (RowIs.cons (at_of_get (hold 94 _ (by kernel_rfl) rfl)) (RowIs.cons (at_of_get (hold 95 _ (by kernel_rfl) rfl)) (RowIs.cons (at_of_get (hold 96 _ (by kernel_rfl) rfl)) (RowIs.cons (at_of_get (hold 97 _ (by kernel_rfl) rfl)) (RowIs.cons (at_of_get (hold 98 _ (by kernel_rfl) rfl)) (RowIs.cons (at_of_get (hold 99 _ (by kernel_rfl) rfl)) (RowIs.cons (at_of_get (hold 100 _ (by kernel_rfl) rfl)) (RowIs.cons (at_of_get (hold 101 _ (by kernel_rfl) rfl)) (RowIs.cons (at_of_get (hold 102 _ (by kernel_rfl) rfl)) (RowIs.cons (at_of_get (hold 103 _ (by kernel_rfl) rfl)) (RowIs.cons (at_of_get (hold 104 _ (by kernel_rfl) rfl)) (RowIs.cons (at_of_get (hold 105 _ (by kernel_rfl) rfl)) (RowIs.cons (at_of_get (hold 106 _ (by kernel_rfl) rfl)) (RowIs.cons (at_of_get (hold 107 _ (by kernel_rfl) rfl)) (RowIs.cons (at_of_get (hold 108 _ (by kernel_rfl) rfl)) (RowIs.cons (at_of_get (hold 109 _ (by kernel_rfl) rfl)) (RowIs.cons (at_of_get (hold 110 _ (by kernel_rfl) rfl)) (RowIs.cons (at_of_get (hold 111 _ (by kernel_rfl) rfl)) (RowIs.cons (at_of_get (hold 112 _ (by kernel_rfl) rfl)) (RowIs.cons (at_of_get (hold 113 _ (by kernel_rfl) rfl)) (RowIs.cons (at_of_get (hold 114 _ (by kernel_rfl) rfl)) (RowIs.cons (at_of_get (hold 115 _ (by kernel_rfl) rfl)) (RowIs.cons (at_of_get (hold 116 _ (by kernel_rfl) rfl)) (RowIs.cons (at_of_get (hold 117 _ (by kernel_rfl) rfl)) (RowIs.cons (at_of_get (hold 118 _ (by kernel_rfl) rfl)) (RowIs.cons (at_of_get (hold 119 _ (by kernel_rfl) rfl)) (RowIs.cons (at_of_get (hold 120 _ (by kernel_rfl) rfl)) (RowIs.cons (at_of_get (hold 121 _ (by kernel_rfl) rfl)) (RowIs.cons (at_of_get (hold 122 _ (by kernel_rfl) rfl)) (RowIs.cons (at_of_get (hold 123 _ (by kernel_rfl) rfl)) (RowIs.cons (at_of_get (hold 124 _ (by kernel_rfl) rfl)) (RowIs.cons (at_of_get (hold 125 _ (by kernel_rfl) rfl)) (RowIs.cons (hvals 0 126 rfl) (RowIs.cons (hvals 1 127 rfl) (RowIs.cons (hvals 2 128 rfl) (RowIs.cons (hvals 3 129 rfl) (RowIs.cons (hvals 4 130 rfl) (RowIs.cons (hvals 5 131 rfl) (RowIs.cons (hvals 6 132 rfl) (RowIs.cons (hvals 7 133 rfl) (RowIs.cons (hvals 8 134 rfl) (RowIs.cons (hvals 9 135 rfl) (RowIs.cons (hvals 10 136 rfl) (RowIs.cons (hvals 11 137 rfl) (RowIs.cons (hvals 12 138 rfl) (RowIs.cons (hvals 13 139 rfl) (RowIs.cons (hvals 14 140 rfl) (RowIs.cons (hvals 15 141 rfl) (RowIs.cons (hvals 16 142 rfl) (RowIs.cons (hvals 17 143 rfl) (RowIs.cons (hvals 18 144 rfl) (RowIs.cons (hvals 19 145 rfl) (RowIs.cons (hvals 20 146 rfl) (RowIs.cons (hvals 21 147 rfl) (RowIs.cons (hvals 22 148 rfl) (RowIs.cons (hvals 23 149 rfl) (RowIs.cons (hvals 24 150 rfl) (RowIs.cons (hvals 25 151 rfl) (RowIs.cons hv152 (RowIs.cons hv153 (RowIs.cons hv154 (RowIs.cons (hvals 29 155 rfl) (RowIs.cons (hvals 30 156 rfl) (RowIs.nil _ _)))))))))))))))))))))))))))))))))))))))))))))))))))))))))))))))))))))))))))))))))))))))))))))))))))))))))))))))))))))))))))))))))))))))))))))))))))))))))))))) rfl
        clear hsz hdf hold hvals
        subst ha
        try simp only [List.getElem_toArray, List.getElem_cons_succ, List.getElem_cons_zero]
        have t16 := t15.trans_nil hS
        go_wp2_with fail
        go_ret
        exact ⟨rfl, t16⟩

end Go.Proofs.Ytppbaahaegmgeaa
