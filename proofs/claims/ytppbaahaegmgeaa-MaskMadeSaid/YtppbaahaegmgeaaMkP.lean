/- MaskBack: the walk. -/
import Derived.Test.YtppbaahaegmgeaaMkO
namespace Go.Proofs.Ytppbaahaegmgeaa
open Go.RowKit

set_option maxRecDepth 100000 in
set_option maxHeartbeats 8000000 in
theorem back_walk (w : World) (G : Nat → Int) (hG : RngF G) (a s r : Int) (ha : I64 a) (hs : I64 s) (hr : I64 r) (p : Option Addr) (bs : List Int) (c : Nat) (hb : ByAt w p bs) (hrb : Rng bs) (hbl : bs.length ≤ 9223372036854775807) (hbc : bs.length ≤ c) :
    Calls Try.prog 6 #[.agg (row32 G).toArray, .agg #[.int .i64 a, .int .i64 s, .int .i64 r], .slice p bs.length c] w fun e w' => e = .returned (.bool true) ∧ Upd [] w w' := by
  obtain ⟨n, hn⟩ : ∃ n : Nat, min (bs.length : Int) 1000 = n := ⟨min bs.length 1000, by omega⟩
  have hB : ByAt w p (bs.take 1000) := hb.take 1000
  have hBr : Rng (bs.take 1000) := hrb.take 1000
  have hBl : (bs.take 1000).length = n := by rw [List.length_take]; omega
  have k1 : (n : Int) ≤ c := by omega
  have k2 : (0 : Int) ≤ n := by omega
  have k3 : n ≤ 1000 := by omega
  have k4 : n ≤ c := by omega
  have k5 : (n : Int) ≤ bs.length := by omega
  have hnr := fun W => near_walk W a s r ha hs hr
  have hno := near_ok a s r
  obtain ⟨a', ha'⟩ : ∃ x, a % 9007199254740992 = x := ⟨_, rfl⟩
  obtain ⟨s', hs'⟩ : ∃ x, s % 9007199254740992 = x := ⟨_, rfl⟩
  obtain ⟨r', hr'⟩ : ∃ x, r % 9007199254740992 = x := ⟨_, rfl⟩
  rw [ha', hs', hr'] at hno hnr
  clear ha' hs' hr' hb hrb
  generalize bs.take 1000 = B at *
  have Hn := Lib.hid hn
  have HBl := Lib.hid hBl
  go_enter Try.func6, Try.ntmps6
  go_upto_region 1 with fail
  have u1 := ((Upd.refl [] w).alloc (.cells (row32 G).toArray 23)).alloc (.cells #[.int .i64 a, .int .i64 s, .int .i64 r] 25)
  have hD : Blk ((w.alloc (.cells (row32 G).toArray 23)).alloc (.cells #[.int .i64 a, .int .i64 s, .int .i64 r] 25)) w.heap.size (row32 G) 23 := Blk.alloc (Blk.new w (row32 G).toArray 23) _
  have hN := Blk.new (w.alloc (.cells (row32 G).toArray 23)) #[.int .i64 a, .int .i64 s, .int .i64 r] 25
  rw [World.size_alloc] at hN
  generalize (w.alloc (.cells (row32 G).toArray 23)).alloc (.cells #[.int .i64 a, .int .i64 s, .int .i64 r] 25) = W1 at *
  generalize hd : w.heap.size = D at hD hN ⊢
  obtain ⟨E, hE⟩ : ∃ E, D + 1 = E := ⟨_, rfl⟩
  rw [hE] at hN ⊢
  have hDE : D ≠ E := by omega
  have hEw : w.heap.size ≤ E := by omega
  simp only [List.toList_toArray] at hN
  clear hE hd hn hBl
  go_upto_region 4 with (go_at_call 17; refine (works_walk W1).mono ?_; rintro e W2 ⟨rfl, u2⟩)
  rw [Hn.out]
  simp only [Int.toNat_natCast]
  have hN2 := hN.upd_nil u2
  have hD2 := hD.upd_nil u2
  have t2 := u1.trans_nil u2
  have n0 := hN2.cell 0 rfl
  have n1 := hN2.cell 1 rfl
  have n2 := hN2.cell 2 rfl
  clear hN hD u1 u2
  go_upto_region 5 with (go_at_call 18; refine (hnr W2).mono ?_; rintro e W3 ⟨rfl, u3⟩; have hN3 := hN2.upd_nil u3; have z0 := hN3.cell 0 rfl; have z1 := hN3.cell 1 rfl; have z2 := hN3.cell 2 rfl; have f0 := hN3.free 0; have f1 := hN3.free 1; have f2 := hN3.free 2)
  have hN4 := ((hN3.set 0 (.int .i64 a')).set 1 (.int .i64 s')).set 2 (.int .i64 r')
  have hD4 := (((hD2.upd_nil u3).set_ne ⟨E, 0, none⟩ hDE (.int .i64 a')).set_ne ⟨E, 1, none⟩ hDE (.int .i64 s')).set_ne ⟨E, 2, none⟩ hDE (.int .i64 r')
  have t4 := (((t2.trans_nil u3).setCell (p := ⟨E, 0, none⟩) (Or.inr hEw) (.int .i64 a')).setCell (p := ⟨E, 1, none⟩) (Or.inr hEw) (.int .i64 s')).setCell (p := ⟨E, 2, none⟩) (Or.inr hEw) (.int .i64 r')
  clear hN3 hN2 hD2 t2 u3 z0 z1 z2 f0 f1 f2 n0 n1 n2 hnr
  generalize ((W3.setCell ⟨E, 0, none⟩ (.int .i64 a')).setCell ⟨E, 1, none⟩ (.int .i64 s')).setCell ⟨E, 2, none⟩ (.int .i64 r') = W4 at *
  have hKr : ∀ W, Upd [] W4 W → W.heap[D]? = some (.cells (row32 G).toArray 23 (0, 0)) := fun W u => hD4.upd_nil u
  have hNc : ∀ W, Upd [] W4 W → W.cell? ⟨E, 0, none⟩ = some (.int .i64 a') ∧ W.cell? ⟨E, 1, none⟩ = some (.int .i64 s') ∧ W.cell? ⟨E, 2, none⟩ = some (.int .i64 r') := fun W u =>
    ⟨(hN4.upd_nil u).cell 0 rfl, (hN4.upd_nil u).cell 1 rfl, (hN4.upd_nil u).cell 2 rfl⟩
  clear hN4 hD4
  -- the rows
  obtain ⟨S, hS⟩ : ∃ S, B ++ macL G 3 B = S := ⟨_, rfl⟩
  obtain ⟨X, hX⟩ : ∃ X, rowsI [a', s', r'] = X := ⟨_, rfl⟩
  obtain ⟨C, hC⟩ : ∃ C, sealL G X B = C := ⟨_, rfl⟩
  obtain ⟨n32, h32⟩ : ∃ k, n + 32 = k := ⟨_, rfl⟩
  obtain ⟨n16, h16⟩ : ∃ k, n + 16 = k := ⟨_, rfl⟩
  have hSl : S.length = n32 := by rw [← hS, List.length_append, macL_len, HBl.out]; exact h32
  have hCl : C.length = n16 := by rw [← hC, sealL_len, HBl.out]; exact h16
  have hSr : Rng S := by rw [← hS]; exact hBr.app (macL_rng _ _ _)
  have hCr : Rng C := by rw [← hC]; exact sealL_rng _ _ _
  have hsg := fun (W : World) (u : Upd [] W4 W) => sign_walk W G hG p B c (hB.upd_nil (t4.trans_nil u)) hBr (by rw [HBl.out]; omega) (by rw [HBl.out]; omega)
  have hse := fun (W : World) (u : Upd [] W4 W) => seal_ok W G hG a' s' r' hno p B c (hB.upd_nil (t4.trans_nil u)) hBr (by rw [HBl.out]; omega) (by rw [HBl.out]; omega)
  have hsd : ∀ (W : World) q d, ByAt W q S → n32 ≤ d → Calls Try.prog 24 #[.agg (row32 G).toArray, .slice q n32 d] W fun e w' => ∃ p' c', e = .returned (.tuple #[.slice p' n c', .int .i64 0]) ∧ ByAt w' p' B ∧ Upd [] W w' := fun W q d hq hd => by
    have := signed_walk W G hG q S d hq hSr (by omega) (by omega)
    have e1 : S.length - 32 = B.length := by rw [HBl.out]; omega
    have e2 : S.take B.length = B := by rw [← hS]; exact signL_take G B
    have e3 : S.drop B.length = macL G 3 B := by rw [← hS]; exact signL_drop G B
    rw [e1, e2, e3, hSl, HBl.out] at this
    refine this.mono ?_
    rintro e w' ⟨_, _, h3, hu⟩
    obtain ⟨p', c', he, ho⟩ := h3 (by omega) rfl
    exact ⟨p', c', he, ho.at_, hu⟩
  have hop : ∀ (W : World) q d, ByAt W q C → n16 ≤ d → Calls Try.prog 14 #[.agg (row32 G).toArray, .agg #[.int .i64 a', .int .i64 s', .int .i64 r'], .slice q n16 d] W fun e w' => ∃ p' c', e = .returned (.tuple #[.slice p' n c', .int .i64 0]) ∧ ByAt w' p' B ∧ Upd [] W w' := fun W q d hq hd => by
    have := open_ok W G hG a' s' r' hno q C d hq hCr (by omega) n (by omega) (by omega)
    have e2 : C.take n = outL G X B := by rw [← hC, ← HBl.out]; exact sealL_take G X B
    have e3 : C.drop n = tagL G X (outL G X B) := by rw [← hC, ← HBl.out]; exact sealL_drop G X B
    rw [hX, e2, e3, outL_twice G X B hBr, hCl] at this
    refine this.mono ?_
    rintro e w' ⟨_, h2, hu⟩
    obtain ⟨p', c', he, ho⟩ := h2 rfl
    exact ⟨p', c', he, ho.at_, hu⟩
  rw [HBl.out, h32, hS] at hsg
  rw [HBl.out, h16, hX, hC] at hse
  have HS := Lib.hid hS
  have HC := Lib.hid hC
  have H32 := Lib.hid h32
  have H16 := Lib.hid h16
  have HSl := Lib.hid hSl
  have HCl := Lib.hid hCl
  clear hS hX hC h32 h16 hSl hCl
  go_upto_region 6 with (first
    | (go_at_call 20; refine (hsg W4 (Upd.refl [] _)).mono ?_; rintro e W5 ⟨p5, c5, rfl, o5, u5⟩)
    | (refine wpList_load_row rfl _ _ rfl D rfl _ (row32 G).toArray _ _ (hKr W4 (Upd.refl [] _)) Try.underlying23 rfl (infoK G) ?_))
  have l5 := own_cap o5
  have a5 := o5.at_
  have v5 := u5
  clear hsg o5
  go_upto_region 7 with (first
    | (go_at_call 24; refine (hsd W5 p5 c5 a5 l5).mono ?_; rintro e W6 ⟨p6, c6, rfl, a6, u6⟩)
    | (refine wpList_load_row rfl _ _ rfl D rfl _ (row32 G).toArray _ _ (hKr W5 v5) Try.underlying23 rfl (infoK G) ?_))
  have v6 := v5.trans_nil u6
  obtain ⟨n0, n1, n2⟩ := hNc W6 v6
  go_upto_region 8 with (first
    | (go_at_call 11; refine (hse W6 v6).mono ?_; rintro e W7 ⟨p7, c7, rfl, o7, u7⟩)
    | (have tok := n0; refine wpList_load_row rfl _ _ rfl D rfl _ (row32 G).toArray _ _ (hKr W6 v6) Try.underlying23 rfl (infoK G) ?_))
  have v7 := v6.trans_nil u7
  clear n0 n1 n2
  obtain ⟨n0, n1, n2⟩ := hNc W7 v7
  go_upto_region 9 with (first
    | (go_at_call 11; refine (hse W7 v7).mono ?_; rintro e W8 ⟨p8, c8, rfl, o8, u8⟩)
    | (have tok := n0; refine wpList_load_row rfl _ _ rfl D rfl _ (row32 G).toArray _ _ (hKr W7 v7) Try.underlying23 rfl (infoK G) ?_))
  have v8 := v7.trans_nil u8
  clear n0 n1 n2
  obtain ⟨n0, n1, n2⟩ := hNc W8 v8
  have a7 := o7.at_.upd_nil u8
  have l7 := own_cap o7
  go_upto_region 10 with (first
    | (go_at_call 14; refine (hop W8 p7 c7 a7 l7).mono ?_; rintro e W9 ⟨p9, c9, rfl, a9, u9⟩)
    | (have tok := n0; refine wpList_load_row rfl _ _ rfl D rfl _ (row32 G).toArray _ _ (hKr W8 v8) Try.underlying23 rfl (infoK G) ?_))
  have v9 := v8.trans_nil u9
  have t9 := t4.trans_nil v9
  have q1 : ∀ W, Upd [] W9 W → Calls Try.prog 16 #[.slice p6 n c6, .slice p n c] W fun e w' => e = .returned (.bool true) ∧ Upd [] W w' := fun W u => by
    have := eqb_gen W p6 B c6 p B c ((((a6.upd_nil u7).upd_nil u8).upd_nil u9).upd_nil u) (hB.upd_nil (t9.trans_nil u)) hBr hBr (by rw [HBl.out]; omega) (by rw [HBl.out]; omega)
    rw [HBl.out, decide_eq_true rfl] at this
    exact this
  have q2 : ∀ W, Upd [] W9 W → Calls Try.prog 16 #[.slice p7 n16 c7, .slice p8 n16 c8] W fun e w' => e = .returned (.bool true) ∧ Upd [] W w' := fun W u => by
    have := eqb_gen W p7 C c7 p8 C c8 ((a7.upd_nil u9).upd_nil u) ((o8.at_.upd_nil u9).upd_nil u) hCr hCr (by rw [HCl.out]; have := H16.out; omega) (by rw [HCl.out]; have := H16.out; omega)
    rw [HCl.out, decide_eq_true rfl] at this
    exact this
  have q3 : ∀ W, Upd [] W9 W → Calls Try.prog 16 #[.slice p9 n c9, .slice p n c] W fun e w' => e = .returned (.bool true) ∧ Upd [] W w' := fun W u => by
    have := eqb_gen W p9 B c9 p B c (a9.upd_nil u) (hB.upd_nil (t9.trans_nil u)) hBr hBr (by rw [HBl.out]; omega) (by rw [HBl.out]; omega)
    rw [HBl.out, decide_eq_true rfl] at this
    exact this
  have e32 : (n : Int) + 32 = (n32 : Int) := by have := H32.out; omega
  have e16 : (n : Int) + 16 = (n16 : Int) := by have := H16.out; omega
  clear n0 n1 n2 hop hse hsd hKr hNc a7 a9 a6 o7 o8 u7 u8 u9 v5 v6 v7 v8 v9 hB t4 a5 u5 u6
  go_wp2_with (first
    | (have tok := r11; go_at_call_of 16 (Value.slice p9 n c9); refine (q3 _ r11).mono ?_; rintro e w12 ⟨rfl, s12⟩; have r12 := r11.trans_nil s12)
    | (have tok := r10; go_at_call_of 16 (Value.slice p7 n16 c7); refine (q2 _ r10).mono ?_; rintro e w11 ⟨rfl, s11⟩; have r11 := r10.trans_nil s11)
    | (go_at_call_of 16 (Value.slice p6 n c6); refine (q1 _ (Upd.refl [] _)).mono ?_; rintro e w10 ⟨rfl, r10⟩))
  go_ret
  exact ⟨rfl, t9.trans_nil r12⟩

end Go.Proofs.Ytppbaahaegmgeaa
