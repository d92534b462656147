/- MaskTurned: the walk. -/
import Derived.Test.YtppbaahaegmgeaaMkO
namespace Go.Proofs.Ytppbaahaegmgeaa
open Go.RowKit

theorem set_eq_iff (l : List Int) (j : Nat) (hj : j < l.length) (v : Int) : l.set j v = l ↔ v = l.getD j 0 := by
  constructor
  · intro h
    have h1 : (l.set j v)[j]? = l[j]? := by rw [h]
    rw [List.getElem?_set_self hj, List.getElem?_eq_getElem hj] at h1
    rw [List.getD_eq_getElem?_getD, List.getElem?_eq_getElem hj]
    exact Option.some.inj h1
  · rintro rfl
    rw [List.getD_eq_getElem?_getD, List.getElem?_eq_getElem hj]
    exact List.set_getElem_self hj
theorem take_set_ge (l : List Int) (n i : Nat) (v : Int) (h : n ≤ i) : (l.set i v).take n = l.take n := by
  rw [List.take_set]
  exact List.set_eq_of_length_le (by rw [List.length_take]; omega)
theorem drop_set_ge (l : List Int) (n i : Nat) (v : Int) (h : n ≤ i) : (l.set i v).drop n = (l.drop n).set (i - n) v := by
  rw [List.drop_set, if_neg (by omega)]
theorem getD_drop (l : List Int) (n i : Nat) (h : n ≤ i) : (l.drop n).getD (i - n) 0 = l.getD i 0 := by
  rw [List.getD_eq_getElem?_getD, List.getD_eq_getElem?_getD, List.getElem?_drop, show n + (i - n) = i by omega]
/-- A byte to which another one is added: it is the same if and only if that is 0. -/
theorem add_same (v b : Int) (hv : 0 ≤ v ∧ v ≤ 255) (hb : 0 ≤ b ∧ b ≤ 255) : (v + b) % 256 = v ↔ b = 0 := by omega
/-- The tail of a row one byte of which was turned. -/
theorem turned_tail (S T : List Int) (n i : Nat) (b : Int) (hd : S.drop n = T) (hi : n ≤ i) (hl : i < S.length) (hr : Rng S) (hb : 0 ≤ b ∧ b ≤ 255) : T = (S.set i ((S.getD i 0 + b) % 256)).drop n ↔ b = 0 := by
  rw [drop_set_ge _ _ _ _ hi, ← hd]
  have h1 := set_eq_iff (S.drop n) (i - n) (by rw [List.length_drop]; omega) ((S.getD i 0 + b) % 256)
  rw [getD_drop S n i hi] at h1
  have h2 := hr.getD i
  have h3 := add_same (S.getD i 0) b (by omega) hb
  exact ⟨fun h => h3.1 (h1.1 h.symm), fun h => (h1.2 (h3.2 h)).symm⟩
theorem rng_set {S : List Int} (h : Rng S) (i : Nat) (v : Int) (hv : 0 ≤ v ∧ v ≤ 255) : Rng (S.set i v) := fun x hx => by
  rcases List.mem_or_eq_of_mem_set hx with h1 | rfl
  · exact h x h1
  · exact hv

set_option maxRecDepth 100000 in
set_option maxHeartbeats 8000000 in
theorem mturned_walk (w : World) (G : Nat → Int) (hG : RngF G) (p : Option Addr) (bs : List Int) (c : Nat) (hb : ByAt w p bs) (hrb : Rng bs) (hbl : bs.length ≤ 9223372036854775807) (hbc : bs.length ≤ c) (h0 h1 h2 : Int) (ha : I64 h0) (hs : I64 h1) (hh2 : I64 h2) :
    Calls Try.prog 7 #[.agg (row32 G).toArray, .slice p bs.length c, .agg #[.int .i64 h0, .int .i64 h1, .int .i64 h2]] w fun e w' => e = .returned (.bool true) ∧ Upd [] w w' := by
  obtain ⟨n, hn⟩ : ∃ n : Nat, min (bs.length : Int) 500 = n := ⟨min bs.length 500, by omega⟩
  have hB : ByAt w p (bs.take 500) := hb.take 500
  have hBr : Rng (bs.take 500) := hrb.take 500
  have hBl : (bs.take 500).length = n := by rw [List.length_take]; omega
  have k1 : (n : Int) ≤ c := by omega
  have k2 : (0 : Int) ≤ n := by omega
  have k3 : n ≤ 500 := by omega
  have k4 : n ≤ c := by omega
  have k5 : (n : Int) ≤ bs.length := by omega
  have hnr := fun W => near_walk W h0 h1 0 ha hs ⟨by omega, by omega⟩
  have hno := near_ok h0 h1 0
  obtain ⟨a', ha'⟩ : ∃ x, h0 % 9007199254740992 = x := ⟨_, rfl⟩
  obtain ⟨s', hs'⟩ : ∃ x, h1 % 9007199254740992 = x := ⟨_, rfl⟩
  obtain ⟨r', hr'⟩ : ∃ x, (0 : Int) % 9007199254740992 = x := ⟨_, rfl⟩
  rw [ha', hs', hr'] at hno hnr
  clear ha' hs' hr' hb hrb
  generalize bs.take 500 = B at *
  have Hn := Lib.hid hn
  have HBl := Lib.hid hBl
  go_enter Try.func7, Try.ntmps7
  go_upto_region 1 with fail
  have u1 := ((Upd.refl [] w).alloc (.cells (row32 G).toArray 23)).alloc (.cells #[.int .i64 h0, .int .i64 h1, .int .i64 h2] 49)
  have hD : Blk ((w.alloc (.cells (row32 G).toArray 23)).alloc (.cells #[.int .i64 h0, .int .i64 h1, .int .i64 h2] 49)) w.heap.size (row32 G) 23 := Blk.alloc (Blk.new w (row32 G).toArray 23) _
  have hR := Blk.new (w.alloc (.cells (row32 G).toArray 23)) #[.int .i64 h0, .int .i64 h1, .int .i64 h2] 49
  rw [World.size_alloc] at hR
  generalize (w.alloc (.cells (row32 G).toArray 23)).alloc (.cells #[.int .i64 h0, .int .i64 h1, .int .i64 h2] 49) = W1 at *
  generalize hd : w.heap.size = D at hD hR ⊢
  obtain ⟨R, hRR⟩ : ∃ R, D + 1 = R := ⟨_, rfl⟩
  rw [hRR] at hR ⊢
  try simp only [List.toList_toArray] at hR
  clear hRR hd hn hBl
  go_upto_region 4 with (go_at_call 17; refine (works_walk W1).mono ?_; rintro e W2 ⟨rfl, u2⟩)
  rw [Hn.out]
  simp only [Int.toNat_natCast]
  have hR2 := hR.upd_nil u2
  have hD2 := hD.upd_nil u2
  have t2 := u1.trans_nil u2
  have r0 := hR2.cell 0 rfl
  have r1 := hR2.cell 1 rfl
  clear hR hD u1 u2
  go_upto_region 5 with (go_at_call 18; refine (hnr W2).mono ?_; rintro e W3 ⟨rfl, u3⟩)
  have hE := Blk.new W3 #[.int .i64 a', .int .i64 s', .int .i64 r'] 25
  have u4 := u3.alloc (.cells #[.int .i64 a', .int .i64 s', .int .i64 r'] 25)
  have hR4 := hR2.upd_nil u4
  have hD4 := hD2.upd_nil u4
  have t4 := t2.trans_nil u4
  clear hR2 hD2 r0 r1 u3 u4 t2 hnr
  generalize W3.alloc (.cells #[.int .i64 a', .int .i64 s', .int .i64 r'] 25) = W4 at *
  generalize W3.heap.size = E at *
  try simp only [List.toList_toArray] at hE
  have hKr : ∀ W, Upd [] W4 W → W.heap[D]? = some (.cells (row32 G).toArray 23 (0, 0)) := fun W u => hD4.upd_nil u
  have hNc : ∀ W, Upd [] W4 W → W.cell? ⟨E, 0, none⟩ = some (.int .i64 a') ∧ W.cell? ⟨E, 1, none⟩ = some (.int .i64 s') ∧ W.cell? ⟨E, 2, none⟩ = some (.int .i64 r') := fun W u =>
    ⟨(hE.upd_nil u).cell 0 rfl, (hE.upd_nil u).cell 1 rfl, (hE.upd_nil u).cell 2 rfl⟩
  have hRc4 : ∀ W, Upd [] W4 W → W.cell? ⟨R, 0, none⟩ = some (.int .i64 h0) ∧ W.cell? ⟨R, 1, none⟩ = some (.int .i64 h1) ∧ W.cell? ⟨R, 2, none⟩ = some (.int .i64 h2) := fun W u =>
    ⟨(hR4.upd_nil u).cell 0 rfl, (hR4.upd_nil u).cell 1 rfl, (hR4.upd_nil u).cell 2 rfl⟩
  clear hE hD4 hR4
  obtain ⟨S, hS⟩ : ∃ S, B ++ macL G 3 B = S := ⟨_, rfl⟩
  obtain ⟨X, hX⟩ : ∃ X, rowsI [a', s', r'] = X := ⟨_, rfl⟩
  obtain ⟨C, hC⟩ : ∃ C, sealL G X B = C := ⟨_, rfl⟩
  obtain ⟨n32, h32⟩ : ∃ k, n + 32 = k := ⟨_, rfl⟩
  obtain ⟨n16, h16⟩ : ∃ k, n + 16 = k := ⟨_, rfl⟩
  obtain ⟨bv, hbv⟩ : ∃ b, h2 % 256 = b := ⟨_, rfl⟩
  have hbd : 0 ≤ bv ∧ bv ≤ 255 := by omega
  obtain ⟨m0, hm0, hm0l⟩ : ∃ m : Nat, h0 % 32 = m ∧ m < 32 := ⟨(h0 % 32).toNat, by omega, by omega⟩
  obtain ⟨m1, hm1, hm1l⟩ : ∃ m : Nat, h1 % 16 = m ∧ m < 16 := ⟨(h1 % 16).toNat, by omega, by omega⟩
  obtain ⟨i0, hi0⟩ : ∃ i, n32 - 1 - m0 = i := ⟨_, rfl⟩
  obtain ⟨i1, hi1⟩ : ∃ i, n16 - 1 - m1 = i := ⟨_, rfl⟩
  have hb32 := fun W => bring_big h0 32 W (by omega) (by omega) ha.1 ha.2
  have hb16 := fun W => bring_big h1 16 W (by omega) (by omega) hs.1 hs.2
  rw [hm0] at hb32
  rw [hm1] at hb16
  have HI0 : Hid ((n32 : Int) - 1 - (m0 : Int) = (i0 : Int)) := Lib.hid (by omega)
  have HI1 : Hid ((n16 : Int) - 1 - (m1 : Int) = (i1 : Int)) := Lib.hid (by omega)
  have j0 : n ≤ i0 := by omega
  have j1 : i0 < n32 := by omega
  have j2 : n ≤ i1 := by omega
  have j3 : i1 < n16 := by omega
  have j4 : (0 : Int) ≤ i0 := by omega
  have j5 : (i0 : Int) < n32 := by omega
  have j6 : (0 : Int) ≤ i1 := by omega
  have j7 : (i1 : Int) < n16 := by omega
  have hSl : S.length = n32 := by rw [← hS, List.length_append, macL_len, HBl.out]; exact h32
  have hCl : C.length = n16 := by rw [← hC, sealL_len, HBl.out]; exact h16
  have hSr : Rng S := by rw [← hS]; exact hBr.app (macL_rng _ _ _)
  have hCr : Rng C := by rw [← hC]; exact sealL_rng _ _ _
  obtain ⟨fc, hf0, hf1⟩ : ∃ fc : Int, (bv = 0 → fc = 0) ∧ (bv ≠ 0 → fc = 150) := by
    by_cases h : bv = 0
    · exact ⟨0, fun _ => rfl, fun h' => absurd h h'⟩
    · exact ⟨150, fun h' => absurd h' h, fun _ => rfl⟩
  have hsg := fun (W : World) (u : Upd [] W4 W) => sign_walk W G hG p B c (hB.upd_nil (t4.trans_nil u)) hBr (by rw [HBl.out]; omega) (by rw [HBl.out]; omega)
  have hse := fun (W : World) (u : Upd [] W4 W) => seal_ok W G hG a' s' r' hno p B c (hB.upd_nil (t4.trans_nil u)) hBr (by rw [HBl.out]; omega) (by rw [HBl.out]; omega)
  have hsd : ∀ (W : World) q d, ByAt W q (S.set i0 ((S.getD i0 0 + bv) % 256)) → n32 ≤ d → Calls Try.prog 24 #[.agg (row32 G).toArray, .slice q n32 d] W fun e w' => ∃ v, e = .returned (.tuple #[v, .int .i64 fc]) ∧ Upd [] W w' := fun W q d hq hd => by
    have := signed_walk W G hG q _ d hq (rng_set hSr i0 _ (by omega)) (by rw [List.length_set]; omega) (by rw [List.length_set]; omega)
    have e1 : n32 - 32 = n := by omega
    have e2 : S.take n = B := by rw [← hS, ← HBl.out]; exact signL_take G B
    have e3 : S.drop n = macL G 3 B := by rw [← hS, ← HBl.out]; exact signL_drop G B
    rw [List.length_set, hSl, e1, take_set_ge _ _ _ _ j0, e2] at this
    have htt := turned_tail S (macL G 3 B) n i0 bv e3 j0 (by omega) hSr hbd
    refine this.mono ?_
    rintro e w' ⟨_, g1, g2, hu⟩
    by_cases h : bv = 0
    · obtain ⟨p', c', he, _⟩ := g2 (by omega) (htt.2 h)
      exact ⟨_, by rw [hf0 h]; exact he, hu⟩
    · exact ⟨_, by rw [hf1 h]; exact g1 (by omega) (fun e => h (htt.1 e)), hu⟩
  have hop : ∀ (W : World) q d, ByAt W q (C.set i1 ((C.getD i1 0 + bv) % 256)) → n16 ≤ d → Calls Try.prog 14 #[.agg (row32 G).toArray, .agg #[.int .i64 a', .int .i64 s', .int .i64 r'], .slice q n16 d] W fun e w' => ∃ v, e = .returned (.tuple #[v, .int .i64 fc]) ∧ Upd [] W w' := fun W q d hq hd => by
    have := open_ok W G hG a' s' r' hno q _ d hq (rng_set hCr i1 _ (by omega)) (by rw [List.length_set]; omega) n (by rw [List.length_set]; omega) (by omega)
    have e2 : C.take n = outL G X B := by rw [← hC, ← HBl.out]; exact sealL_take G X B
    have e3 : C.drop n = tagL G X (outL G X B) := by rw [← hC, ← HBl.out]; exact sealL_drop G X B
    rw [List.length_set, hCl, hX, take_set_ge _ _ _ _ j2, e2] at this
    have htt := turned_tail C (tagL G X (outL G X B)) n i1 bv e3 j2 (by omega) hCr hbd
    refine this.mono ?_
    rintro e w' ⟨g1, g2, hu⟩
    by_cases h : bv = 0
    · obtain ⟨p', c', he, _⟩ := g2 (htt.2 h)
      exact ⟨_, by rw [hf0 h]; exact he, hu⟩
    · exact ⟨_, by rw [hf1 h]; exact g1 (fun e => h (htt.1 e)), hu⟩
  have hsh0 : ∀ (W : World) q d, ByAt W q S → n32 ≤ d → Calls Try.prog 24 #[.agg (row32 G).toArray, .slice q 31 d] W fun e w' => e = .returned (.tuple #[.slice none 0 0, .int .i64 3]) ∧ Upd [] W w' := fun W q d hq hd => by
    have hl : (S.take 31).length = 31 := by rw [List.length_take]; omega
    have := signed_walk W G hG q (S.take 31) d (hq.take 31) (hSr.take 31) (by omega) (by omega)
    rw [hl] at this
    refine this.mono ?_
    rintro e w' ⟨g1, _, _, hu⟩
    exact ⟨g1 (by omega), hu⟩
  rw [HBl.out, h32, hS] at hsg
  rw [HBl.out, h16, hX, hC] at hse
  have e32 : (32 : Int) ≤ n32 := by omega
  have e16 : (16 : Int) ≤ n16 := by omega
  have e33 : (31 : Int) ≤ n32 := by omega
  have e34 : n32 ≤ 532 := by omega
  have e35 : n16 ≤ 516 := by omega
  have HN1 : Hid (IntKind.i64.wrap ((n32 : Int) - 1) = (n32 : Int) - 1) := Lib.hid (by rw [IntKind.wrap_i64]; omega)
  have HN2 : Hid (IntKind.i64.wrap ((n16 : Int) - 1) = (n16 : Int) - 1) := Lib.hid (by rw [IntKind.wrap_i64]; omega)
  have HW0 : Hid (IntKind.i64.wrap (i0 : Int) = (i0 : Int)) := Lib.hid (by rw [IntKind.wrap_i64]; omega)
  have HW1 : Hid (IntKind.i64.wrap (i1 : Int) = (i1 : Int)) := Lib.hid (by rw [IntKind.wrap_i64]; omega)
  have HSl := Lib.hid hSl
  have HCl := Lib.hid hCl
  have HBV := Lib.hid hbv
  clear hS hX hC h32 h16 hSl hCl hm0 hm1 hi0 hi1
  go_upto_region 6 with (first
    | (go_at_call 20; refine (hsg W4 (Upd.refl [] _)).mono ?_; rintro e W5 ⟨q8, d8, rfl, o8, u5⟩)
    | (refine wpList_load_row rfl _ _ rfl D rfl _ (row32 G).toArray _ _ (hKr W4 (Upd.refl [] _)) Try.underlying23 rfl (infoK G) ?_))
  obtain ⟨n0, n1, n2⟩ := hNc W5 u5
  go_upto_region 7 with (first
    | (go_at_call 11; refine (hse W5 u5).mono ?_; rintro e W6 ⟨q9, d9, rfl, o9, u6⟩)
    | (have tok := n0; refine wpList_load_row rfl _ _ rfl D rfl _ (row32 G).toArray _ _ (hKr W5 u5) Try.underlying23 rfl (infoK G) ?_))
  have v6 := u5.trans_nil u6
  have o86 := o8.upd_nil u6
  have l8 := own_cap o8
  have l9 := own_cap o9
  have e36 : (31 : Int) ≤ d8 := by omega
  clear n0 n1 n2 hsg hse u5 u6 o8
  have hRc := fun (W : World) (u : Upd [] W6 W) => hRc4 W (v6.trans_nil u)
  obtain ⟨n0, n1, n2⟩ := hRc W6 (Upd.refl [] _)
  go_upto_region 10 with fail
  (try rw [HBV.out])
  clear n0 n1 n2 hRc4
  refine wp_region_spec [(.eq (.slice q8 n32 d8)), (.eq (.int .i64 (n32 : Int))), (.eq (.int .i64 ((n32 : Int) - 1))), (.eq (.pointer (some ⟨R, 0, none⟩))), (.eq (.int .i64 h0)), (.eq (.int .i64 (m0 : Int))), (.eq (.int .i64 (i0 : Int))), (.eq (.slice q9 n16 d9)), (.eq (.int .i64 (n16 : Int))), (.eq (.int .i64 ((n16 : Int) - 1))), (.eq (.pointer (some ⟨R, 1, none⟩))), (.eq (.int .i64 h1)), (.eq (.int .i64 (m1 : Int))), (.eq (.int .i64 (i1 : Int))), (.eq (.int .i64 (i0 : Int))), (.eq (.int .i64 (i1 : Int)))] (by kernel_rfl) (by kernel_rfl) rfl ?step ?fin
  case step =>
    intro i o ho a w' hS hold hneed K' hK
    match i, ho with
    | 0, ho =>
      obtain rfl := Option.some.inj ho
      have d8 := hold 8 _ (by kernel_rfl) rfl
      clear hold hneed ho
      (go_simp; exact hK _ _ rfl (Upd.refl [] _))
    | 1, ho =>
      obtain rfl := Option.some.inj ho
      have d60 := get_of_at (hneed 0 (of_decide_eq_true (by kernel_rfl)) 60 rfl) (by simp [undef])
      clear hold hneed ho
      (go_simp; exact hK _ _ rfl (Upd.refl [] _))
    | 2, ho =>
      obtain rfl := Option.some.inj ho
      have d61 := get_of_at (hneed 1 (of_decide_eq_true (by kernel_rfl)) 61 rfl) (by simp [undef])
      clear hold hneed ho
      (go_simp; first | exact hK _ _ rfl (Upd.refl [] _) | (rw [HN1.out]; exact hK _ _ rfl (Upd.refl [] _)))
    | 3, ho =>
      obtain rfl := Option.some.inj ho
      have d5 := hold 5 _ (by kernel_rfl) rfl
      clear hold hneed ho
      (go_simp; exact hK _ _ rfl (Upd.refl [] _))
    | 4, ho =>
      obtain rfl := Option.some.inj ho
      have d63 := get_of_at (hneed 3 (of_decide_eq_true (by kernel_rfl)) 63 rfl) (by simp [undef])
      clear hold hneed ho
      (have p0 := (hRc _ hS).1; go_simp; exact hK _ _ rfl (Upd.refl [] _))
    | 5, ho =>
      obtain rfl := Option.some.inj ho
      have d64 := get_of_at (hneed 4 (of_decide_eq_true (by kernel_rfl)) 64 rfl) (by simp [undef])
      clear hold hneed ho
      (go_simp; refine (hb32 _).mono ?_; rintro e w3 ⟨rfl, rfl⟩; exact hK _ _ rfl (Upd.refl [] _))
    | 6, ho =>
      obtain rfl := Option.some.inj ho
      have d62 := get_of_at (hneed 2 (of_decide_eq_true (by kernel_rfl)) 62 rfl) (by simp [undef])
      have d65 := get_of_at (hneed 5 (of_decide_eq_true (by kernel_rfl)) 65 rfl) (by simp [undef])
      clear hold hneed ho
      (go_simp; rw [HI0.out]; first | exact hK _ _ rfl (Upd.refl [] _) | (rw [HW0.out]; exact hK _ _ rfl (Upd.refl [] _)))
    | 7, ho =>
      obtain rfl := Option.some.inj ho
      have d9 := hold 9 _ (by kernel_rfl) rfl
      clear hold hneed ho
      (go_simp; exact hK _ _ rfl (Upd.refl [] _))
    | 8, ho =>
      obtain rfl := Option.some.inj ho
      have d67 := get_of_at (hneed 7 (of_decide_eq_true (by kernel_rfl)) 67 rfl) (by simp [undef])
      clear hold hneed ho
      (go_simp; exact hK _ _ rfl (Upd.refl [] _))
    | 9, ho =>
      obtain rfl := Option.some.inj ho
      have d68 := get_of_at (hneed 8 (of_decide_eq_true (by kernel_rfl)) 68 rfl) (by simp [undef])
      clear hold hneed ho
      (go_simp; first | exact hK _ _ rfl (Upd.refl [] _) | (rw [HN2.out]; exact hK _ _ rfl (Upd.refl [] _)))
    | 10, ho =>
      obtain rfl := Option.some.inj ho
      have d5 := hold 5 _ (by kernel_rfl) rfl
      clear hold hneed ho
      (go_simp; exact hK _ _ rfl (Upd.refl [] _))
    | 11, ho =>
      obtain rfl := Option.some.inj ho
      have d70 := get_of_at (hneed 10 (of_decide_eq_true (by kernel_rfl)) 70 rfl) (by simp [undef])
      clear hold hneed ho
      (have p0 := (hRc _ hS).2.1; go_simp; exact hK _ _ rfl (Upd.refl [] _))
    | 12, ho =>
      obtain rfl := Option.some.inj ho
      have d71 := get_of_at (hneed 11 (of_decide_eq_true (by kernel_rfl)) 71 rfl) (by simp [undef])
      clear hold hneed ho
      (go_simp; refine (hb16 _).mono ?_; rintro e w3 ⟨rfl, rfl⟩; exact hK _ _ rfl (Upd.refl [] _))
    | 13, ho =>
      obtain rfl := Option.some.inj ho
      have d69 := get_of_at (hneed 9 (of_decide_eq_true (by kernel_rfl)) 69 rfl) (by simp [undef])
      have d72 := get_of_at (hneed 12 (of_decide_eq_true (by kernel_rfl)) 72 rfl) (by simp [undef])
      clear hold hneed ho
      (go_simp; rw [HI1.out]; first | exact hK _ _ rfl (Upd.refl [] _) | (rw [HW1.out]; exact hK _ _ rfl (Upd.refl [] _)))
    | 14, ho =>
      obtain rfl := Option.some.inj ho
      have d66 := get_of_at (hneed 6 (of_decide_eq_true (by kernel_rfl)) 66 rfl) (by simp [undef])
      clear hold hneed ho
      (go_simp; exact hK _ _ rfl (Upd.refl [] _))
    | 15, ho =>
      obtain rfl := Option.some.inj ho
      have d73 := get_of_at (hneed 13 (of_decide_eq_true (by kernel_rfl)) 73 rfl) (by simp [undef])
      clear hold hneed ho
      (go_simp; exact hK _ _ rfl (Upd.refl [] _))
    | _ + 16, ho => exact absurd ho (by simp)
  case fin =>
    intro a w' hS hsz hdf hold hvals
    have ha := act_lit hsz hdf (RowIs.cons (at_of_get (hold 0 _ (by kernel_rfl) rfl)) (RowIs.cons (at_of_get (hold 1 _ (by kernel_rfl) rfl)) (RowIs.cons (at_of_get (hold 2 _ (by kernel_rfl) rfl)) (RowIs.cons (at_of_get (hold 3 _ (by kernel_rfl) rfl)) (RowIs.cons (at_of_get (hold 4 _ (by kernel_rfl) rfl)) (RowIs.cons (at_of_get (hold 5 _ (by kernel_rfl) rfl)) (RowIs.cons (at_of_get (hold 6 _ (by kernel_rfl) rfl)) (RowIs.cons (at_of_get (hold 7 _ (by kernel_rfl) rfl)) (RowIs.cons (at_of_get (hold 8 _ (by kernel_rfl) rfl)) (RowIs.cons (at_of_get (hold 9 _ (by kernel_rfl) rfl)) (RowIs.cons (at_of_get (hold 10 _ (by kernel_rfl) rfl)) (RowIs.cons (at_of_get (hold 11 _ (by kernel_rfl) rfl)) (RowIs.cons (hvals 14 12 rfl) (RowIs.cons (hvals 15 13 rfl) (RowIs.cons (at_of_get (hold 14 _ (by kernel_rfl) rfl)) (RowIs.cons (at_of_get (hold 15 _ (by kernel_rfl) rfl)) (RowIs.cons (at_of_get (hold 16 _ (by kernel_rfl) rfl)) (RowIs.cons (at_of_get (hold 17 _ (by kernel_rfl) rfl)) (RowIs.cons (at_of_get (hold 18 _ (by kernel_rfl) rfl)) (RowIs.cons (at_of_get (hold 19 _ (by kernel_rfl) rfl)) (RowIs.cons (at_of_get (hold 20 _ (by kernel_rfl) rfl)) (RowIs.cons (at_of_get (hold 21 _ (by kernel_rfl) rfl)) (RowIs.cons (at_of_get (hold 22 _ (by kernel_rfl) rfl)) (RowIs.cons (at_of_get (hold 23 _ (by kernel_rfl) rfl)) (RowIs.cons (at_of_get (hold 24 _ (by kernel_rfl) rfl)) (RowIs.cons (at_of_get (hold 25 _ (by kernel_rfl) rfl)) (RowIs.cons (at_of_get (hold 26 _ (by kernel_rfl) rfl)) (RowIs.cons (at_of_get (hold 27 _ (by kernel_rfl) rfl)) (RowIs.cons (at_of_get (hold 28 _ (by kernel_rfl) rfl)) (RowIs.cons (at_of_get (hold 29 _ (by kernel_rfl) rfl)) (RowIs.cons (at_of_get (hold 30 _ (by kernel_rfl) rfl)) (RowIs.cons (at_of_get (hold 31 _ (by kernel_rfl) rfl)) (RowIs.cons (at_of_get (hold 32 _ (by kernel_rfl) rfl)) (RowIs.cons (at_of_get (hold 33 _ (by kernel_rfl) rfl)) (RowIs.cons (at_of_get (hold 34 _ (by kernel_rfl) rfl)) (RowIs.cons (at_of_get (hold 35 _ (by kernel_rfl) rfl)) (RowIs.cons (at_of_get (hold 36 _ (by kernel_rfl) rfl)) (RowIs.cons (at_of_get (hold 37 _ (by kernel_rfl) rfl)) (RowIs.cons (at_of_get (hold 38 _ (by kernel_rfl) rfl)) (RowIs.cons (at_of_get (hold 39 _ (by kernel_rfl) rfl)) (RowIs.cons (at_of_get (hold 40 _ (by kernel_rfl) rfl)) (RowIs.cons (at_of_get (hold 41 _ (by kernel_rfl) rfl)) (RowIs.cons (at_of_get (hold 42 _ (by kernel_rfl) rfl)) (RowIs.cons (at_of_get (hold 43 _ (by kernel_rfl) rfl)) (RowIs.cons (at_of_get (hold 44 _ (by kernel_rfl) rfl)) (RowIs.cons (at_of_get (hold 45 _ (by kernel_rfl) rfl)) (RowIs.cons (at_of_get (hold 46 _ (by kernel_rfl) rfl)) (RowIs.cons (at_of_get (hold 47 _ (by kernel_rfl) rfl)) (RowIs.cons (at_of_get (hold 48 _ (by kernel_rfl) rfl)) (RowIs.cons (at_of_get (hold 49 _ (by kernel_rfl) rfl)) (RowIs.cons (at_of_get (hold 50 _ (by kernel_rfl) rfl)) (RowIs.cons (at_of_get (hold 51 _ (by kernel_rfl) rfl)) (RowIs.cons (at_of_get (hold 52 _ (by kernel_rfl) rfl)) (RowIs.cons (at_of_get (hold 53 _ (by kernel_rfl) rfl)) (RowIs.cons (at_of_get (hold 54 _ (by kernel_rfl) rfl)) (RowIs.cons (at_of_get (hold 55 _ (by kernel_rfl) rfl)) (RowIs.cons (at_of_get (hold 56 _ (by kernel_rfl) rfl)) (RowIs.cons (at_of_get (hold 57 _ (by kernel_rfl) rfl)) (RowIs.cons (at_of_get (hold 58 _ (by kernel_rfl) rfl)) (RowIs.cons (at_of_get (hold 59 _ (by kernel_rfl) rfl)) (RowIs.cons (hvals 0 60 rfl) (RowIs.cons (hvals 1 61 rfl) (RowIs.cons (hvals 2 62 rfl) (RowIs.cons (hvals 3 63 rfl) (RowIs.cons (hvals 4 64 rfl) (RowIs.cons (hvals 5 65 rfl) (RowIs.cons (hvals 6 66 rfl) (RowIs.cons (hvals 7 67 rfl) (RowIs.cons (hvals 8 68 rfl) (RowIs.cons (hvals 9 69 rfl) (RowIs.cons (hvals 10 70 rfl) (RowIs.cons (hvals 11 71 rfl) (RowIs.cons (hvals 12 72 rfl) (RowIs.cons (hvals 13 73 rfl) (RowIs.cons (at_of_get (hold 74 _ (by kernel_rfl) rfl)) (RowIs.cons (at_of_get (hold 75 _ (by kernel_rfl) rfl)) (RowIs.cons (at_of_get (hold 76 _ (by kernel_rfl) rfl)) (RowIs.cons (at_of_get (hold 77 _ (by kernel_rfl) rfl)) (RowIs.cons (at_of_get (hold 78 _ (by kernel_rfl) rfl)) (RowIs.cons (at_of_get (hold 79 _ (by kernel_rfl) rfl)) (RowIs.cons (at_of_get (hold 80 _ (by kernel_rfl) rfl)) (RowIs.cons (at_of_get (hold 81 _ (by kernel_rfl) rfl)) (RowIs.cons (at_of_get (hold 82 _ (by kernel_rfl) rfl)) (RowIs.cons (at_of_get (hold 83 _ (by kernel_rfl) rfl)) (RowIs.cons (at_of_get (hold 84 _ (by kernel_rfl) rfl)) (RowIs.cons (at_of_get (hold 85 _ (by kernel_rfl) rfl)) (RowIs.cons (at_of_get (hold 86 _ (by kernel_rfl) rfl)) (RowIs.cons (at_of_get (hold 87 _ (by kernel_rfl) rfl)) (RowIs.cons (at_of_get (hold 88 _ (by kernel_rfl) rfl)) (RowIs.cons (at_of_get (hold 89 _ (by kernel_rfl) rfl)) (RowIs.cons (at_of_get (hold 90 _ (by kernel_rfl) rfl)) (RowIs.cons (at_of_get (hold 91 _ (by kernel_rfl) rfl)) (RowIs.cons (at_of_get (hold 92 _ (by kernel_rfl) rfl)) (RowIs.cons (at_of_get (hold 93 _ (by kernel_rfl) rfl)) (RowIs.cons (at_of_get (hold 94 _ (by kernel_rfl) rfl)) (RowIs.cons (at_of_get (hold 95 _ (by kernel_rfl) rfl)) (RowIs.cons (at_of_get (hold 96 _ (by kernel_rfl) rfl)) (RowIs.cons (at_of_get (hold 97 _ (by kernel_rfl) rfl)) (RowIs.cons (at_of_get (hold 98 _ (by kernel_rfl) rfl)) (RowIs.cons (at_of_get (hold 99 _ (by kernel_rfl) rfl)) (RowIs.cons (at_of_get (hold 100 _ (by kernel_rfl) rfl)) (RowIs.cons (at_of_get (hold 101 _ (by kernel_rfl) rfl)) (RowIs.cons (at_of_get (hold 102 _ (by kernel_rfl) rfl)) (RowIs.cons (at_of_get (hold 103 _ (by kernel_rfl) rfl)) (RowIs.cons (at_of_get (hold 104 _ (by kernel_rfl) rfl)) (RowIs.cons (at_of_get (hold 105 _ (by kernel_rfl) rfl)) (RowIs.cons (at_of_get (hold 106 _ (by kernel_rfl) rfl)) (RowIs.cons (at_of_get (hold 107 _ (by kernel_rfl) rfl)) (RowIs.cons (at_of_get (hold 108 _ (by kernel_rfl) rfl)) (RowIs.cons (at_of_get (hold 109 _ (by kernel_rfl) rfl)) (RowIs.cons (at_of_get (hold 110 _ (by kernel_rfl) rfl)) (RowIs.cons (at_of_get (hold 111 _ (by kernel_rfl) rfl)) (RowIs.cons (at_of_get (hold 112 _ (by kernel_rfl) rfl)) (RowIs.cons (at_of_get (hold 113 _ (by kernel_rfl) rfl)) (RowIs.cons (at_of_get (hold 114 _ (by kernel_rfl) rfl)) (RowIs.cons (at_of_get (hold 115 _ (by kernel_rfl) rfl)) (RowIs.cons (at_of_get (hold 116 _ (by kernel_rfl) rfl)) (RowIs.cons (at_of_get (hold 117 _ (by kernel_rfl) rfl)) (RowIs.cons (at_of_get (hold 118 _ (by kernel_rfl) rfl)) (RowIs.cons (at_of_get (hold 119 _ (by kernel_rfl) rfl)) (RowIs.cons (at_of_get (hold 120 _ (by kernel_rfl) rfl)) (RowIs.cons (at_of_get (hold 121 _ (by kernel_rfl) rfl)) (RowIs.cons (at_of_get (hold 122 _ (by kernel_rfl) rfl)) (RowIs.cons (at_of_get (hold 123 _ (by kernel_rfl) rfl)) (RowIs.cons (at_of_get (hold 124 _ (by kernel_rfl) rfl)) (RowIs.cons (at_of_get (hold 125 _ (by kernel_rfl) rfl)) (RowIs.cons (at_of_get (hold 126 _ (by kernel_rfl) rfl)) (RowIs.cons (at_of_get (hold 127 _ (by kernel_rfl) rfl)) (RowIs.cons (at_of_get (hold 128 _ (by kernel_rfl) rfl)) (RowIs.cons (at_of_get (hold 129 _ (by kernel_rfl) rfl)) (RowIs.cons (at_of_get (hold 130 _ (by kernel_rfl) rfl)) (RowIs.cons (at_of_get (hold 131 _ (by kernel_rfl) rfl)) (RowIs.cons (at_of_get (hold 132 _ (by kernel_rfl) rfl)) (RowIs.cons (at_of_get (hold 133 _ (by kernel_rfl) rfl)) (RowIs.cons (at_of_get (hold 134 _ (by kernel_rfl) rfl)) (RowIs.cons (at_of_get (hold 135 _ (by kernel_rfl) rfl)) (RowIs.cons (at_of_get (hold 136 _ (by kernel_rfl) rfl)) (RowIs.cons (at_of_get (hold 137 _ (by kernel_rfl) rfl)) (RowIs.cons (at_of_get (hold 138 _ (by kernel_rfl) rfl)) (RowIs.cons (at_of_get (hold 139 _ (by kernel_rfl) rfl)) (RowIs.cons (at_of_get (hold 140 _ (by kernel_rfl) rfl)) (RowIs.cons (at_of_get (hold 141 _ (by kernel_rfl) rfl)) (RowIs.cons (at_of_get (hold 142 _ (by kernel_rfl) rfl)) (RowIs.cons (at_of_get (hold 143 _ (by kernel_rfl) rfl)) (RowIs.cons (at_of_get (hold 144 _ (by kernel_rfl) rfl)) (RowIs.cons (at_of_get (hold 145 _ (by kernel_rfl) rfl)) (RowIs.cons (at_of_get (hold 146 _ (by kernel_rfl) rfl)) (RowIs.cons (at_of_get (hold 147 _ (by kernel_rfl) rfl)) (RowIs.nil _ _))))))))))))))))))))))))))))))))))))))))))))))))))))))))))))))))))))))))))))))))))))))))))))))))))))))))))))))))))))))))))))))))))))))))))))))))))))) rfl
    clear hsz hdf hold hvals
    subst ha
    try simp only [List.getElem_toArray, List.getElem_cons_succ, List.getElem_cons_zero]
    obtain ⟨W7, rfl⟩ : ∃ W7, W7 = w' := ⟨_, rfl⟩
    have v7 := v6.trans_nil hS
    have o87 := o86.upd_nil hS
    have o97 := o9.upd_nil hS
    clear hRc hS v6 o86 o9 hb32 hb16
    have hc0 := copy_walk W7 q8 S d8 o87.at_ (by rw [HSl.out]; omega)
    rw [HSl.out] at hc0
    have hc1 := fun (W : World) (u : Upd [] W7 W) => copy_walk W q9 C d9 (o97.at_.upd_nil u) (by rw [HCl.out]; omega)
    rw [HCl.out] at hc1
    go_upto_region 12 with (first
      | (have tok := u8; go_at_call_of 10 (Value.slice q9 n16 d9); refine (hc1 W8 u8).mono ?_; rintro e W9 ⟨p15, c15, rfl, o15, u9⟩)
      | (go_at_call_of 10 (Value.slice q8 n32 d8); refine hc0.mono ?_; rintro e W8 ⟨p14, c14, rfl, o14, u8⟩))
    have o149 := o14.upd_nil u9
    have v9 := (v7.trans_nil u8).trans_nil u9
    have o89 := (o87.upd_nil u8).upd_nil u9
    have l14 := own_cap o14
    have l15 := own_cap o15
    have hw4 : W4.heap.size ≤ W7.heap.size := v7.size
    have hw7 : W7.heap.size ≤ W8.heap.size := u8.size
    obtain ⟨g0, rfl, hgb0, hg08, -, -, -, -⟩ := o14.spot i0 (by rw [HSl.out]; exact j1)
    obtain ⟨g, hg, -, -, -, z0, f0, hset0⟩ := o149.spot i0 (by rw [HSl.out]; exact j1)
    cases hg
    obtain ⟨g1, rfl, hgb1, hg19, -, -, -, -⟩ := o15.spot i1 (by rw [HCl.out]; exact j3)
    have hg01 : g0 ≠ g1 := by omega
    have hg10 : g1 ≠ g0 := by omega
    generalize hy0 : S.getD i0 0 = y0 at hsd z0
    generalize hy1 : C.getD i1 0 = y1 at hop
    have o14a := hset0 ((y0 + bv) % 256)
    have o15a := own_setne o15 ⟨g0, i0, none⟩ (.int .u8 ((y0 + bv) % 256)) (by simpa [Value.ownBlock] using hg10)
    have o8a := own_setne o89 ⟨g0, i0, none⟩ (.int .u8 ((y0 + bv) % 256)) (fun e => by have := (o87.lt g0 e).2; omega)
    have v10 := v9.setCell (p := ⟨g0, i0, none⟩) (Or.inr (by show W4.heap.size ≤ g0; omega)) (.int .u8 ((y0 + bv) % 256))
    obtain ⟨g, hg, -, -, -, z1, f1, hset1⟩ := o15a.spot i1 (by rw [HCl.out]; exact j3)
    cases hg
    rw [hy1] at z1
    have o15b := hset1 ((y1 + bv) % 256)
    have o14b := own_setne o14a ⟨g1, i1, none⟩ (.int .u8 ((y1 + bv) % 256)) (by simpa [Value.ownBlock] using hg01)
    have o8b := own_setne o8a ⟨g1, i1, none⟩ (.int .u8 ((y1 + bv) % 256)) (fun e => by have := (o87.lt g1 e).2; omega)
    have v11 := v10.setCell (p := ⟨g1, i1, none⟩) (Or.inr (by show W4.heap.size ≤ g1; omega)) (.int .u8 ((y1 + bv) % 256))
    have a14 := o14b.at_
    have a15 := o15b.at_
    have a8 := o8b.at_
    clear hset0 hset1 o14 o149 o15 o14a o15a o8a o89 o87 o97 o14b o15b o8b v10 v9 u8 u9 hy0 hy1 hc0 hc1 v7
    have A14 := Lib.hid a14
    have A15 := Lib.hid a15
    have A8 := Lib.hid a8
    have V11 := Lib.hid v11
    clear a14 a15 a8 v11
    go_upto_region 13 with fail
    generalize W9.setCell ⟨g0, i0, none⟩ (.int .u8 ((y0 + bv) % 256)) = V1 at *
    clear z0 f0
    go_upto_region 14 with fail
    generalize V1.setCell ⟨g1, i1, none⟩ (.int .u8 ((y1 + bv) % 256)) = V2 at *
    clear z1 f1
    have v11 := V11.out
    go_upto_region 15 with (first
      | (go_at_call 24; refine (hsd V2 _ _ A14.out l14).mono ?_; rintro e W10 ⟨vt, rfl, u10⟩)
      | (refine wpList_load_row rfl _ _ rfl D rfl _ (row32 G).toArray _ _ (hKr V2 v11) Try.underlying23 rfl (infoK G) ?_))
    have v12 := v11.trans_nil u10
    obtain ⟨n0, n1, n2⟩ := hNc W10 v12
    go_upto_region 16 with (first
      | (go_at_call 14; refine (hop W10 _ _ (A15.out.upd_nil u10) l15).mono ?_; rintro e W11 ⟨vy, rfl, u11⟩)
      | (have tok := n0; refine wpList_load_row rfl _ _ rfl D rfl _ (row32 G).toArray _ _ (hKr W10 v12) Try.underlying23 rfl (infoK G) ?_))
    have v13 := v12.trans_nil u11
    have hKr9 := fun (W : World) (u : Upd [] W11 W) => hKr W (v13.trans_nil u)
    have hsh := fun (W : World) (u : Upd [] W11 W) => hsh0 W q8 d8 (((A8.out.upd_nil u10).upd_nil u11).upd_nil u) l8
    clear n0 n1 n2 hsd hop hsh0 hKr hNc u10 u11 v11 v12
    refine wp_region_spec [(.eq (.agg (row32 G).toArray)), (.eq (.slice q8 n32 d8)), (.eq (.slice q8 31 d8)), (.eq (.tuple #[.slice none 0 0, .int .i64 3])), (.eq (.tuple #[.slice none 0 0, .int .i64 3])), (.eq (.slice none 0 0)), (.eq (.int .i64 3)), (.eq (.slice none 0 0)), (.eq (.int .i64 3))] (by kernel_rfl) (by kernel_rfl) rfl ?step ?fin
    case step =>
      intro i o ho a w' hS hold hneed K' hK
      match i, ho with
      | 0, ho =>
        obtain rfl := Option.some.inj ho
        have d3 := hold 3 _ (by kernel_rfl) rfl
        clear hold hneed ho
        (rw [if_pos (by simp [Region.wanted, yielded, *])]; exact wp_load_row 23 (.tmp 3) rfl D (by simp [Act.eval, *]) 23 _ (0, 0) _ (hKr9 _ hS) Try.underlying23 rfl (infoK _) (hK _ _ rfl (Upd.refl [] _)))
      | 1, ho =>
        obtain rfl := Option.some.inj ho
        have d8 := hold 8 _ (by kernel_rfl) rfl
        clear hold hneed ho
        (go_simp; exact hK _ _ rfl (Upd.refl [] _))
      | 2, ho =>
        obtain rfl := Option.some.inj ho
        have d111 := get_of_at (hneed 1 (of_decide_eq_true (by kernel_rfl)) 111 rfl) (by simp [undef])
        clear hold hneed ho
        (go_simp; exact hK _ _ rfl (Upd.refl [] _))
      | 3, ho =>
        obtain rfl := Option.some.inj ho
        have d110 := get_of_at (hneed 0 (of_decide_eq_true (by kernel_rfl)) 110 rfl) (by simp [undef])
        have d112 := get_of_at (hneed 2 (of_decide_eq_true (by kernel_rfl)) 112 rfl) (by simp [undef])
        clear hold hneed ho
        (go_simp; refine (hsh _ hS).mono ?_; rintro e w3 ⟨rfl, hu3⟩; exact hK _ _ rfl hu3)
      | 4, ho =>
        obtain rfl := Option.some.inj ho
        have d113 := get_of_at (hneed 3 (of_decide_eq_true (by kernel_rfl)) 113 rfl) (by simp [undef])
        clear hold hneed ho
        (go_simp; exact hK _ _ rfl (Upd.refl [] _))
      | 5, ho =>
        obtain rfl := Option.some.inj ho
        have d109 := get_of_at (hneed 4 (of_decide_eq_true (by kernel_rfl)) 109 rfl) (by simp [undef])
        clear hold hneed ho
        (go_simp; exact hK _ _ rfl (Upd.refl [] _))
      | 6, ho =>
        obtain rfl := Option.some.inj ho
        have d109 := get_of_at (hneed 4 (of_decide_eq_true (by kernel_rfl)) 109 rfl) (by simp [undef])
        clear hold hneed ho
        (go_simp; exact hK _ _ rfl (Upd.refl [] _))
      | 7, ho =>
        obtain rfl := Option.some.inj ho
        have d114 := get_of_at (hneed 5 (of_decide_eq_true (by kernel_rfl)) 114 rfl) (by simp [undef])
        clear hold hneed ho
        (go_simp; exact hK _ _ rfl (Upd.refl [] _))
      | 8, ho =>
        obtain rfl := Option.some.inj ho
        have d115 := get_of_at (hneed 6 (of_decide_eq_true (by kernel_rfl)) 115 rfl) (by simp [undef])
        clear hold hneed ho
        (go_simp; exact hK _ _ rfl (Upd.refl [] _))
      | _ + 9, ho => exact absurd ho (by simp)
    case fin =>
      intro a w' hS hsz hdf hold hvals
      have ha := act_lit hsz hdf (RowIs.cons (at_of_get (hold 0 _ (by kernel_rfl) rfl)) (RowIs.cons (at_of_get (hold 1 _ (by kernel_rfl) rfl)) (RowIs.cons (at_of_get (hold 2 _ (by kernel_rfl) rfl)) (RowIs.cons (at_of_get (hold 3 _ (by kernel_rfl) rfl)) (RowIs.cons (at_of_get (hold 4 _ (by kernel_rfl) rfl)) (RowIs.cons (at_of_get (hold 5 _ (by kernel_rfl) rfl)) (RowIs.cons (at_of_get (hold 6 _ (by kernel_rfl) rfl)) (RowIs.cons (at_of_get (hold 7 _ (by kernel_rfl) rfl)) (RowIs.cons (at_of_get (hold 8 _ (by kernel_rfl) rfl)) (RowIs.cons (at_of_get (hold 9 _ (by kernel_rfl) rfl)) (RowIs.cons (at_of_get (hold 10 _ (by kernel_rfl) rfl)) (RowIs.cons (at_of_get (hold 11 _ (by kernel_rfl) rfl)) (RowIs.cons (at_of_get (hold 12 _ (by kernel_rfl) rfl)) (RowIs.cons (at_of_get (hold 13 _ (by kernel_rfl) rfl)) (RowIs.cons (at_of_get (hold 14 _ (by kernel_rfl) rfl)) (RowIs.cons (at_of_get (hold 15 _ (by kernel_rfl) rfl)) (RowIs.cons (at_of_get (hold 16 _ (by kernel_rfl) rfl)) (RowIs.cons (at_of_get (hold 17 _ (by kernel_rfl) rfl)) (RowIs.cons (at_of_get (hold 18 _ (by kernel_rfl) rfl)) (RowIs.cons (at_of_get (hold 19 _ (by kernel_rfl) rfl)) (RowIs.cons (hvals 7 20 rfl) (RowIs.cons (hvals 8 21 rfl) (RowIs.cons (at_of_get (hold 22 _ (by kernel_rfl) rfl)) (RowIs.cons (at_of_get (hold 23 _ (by kernel_rfl) rfl)) (RowIs.cons (at_of_get (hold 24 _ (by kernel_rfl) rfl)) (RowIs.cons (at_of_get (hold 25 _ (by kernel_rfl) rfl)) (RowIs.cons (at_of_get (hold 26 _ (by kernel_rfl) rfl)) (RowIs.cons (at_of_get (hold 27 _ (by kernel_rfl) rfl)) (RowIs.cons (at_of_get (hold 28 _ (by kernel_rfl) rfl)) (RowIs.cons (at_of_get (hold 29 _ (by kernel_rfl) rfl)) (RowIs.cons (at_of_get (hold 30 _ (by kernel_rfl) rfl)) (RowIs.cons (at_of_get (hold 31 _ (by kernel_rfl) rfl)) (RowIs.cons (at_of_get (hold 32 _ (by kernel_rfl) rfl)) (RowIs.cons (at_of_get (hold 33 _ (by kernel_rfl) rfl)) (RowIs.cons (at_of_get (hold 34 _ (by kernel_rfl) rfl)) (RowIs.cons (at_of_get (hold 35 _ (by kernel_rfl) rfl)) (RowIs.cons (at_of_get (hold 36 _ (by kernel_rfl) rfl)) (RowIs.cons (at_of_get (hold 37 _ (by kernel_rfl) rfl)) (RowIs.cons (at_of_get (hold 38 _ (by kernel_rfl) rfl)) (RowIs.cons (at_of_get (hold 39 _ (by kernel_rfl) rfl)) (RowIs.cons (at_of_get (hold 40 _ (by kernel_rfl) rfl)) (RowIs.cons (at_of_get (hold 41 _ (by kernel_rfl) rfl)) (RowIs.cons (at_of_get (hold 42 _ (by kernel_rfl) rfl)) (RowIs.cons (at_of_get (hold 43 _ (by kernel_rfl) rfl)) (RowIs.cons (at_of_get (hold 44 _ (by kernel_rfl) rfl)) (RowIs.cons (at_of_get (hold 45 _ (by kernel_rfl) rfl)) (RowIs.cons (at_of_get (hold 46 _ (by kernel_rfl) rfl)) (RowIs.cons (at_of_get (hold 47 _ (by kernel_rfl) rfl)) (RowIs.cons (at_of_get (hold 48 _ (by kernel_rfl) rfl)) (RowIs.cons (at_of_get (hold 49 _ (by kernel_rfl) rfl)) (RowIs.cons (at_of_get (hold 50 _ (by kernel_rfl) rfl)) (RowIs.cons (at_of_get (hold 51 _ (by kernel_rfl) rfl)) (RowIs.cons (at_of_get (hold 52 _ (by kernel_rfl) rfl)) (RowIs.cons (at_of_get (hold 53 _ (by kernel_rfl) rfl)) (RowIs.cons (at_of_get (hold 54 _ (by kernel_rfl) rfl)) (RowIs.cons (at_of_get (hold 55 _ (by kernel_rfl) rfl)) (RowIs.cons (at_of_get (hold 56 _ (by kernel_rfl) rfl)) (RowIs.cons (at_of_get (hold 57 _ (by kernel_rfl) rfl)) (RowIs.cons (at_of_get (hold 58 _ (by kernel_rfl) rfl)) (RowIs.cons (at_of_get (hold 59 _ (by kernel_rfl) rfl)) (RowIs.cons (at_of_get (hold 60 _ (by kernel_rfl) rfl)) (RowIs.cons (at_of_get (hold 61 _ (by kernel_rfl) rfl)) (RowIs.cons (at_of_get (hold 62 _ (by kernel_rfl) rfl)) (RowIs.cons (at_of_get (hold 63 _ (by kernel_rfl) rfl)) (RowIs.cons (at_of_get (hold 64 _ (by kernel_rfl) rfl)) (RowIs.cons (at_of_get (hold 65 _ (by kernel_rfl) rfl)) (RowIs.cons (at_of_get (hold 66 _ (by kernel_rfl) rfl)) (RowIs.cons (at_of_get (hold 67 _ (by kernel_rfl) rfl)) (RowIs.cons (at_of_get (hold 68 _ (by kernel_rfl) rfl)) (RowIs.cons (at_of_get (hold 69 _ (by kernel_rfl) rfl)) (RowIs.cons (at_of_get (hold 70 _ (by kernel_rfl) rfl)) (RowIs.cons (at_of_get (hold 71 _ (by kernel_rfl) rfl)) (RowIs.cons (at_of_get (hold 72 _ (by kernel_rfl) rfl)) (RowIs.cons (at_of_get (hold 73 _ (by kernel_rfl) rfl)) (RowIs.cons (at_of_get (hold 74 _ (by kernel_rfl) rfl)) (RowIs.cons (at_of_get (hold 75 _ (by kernel_rfl) rfl)) (RowIs.cons (at_of_get (hold 76 _ (by kernel_rfl) rfl)) (RowIs.cons (at_of_get (hold 77 _ (by kernel_rfl) rfl)) (RowIs.cons (at_of_get (hold 78 _ (by kernel_rfl) rfl)) (RowIs.cons (at_of_get (hold 79 _ (by kernel_rfl) rfl)) (RowIs.cons (at_of_get (hold 80 _ (by kernel_rfl) rfl)) (RowIs.cons (at_of_get (hold 81 _ (by kernel_rfl) rfl)) (RowIs.cons (at_of_get (hold 82 _ (by kernel_rfl) rfl)) (RowIs.cons (at_of_get (hold 83 _ (by kernel_rfl) rfl)) (RowIs.cons (at_of_get (hold 84 _ (by kernel_rfl) rfl)) (RowIs.cons (at_of_get (hold 85 _ (by kernel_rfl) rfl)) (RowIs.cons (at_of_get (hold 86 _ (by kernel_rfl) rfl)) (RowIs.cons (at_of_get (hold 87 _ (by kernel_rfl) rfl)) (RowIs.cons (at_of_get (hold 88 _ (by kernel_rfl) rfl)) (RowIs.cons (at_of_get (hold 89 _ (by kernel_rfl) rfl)) (RowIs.cons (at_of_get (hold 90 _ (by kernel_rfl) rfl)) (RowIs.cons (at_of_get (hold 91 _ (by kernel_rfl) rfl)) (RowIs.cons (at_of_get (hold 92 _ (by kernel_rfl) rfl)) (RowIs.cons (at_of_get (hold 93 _ (by kernel_rfl) rfl)) (RowIs.cons (at_of_get (hold 94 _ (by kernel_rfl) rfl)) (RowIs.cons (at_of_get (hold 95 _ (by kernel_rfl) rfl)) (RowIs.cons (at_of_get (hold 96 _ (by kernel_rfl) rfl)) (RowIs.cons (at_of_get (hold 97 _ (by kernel_rfl) rfl)) (RowIs.cons (at_of_get (hold 98 _ (by kernel_rfl) rfl)) (RowIs.cons (at_of_get (hold 99 _ (by kernel_rfl) rfl)) (RowIs.cons (at_of_get (hold 100 _ (by kernel_rfl) rfl)) (RowIs.cons (at_of_get (hold 101 _ (by kernel_rfl) rfl)) (RowIs.cons (at_of_get (hold 102 _ (by kernel_rfl) rfl)) (RowIs.cons (at_of_get (hold 103 _ (by kernel_rfl) rfl)) (RowIs.cons (at_of_get (hold 104 _ (by kernel_rfl) rfl)) (RowIs.cons (at_of_get (hold 105 _ (by kernel_rfl) rfl)) (RowIs.cons (at_of_get (hold 106 _ (by kernel_rfl) rfl)) (RowIs.cons (at_of_get (hold 107 _ (by kernel_rfl) rfl)) (RowIs.cons (at_of_get (hold 108 _ (by kernel_rfl) rfl)) (RowIs.cons (hvals 4 109 rfl) (RowIs.cons (hvals 0 110 rfl) (RowIs.cons (hvals 1 111 rfl) (RowIs.cons (hvals 2 112 rfl) (RowIs.cons (hvals 3 113 rfl) (RowIs.cons (hvals 5 114 rfl) (RowIs.cons (hvals 6 115 rfl) (RowIs.cons (at_of_get (hold 116 _ (by kernel_rfl) rfl)) (RowIs.cons (at_of_get (hold 117 _ (by kernel_rfl) rfl)) (RowIs.cons (at_of_get (hold 118 _ (by kernel_rfl) rfl)) (RowIs.cons (at_of_get (hold 119 _ (by kernel_rfl) rfl)) (RowIs.cons (at_of_get (hold 120 _ (by kernel_rfl) rfl)) (RowIs.cons (at_of_get (hold 121 _ (by kernel_rfl) rfl)) (RowIs.cons (at_of_get (hold 122 _ (by kernel_rfl) rfl)) (RowIs.cons (at_of_get (hold 123 _ (by kernel_rfl) rfl)) (RowIs.cons (at_of_get (hold 124 _ (by kernel_rfl) rfl)) (RowIs.cons (at_of_get (hold 125 _ (by kernel_rfl) rfl)) (RowIs.cons (at_of_get (hold 126 _ (by kernel_rfl) rfl)) (RowIs.cons (at_of_get (hold 127 _ (by kernel_rfl) rfl)) (RowIs.cons (at_of_get (hold 128 _ (by kernel_rfl) rfl)) (RowIs.cons (at_of_get (hold 129 _ (by kernel_rfl) rfl)) (RowIs.cons (at_of_get (hold 130 _ (by kernel_rfl) rfl)) (RowIs.cons (at_of_get (hold 131 _ (by kernel_rfl) rfl)) (RowIs.cons (at_of_get (hold 132 _ (by kernel_rfl) rfl)) (RowIs.cons (at_of_get (hold 133 _ (by kernel_rfl) rfl)) (RowIs.cons (at_of_get (hold 134 _ (by kernel_rfl) rfl)) (RowIs.cons (at_of_get (hold 135 _ (by kernel_rfl) rfl)) (RowIs.cons (at_of_get (hold 136 _ (by kernel_rfl) rfl)) (RowIs.cons (at_of_get (hold 137 _ (by kernel_rfl) rfl)) (RowIs.cons (at_of_get (hold 138 _ (by kernel_rfl) rfl)) (RowIs.cons (at_of_get (hold 139 _ (by kernel_rfl) rfl)) (RowIs.cons (at_of_get (hold 140 _ (by kernel_rfl) rfl)) (RowIs.cons (at_of_get (hold 141 _ (by kernel_rfl) rfl)) (RowIs.cons (at_of_get (hold 142 _ (by kernel_rfl) rfl)) (RowIs.cons (at_of_get (hold 143 _ (by kernel_rfl) rfl)) (RowIs.cons (at_of_get (hold 144 _ (by kernel_rfl) rfl)) (RowIs.cons (at_of_get (hold 145 _ (by kernel_rfl) rfl)) (RowIs.cons (at_of_get (hold 146 _ (by kernel_rfl) rfl)) (RowIs.cons (at_of_get (hold 147 _ (by kernel_rfl) rfl)) (RowIs.nil _ _))))))))))))))))))))))))))))))))))))))))))))))))))))))))))))))))))))))))))))))))))))))))))))))))))))))))))))))))))))))))))))))))))))))))))))))))))))) rfl
      clear hsz hdf hold hvals
      subst ha
      try simp only [List.getElem_toArray, List.getElem_cons_succ, List.getElem_cons_zero]
      have t9 := t4.trans_nil (v13.trans_nil hS)
      clear hS hKr9 hsh v13 t4
      by_cases hb0 : bv = 0
      · have hfc := hf0 hb0
        subst hfc
        subst hb0
        clear hf0 hf1
        go_wp2_with fail
        go_ret
        exact ⟨rfl, t9⟩
      · have hfc := hf1 hb0
        subst hfc
        clear hf0 hf1
        have hbb : (bv == 0) = false := by simpa using hb0
        go_wp2_with fail
        go_ret
        first
          | exact ⟨rfl, t9⟩
          | (refine ⟨?_, t9⟩
             show Ending.returned (Value.bool (!(bv == 0))) = _
             rw [hbb]
             rfl)

end Go.Proofs.Ytppbaahaegmgeaa
