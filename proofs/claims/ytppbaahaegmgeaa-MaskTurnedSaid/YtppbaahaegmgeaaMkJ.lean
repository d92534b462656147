/- mask: Open. -/
import Derived.Test.YtppbaahaegmgeaaMkI
namespace Go.Proofs.Ytppbaahaegmgeaa
open Go.RowKit

theorem own_of' {w : World} {base n : Nat} {v : Value} {xs : List Int} (hn : xs.length = n) (h : w.ownsRow base 5 1 v n (u8s xs)) : OwnB w base v xs := by
  subst hn; exact h
theorem own_to' {w : World} {base n : Nat} {v : Value} {xs : List Int} (hn : xs.length = n) (h : OwnB w base v xs) : w.ownsRow base 5 1 v n (u8s xs) := by
  subst hn; exact h

set_option maxRecDepth 100000 in
set_option maxHeartbeats 8000000 in
theorem open_ok (w : World) (G : Nat → Int) (hG : RngF G) (a s r : Int) (hns : NonceOk [a, s, r]) (p : Option Addr) (xs : List Int) (c : Nat) (hx : ByAt w p xs) (hr : Rng xs) (hc : xs.length ≤ c) (m : Nat) (hlm : xs.length = m + 16) (hml : m ≤ 65536) :
    Calls Try.prog 14 #[.agg (row32 G).toArray, .agg #[.int .i64 a, .int .i64 s, .int .i64 r], .slice p xs.length c] w fun e w' =>
      (tagL G (rowsI [a, s, r]) (xs.take m) ≠ xs.drop m → e = .returned (.tuple #[.slice none 0 0, .int .i64 150])) ∧
      (tagL G (rowsI [a, s, r]) (xs.take m) = xs.drop m → ∃ p' c', e = .returned (.tuple #[.slice p' m c', .int .i64 0]) ∧ OwnB w' w.heap.size (.slice p' m c') (outL G (rowsI [a, s, r]) (xs.take m))) ∧ Upd [] w w' := by
  obtain ⟨n, hn⟩ : ∃ n, xs.length = n := ⟨_, rfl⟩
  obtain ⟨X, hX⟩ : ∃ X, rowsI [a, s, r] = X := ⟨_, rfl⟩
  have hXr : Rng X := by rw [← hX]; exact rowsI_rng _
  have hX0 : 0 < X.length := by rw [← hX]; exact rowsI_pos hns
  have hXl : X.length ≤ 24 := by rw [← hX]; exact rowsI_len hns
  obtain ⟨mX, hm⟩ : ∃ m, X.length = m := ⟨_, rfl⟩
  have hrow := fun W => nrow_ok W a s r hns X mX hX hm
  rw [hn] at hc hlm ⊢
  rw [hm] at hX0 hXl
  rw [hX]
  have Hn := Lib.hid hn
  have Hm := Lib.hid hm
  have Hlm := Lib.hid hlm
  have g0 : (n : Int) - 16 = m := by omega
  have g1 : (0 : Int) ≤ m := by omega
  have g2 : (m : Int) ≤ 65536 := by omega
  have g3 : (m : Int) ≤ n := by omega
  have g4 : (m : Int) ≤ c := by omega
  have g5 : (n : Int) ≤ 65552 := by omega
  have g6 : m ≤ c := by omega
  have hz : ∀ w : World, (zeroValue 22).run Try.prog w = .ok (.agg (row32 fun _ => 0).toArray) w := fun w => by kernel_rfl
  clear hX hlm
  obtain ⟨W1, D, hW1, hd, u1, hD, n0, n1, n2⟩ := boxes2 w G a s r
  go_enter Try.func14, Try.ntmps14
  go_upto_region 1 with fail
  go_upto_region 9 with (go_at_call 32; refine (hrow W1).mono ?_; rintro e W2 ⟨q, d, rfl, hq, hqd, u2⟩)
  have HD := Lib.hid hd
  have hlm := Hlm.out
  clear hW1 hd hrow n0 n1 n2
  have t2 := u1.trans_nil u2
  have hDr : ∀ W, Upd [] W2 W → W.heap[D]? = some (.cells (row32 G).toArray 23 (0, 0)) := fun W u => by
    have := hD.upd_nil (u2.trans_nil u)
    unfold Blk at this
    exact this
  have hyl : (xs.take m).length = m := by rw [List.length_take]; omega
  have hdl : (xs.drop m).length = 16 := by rw [List.length_drop]; omega
  obtain ⟨F, hF⟩ : ∃ F, mac (keyL G) (5 :: (X ++ xs.take m)) = F := ⟨_, rfl⟩
  have HF := Lib.hid hF
  have hTag : Hid (tagL G X (xs.take m) = (keyL F).take 16) := Lib.hid (by unfold tagL macL; rw [hF])
  have hof : ∀ W g, Upd [] W2 W → Blk W g [.slice q mX d, .slice p m c] 26 → Calls Try.prog 34 #[.agg (row32 G).toArray, .int .u8 5, .slice (some ⟨g, 0, none⟩) 2 2] W fun e w' => e = .returned (.agg (row32 F).toArray) ∧ Upd [] W w' := fun W g u hg => by
    have hrw := row2 hg Hm.out.symm hyl.symm (hq.upd_nil u) hXr (by rw [Hm.out]; exact hqd) ((hx.take m).upd_nil (t2.trans_nil u)) (hr.take m) (by omega)
    have := of_mac _ G hG 5 (by omega) (some ⟨g, 0, none⟩) [X, xs.take m] 2 hrw (by simp) (by simp) (by have := Hm.out; simp; omega)
    rw [show [X, xs.take m].flatten = X ++ xs.take m by simp, HF.out] at this
    simp only [List.length_cons, List.length_nil, Nat.zero_add, Nat.reduceAdd] at this
    exact this
  clear hF hD g0 hlm u1 u2
  refine wp_region_head3 8 [(.s (.eq (.agg (row32 G).toArray))), (.s (.eq (.slice q mX d))), (.s (.eq (.slice p n c))), (.s (.eq (.int .i64 (m : Int)))), (.s (.eq (.slice p m c))), (.s (.sl 2 2 [.slice q mX d, .slice p m c] 26)), (.s (.eq (.agg (row32 F).toArray))), (isPtN W2.heap.size (row32 fun _ => 0) 22)] (by kernel_rfl) (by kernel_rfl) (by kernel_rfl) rfl ?step ?fin
  case step =>
    intro i o him ho a w' hS hold hneed K' hK
    match i, him, ho with
    | 0, _, ho =>
      obtain rfl := Option.some.inj ho
      have d3 := hold 3 _ (by kernel_rfl) rfl
      clear hold hneed ho
      (rw [if_pos (by simp [Region.wanted, yielded, *])]; exact wp_load_row 23 (.tmp 3) rfl D (by simp [Act.eval, *]) 23 _ (0, 0) _ (hDr _ hS) Try.underlying23 rfl (infoK _) (hK _ _ rfl (Upd.refl [] _)))
    | 1, _, ho =>
      obtain rfl := Option.some.inj ho
      have d8 := hold 8 _ (by kernel_rfl) rfl
      clear hold hneed ho
      (go_simp; exact hK _ _ rfl (Upd.refl [] _))
    | 2, _, ho =>
      obtain rfl := Option.some.inj ho
      have d2 := hold 2 _ (by kernel_rfl) rfl
      clear hold hneed ho
      (go_simp; exact hK _ _ rfl (Upd.refl [] _))
    | 3, _, ho =>
      obtain rfl := Option.some.inj ho
      have d10 := hold 10 _ (by kernel_rfl) rfl
      clear hold hneed ho
      (go_simp; exact hK _ _ rfl (Upd.refl [] _))
    | 4, _, ho =>
      obtain rfl := Option.some.inj ho
      have d32 := get_of_at (hneed 2 (of_decide_eq_true (by kernel_rfl)) 32 rfl) (by simp [undef])
      have d33 := get_of_at (hneed 3 (of_decide_eq_true (by kernel_rfl)) 33 rfl) (by simp [undef])
      clear hold hneed ho
      (go_simp; exact hK _ _ rfl (Upd.refl [] _))
    | 5, _, ho =>
      obtain rfl := Option.some.inj ho
      have d31 := get_of_at (hneed 1 (of_decide_eq_true (by kernel_rfl)) 31 rfl) (by simp [undef])
      have d34 := get_of_at (hneed 4 (of_decide_eq_true (by kernel_rfl)) 34 rfl) (by simp [undef])
      clear hold hneed ho
      (go_simp; exact hK _ _ ⟨_, rfl, Blk.new _ _ _⟩ ((Upd.refl [] _).alloc _))
    | 6, _, ho =>
      obtain rfl := Option.some.inj ho
      have d30 := get_of_at (hneed 0 (of_decide_eq_true (by kernel_rfl)) 30 rfl) (by simp [undef])
      obtain ⟨b35, e35, hB35⟩ := hneed 5 (of_decide_eq_true (by kernel_rfl)) 35 rfl
      have d35 := get_of_at e35 (by simp [undef])
      clear hold hneed ho
      (go_simp; refine (hof _ _ hS hB35).mono ?_; rintro e w3 ⟨rfl, hu3⟩; exact hK _ _ rfl hu3)
    | 7, _, ho =>
      obtain rfl := Option.some.inj ho
      clear hold hneed ho
      (go_simp; exact hK _ _ ⟨_, rfl, hS.size, Blk.new _ _ _⟩ ((Upd.refl [] _).alloc _))
    | _ + 8, him, _ => exact absurd him (by omega)
  case fin =>
    intro a w' hS hsz hdf hold hvals
    have R11 := hvals 7 11 (of_decide_eq_true (by kernel_rfl)) rfl
    obtain ⟨v11, hv11⟩ : ∃ v, at_ a 11 = v := ⟨_, rfl⟩
    rw [hv11] at R11
    obtain ⟨b35, hv35, hB35⟩ := hvals 5 35 (of_decide_eq_true (by kernel_rfl)) rfl
    have ha := act_lit hsz hdf (RowIs.cons (at_of_get (hold 0 _ (by kernel_rfl) rfl)) (RowIs.cons (at_of_get (hold 1 _ (by kernel_rfl) rfl)) (RowIs.cons (at_of_get (hold 2 _ (by kernel_rfl) rfl)) (RowIs.cons (at_of_get (hold 3 _ (by kernel_rfl) rfl)) (RowIs.cons (at_of_get (hold 4 _ (by kernel_rfl) rfl)) (RowIs.cons (at_of_get (hold 5 _ (by kernel_rfl) rfl)) (RowIs.cons (at_of_get (hold 6 _ (by kernel_rfl) rfl)) (RowIs.cons (at_of_get (hold 7 _ (by kernel_rfl) rfl)) (RowIs.cons (at_of_get (hold 8 _ (by kernel_rfl) rfl)) (RowIs.cons (at_of_get (hold 9 _ (by kernel_rfl) rfl)) (RowIs.cons (at_of_get (hold 10 _ (by kernel_rfl) rfl)) (RowIs.cons hv11 (RowIs.cons (at_of_get (hold 12 _ (by kernel_rfl) rfl)) (RowIs.cons (at_of_get (hold 13 _ (by kernel_rfl) rfl)) (RowIs.cons (at_of_get (hold 14 _ (by kernel_rfl) rfl)) (RowIs.cons (at_of_get (hold 15 _ (by kernel_rfl) rfl)) (RowIs.cons (at_of_get (hold 16 _ (by kernel_rfl) rfl)) (RowIs.cons (at_of_get (hold 17 _ (by kernel_rfl) rfl)) (RowIs.cons (at_of_get (hold 18 _ (by kernel_rfl) rfl)) (RowIs.cons (at_of_get (hold 19 _ (by kernel_rfl) rfl)) (RowIs.cons (at_of_get (hold 20 _ (by kernel_rfl) rfl)) (RowIs.cons (at_of_get (hold 21 _ (by kernel_rfl) rfl)) (RowIs.cons (at_of_get (hold 22 _ (by kernel_rfl) rfl)) (RowIs.cons (at_of_get (hold 23 _ (by kernel_rfl) rfl)) (RowIs.cons (at_of_get (hold 24 _ (by kernel_rfl) rfl)) (RowIs.cons (at_of_get (hold 25 _ (by kernel_rfl) rfl)) (RowIs.cons (at_of_get (hold 26 _ (by kernel_rfl) rfl)) (RowIs.cons (at_of_get (hold 27 _ (by kernel_rfl) rfl)) (RowIs.cons (at_of_get (hold 28 _ (by kernel_rfl) rfl)) (RowIs.cons (at_of_get (hold 29 _ (by kernel_rfl) rfl)) (RowIs.cons (hvals 0 30 (of_decide_eq_true (by kernel_rfl)) rfl) (RowIs.cons (hvals 1 31 (of_decide_eq_true (by kernel_rfl)) rfl) (RowIs.cons (hvals 2 32 (of_decide_eq_true (by kernel_rfl)) rfl) (RowIs.cons (hvals 3 33 (of_decide_eq_true (by kernel_rfl)) rfl) (RowIs.cons (hvals 4 34 (of_decide_eq_true (by kernel_rfl)) rfl) (RowIs.cons hv35 (RowIs.cons (hvals 6 36 (of_decide_eq_true (by kernel_rfl)) rfl) (RowIs.cons (at_of_get (hold 37 _ (by kernel_rfl) rfl)) (RowIs.cons (at_of_get (hold 38 _ (by kernel_rfl) rfl)) (RowIs.cons (at_of_get (hold 39 _ (by kernel_rfl) rfl)) (RowIs.cons (at_of_get (hold 40 _ (by kernel_rfl) rfl)) (RowIs.cons (at_of_get (hold 41 _ (by kernel_rfl) rfl)) (RowIs.cons (at_of_get (hold 42 _ (by kernel_rfl) rfl)) (RowIs.cons (at_of_get (hold 43 _ (by kernel_rfl) rfl)) (RowIs.cons (at_of_get (hold 44 _ (by kernel_rfl) rfl)) (RowIs.cons (at_of_get (hold 45 _ (by kernel_rfl) rfl)) (RowIs.cons (at_of_get (hold 46 _ (by kernel_rfl) rfl)) (RowIs.cons (at_of_get (hold 47 _ (by kernel_rfl) rfl)) (RowIs.cons (at_of_get (hold 48 _ (by kernel_rfl) rfl)) (RowIs.nil _ _)))))))))))))))))))))))))))))))))))))))))))))))))) rfl
    clear hsz hdf hold hvals
    subst ha
    simp only [List.getElem_toArray, List.getElem_cons_succ, List.getElem_cons_zero, List.drop_succ_cons, List.drop_zero]
    obtain ⟨b11, rfl, hb11, hB11⟩ := R11
    have hb11w : w.heap.size ≤ b11 := Nat.le_trans t2.size hb11
    go_upto_region 10 with (refine wpList_store_rowTo rfl _ _ _ rfl rfl _ (row32 F).toArray rfl rfl _ (row32 fun _ => 0).toArray hB11 (info32 _) (size32 _ _) (one32 _) ?_)
    have v5 := (t2.trans_nil hS).setRow (b := b11) (Or.inr hb11w) (row32 F).toArray
    have hq5 : ByAt (w'.setRow b11 (row32 F).toArray) q X := by
      have s1 := (Upd.refl [b11] w').setRow (b := b11) (Or.inl (by simp)) (row32 F).toArray
      exact (hq.upd_nil hS).upd s1 (fun b o e => by
        subst e
        have := hq.lt (by have := Hm.out; omega)
        simp; omega)
    have hDr5 : (w'.setRow b11 (row32 F).toArray).heap[D]? = some (.cells (row32 G).toArray 23 (0, 0)) := by
      have s1 := (Upd.refl [b11] w').setRow (b := b11) (Or.inl (by simp)) (row32 F).toArray
      have h0 : Blk w' D (row32 G) 23 := hDr w' hS
      have h1 : D < W2.heap.size := (show Blk W2 D (row32 G) 23 from hDr W2 (Upd.refl [] _)).lt
      have := h0.upd s1 (by simp; omega)
      exact this
    have hR5 := hB11.setRow (row32 F).toArray
    clear hB11 hDr hof hS hz hq hb11
    generalize w'.setRow b11 (row32 F).toArray = W5 at *
    have hDr : ∀ W, Upd [] W5 W → W.heap[D]? = some (.cells (row32 G).toArray 23 (0, 0)) := fun W u => by
      have := Blk.upd_nil (show Blk W5 D (row32 G) 23 from hDr5) u
      exact this
    obtain ⟨q2, hq2⟩ : ∃ q2, (if c = m then p else p.map (·.add m)) = q2 := ⟨_, rfl⟩
    obtain ⟨c2, hc2⟩ : ∃ c2, c - m = c2 := ⟨_, rfl⟩
    have h16 : n - m = 16 := by have := Hlm.out; omega
    obtain ⟨t, ht⟩ : ∃ t, decide ((keyL F).take 16 = xs.drop m) = t := ⟨_, rfl⟩
    have hsm : ∀ W, Upd [] W5 W → Calls Try.prog 38 #[.slice (some ⟨b11, 0, none⟩) 16 32, .slice q2 16 c2] W fun e w' => e = .returned (.bool t) ∧ Upd [] W w' := fun W u => by
      have hy := byAdv' (hx.upd_nil (v5.trans_nil u)) m c (by have := Hn.out; omega)
      rw [hq2] at hy
      have hFr : Rng ((keyL F).take 16) := by rw [← HF.out]; exact (keyL_rng (mac_bdK _ _)).take 16
      have hFl : ((keyL F).take 16).length = 16 := by rw [List.length_take, keyL_len]; rfl
      have := same_walk W (some ⟨b11, 0, none⟩) ((keyL F).take 16) 32 q2 (xs.drop m) c2 ((row32_bytes (hR5.upd_nil u)).take 16) hFr hy (hr.drop m) (by omega) (by omega)
      rw [hFl, hdl, ht] at this
      exact this
    obtain ⟨N, hN⟩ : ∃ N, w.heap.size = N := ⟨_, rfl⟩
    obtain ⟨Z, hZ⟩ : ∃ Z, outL G X (xs.take m) = Z := ⟨_, rfl⟩
    have hZl : Z.length = m := by rw [← hZ]; unfold outL; rw [xorB_len, hyl]
    have htn : ∀ W, Upd [] W5 W → Calls Try.prog 33 #[.agg (row32 G).toArray, .slice q mX d, .slice p m c] W fun e w' => ∃ p' c', e = .returned (.slice p' m c') ∧ w'.ownsRow N 5 1 (.slice p' m c') m (u8s Z) ∧ Upd [] W w' := fun W u => by
      have := turned_walk W G hG q X d (hq5.upd_nil u) hXr (by have := Hm.out; omega) (by have := Hm.out; omega) (by have := Hm.out; omega) p (xs.take m) c ((hx.take m).upd_nil (v5.trans_nil u)) (hr.take m) (by omega) (by omega)
      rw [hyl, Hm.out] at this
      refine this.mono ?_
      rintro e w' ⟨p', c', rfl, o, u'⟩
      change OwnB w' W.heap.size _ (outL G X (xs.take m)) at o
      rw [hZ] at o
      exact ⟨p', c', rfl, own_to' hZl (o.mono (by rw [← hN]; exact (v5.trans_nil u).size)), u'⟩
    have Hq2 := Lib.hid hq2
    have Hc2 := Lib.hid hc2
    have H16 := Lib.hid h16
    have Ht := Lib.hid ht
    have HN := Lib.hid hN
    have HZ := Lib.hid hZ
    have HZl := Lib.hid hZl
    clear hq2 hc2 h16 ht hR5 hN hZ hZl hq5 hDr5 hyl hdl
    refine wp_region_spec [(.eq (.slice (some ⟨b11, 0, none⟩) 16 32)), (.eq (.slice p n c)), (.eq (.int .i64 (m : Int))), (.eq (.slice q2 16 c2)), (.eq (.bool t)), (.eq (.bool (!t)))] (by kernel_rfl) (by kernel_rfl) rfl ?step ?fin
    case step =>
      intro i o ho a w' hS hold hneed K' hK
      match i, ho with
      | 0, ho =>
        obtain rfl := Option.some.inj ho
        have d11 := hold 11 _ (by kernel_rfl) rfl
        clear hold hneed ho
        (go_simp; exact hK _ _ rfl (Upd.refl [] _))
      | 1, ho =>
        obtain rfl := Option.some.inj ho
        have d2 := hold 2 _ (by kernel_rfl) rfl
        clear hold hneed ho
        (go_simp; exact hK _ _ rfl (Upd.refl [] _))
      | 2, ho =>
        obtain rfl := Option.some.inj ho
        have d10 := hold 10 _ (by kernel_rfl) rfl
        clear hold hneed ho
        (go_simp; exact hK _ _ rfl (Upd.refl [] _))
      | 3, ho =>
        obtain rfl := Option.some.inj ho
        have d38 := get_of_at (hneed 1 (of_decide_eq_true (by kernel_rfl)) 38 rfl) (by simp [undef])
        have d39 := get_of_at (hneed 2 (of_decide_eq_true (by kernel_rfl)) 39 rfl) (by simp [undef])
        clear hold hneed ho
        (go_simp; rw [Hq2.out, H16.out, Hc2.out]; exact hK _ _ rfl (Upd.refl [] _))
      | 4, ho =>
        obtain rfl := Option.some.inj ho
        have d37 := get_of_at (hneed 0 (of_decide_eq_true (by kernel_rfl)) 37 rfl) (by simp [undef])
        have d40 := get_of_at (hneed 3 (of_decide_eq_true (by kernel_rfl)) 40 rfl) (by simp [undef])
        clear hold hneed ho
        (go_simp; refine (hsm _ hS).mono ?_; rintro e w3 ⟨rfl, hu3⟩; exact hK _ _ rfl hu3)
      | 5, ho =>
        obtain rfl := Option.some.inj ho
        have d41 := get_of_at (hneed 4 (of_decide_eq_true (by kernel_rfl)) 41 rfl) (by simp [undef])
        clear hold hneed ho
        (go_simp; exact hK _ _ rfl (Upd.refl [] _))
      | _ + 6, ho => exact absurd ho (by simp)
    case fin =>
      intro a w' hS hsz hdf hold hvals
      have ha := act_lit hsz hdf (RowIs.cons (at_of_get (hold 0 _ (by kernel_rfl) rfl)) (RowIs.cons (at_of_get (hold 1 _ (by kernel_rfl) rfl)) (RowIs.cons (at_of_get (hold 2 _ (by kernel_rfl) rfl)) (RowIs.cons (at_of_get (hold 3 _ (by kernel_rfl) rfl)) (RowIs.cons (at_of_get (hold 4 _ (by kernel_rfl) rfl)) (RowIs.cons (at_of_get (hold 5 _ (by kernel_rfl) rfl)) (RowIs.cons (at_of_get (hold 6 _ (by kernel_rfl) rfl)) (RowIs.cons (at_of_get (hold 7 _ (by kernel_rfl) rfl)) (RowIs.cons (at_of_get (hold 8 _ (by kernel_rfl) rfl)) (RowIs.cons (at_of_get (hold 9 _ (by kernel_rfl) rfl)) (RowIs.cons (at_of_get (hold 10 _ (by kernel_rfl) rfl)) (RowIs.cons (at_of_get (hold 11 _ (by kernel_rfl) rfl)) (RowIs.cons (at_of_get (hold 12 _ (by kernel_rfl) rfl)) (RowIs.cons (at_of_get (hold 13 _ (by kernel_rfl) rfl)) (RowIs.cons (at_of_get (hold 14 _ (by kernel_rfl) rfl)) (RowIs.cons (at_of_get (hold 15 _ (by kernel_rfl) rfl)) (RowIs.cons (at_of_get (hold 16 _ (by kernel_rfl) rfl)) (RowIs.cons (at_of_get (hold 17 _ (by kernel_rfl) rfl)) (RowIs.cons (at_of_get (hold 18 _ (by kernel_rfl) rfl)) (RowIs.cons (at_of_get (hold 19 _ (by kernel_rfl) rfl)) (RowIs.cons (at_of_get (hold 20 _ (by kernel_rfl) rfl)) (RowIs.cons (at_of_get (hold 21 _ (by kernel_rfl) rfl)) (RowIs.cons (at_of_get (hold 22 _ (by kernel_rfl) rfl)) (RowIs.cons (at_of_get (hold 23 _ (by kernel_rfl) rfl)) (RowIs.cons (at_of_get (hold 24 _ (by kernel_rfl) rfl)) (RowIs.cons (at_of_get (hold 25 _ (by kernel_rfl) rfl)) (RowIs.cons (at_of_get (hold 26 _ (by kernel_rfl) rfl)) (RowIs.cons (at_of_get (hold 27 _ (by kernel_rfl) rfl)) (RowIs.cons (at_of_get (hold 28 _ (by kernel_rfl) rfl)) (RowIs.cons (at_of_get (hold 29 _ (by kernel_rfl) rfl)) (RowIs.cons (at_of_get (hold 30 _ (by kernel_rfl) rfl)) (RowIs.cons (at_of_get (hold 31 _ (by kernel_rfl) rfl)) (RowIs.cons (at_of_get (hold 32 _ (by kernel_rfl) rfl)) (RowIs.cons (at_of_get (hold 33 _ (by kernel_rfl) rfl)) (RowIs.cons (at_of_get (hold 34 _ (by kernel_rfl) rfl)) (RowIs.cons (at_of_get (hold 35 _ (by kernel_rfl) rfl)) (RowIs.cons (at_of_get (hold 36 _ (by kernel_rfl) rfl)) (RowIs.cons (hvals 0 37 rfl) (RowIs.cons (hvals 1 38 rfl) (RowIs.cons (hvals 2 39 rfl) (RowIs.cons (hvals 3 40 rfl) (RowIs.cons (hvals 4 41 rfl) (RowIs.cons (hvals 5 42 rfl) (RowIs.cons (at_of_get (hold 43 _ (by kernel_rfl) rfl)) (RowIs.cons (at_of_get (hold 44 _ (by kernel_rfl) rfl)) (RowIs.cons (at_of_get (hold 45 _ (by kernel_rfl) rfl)) (RowIs.cons (at_of_get (hold 46 _ (by kernel_rfl) rfl)) (RowIs.cons (at_of_get (hold 47 _ (by kernel_rfl) rfl)) (RowIs.cons (at_of_get (hold 48 _ (by kernel_rfl) rfl)) (RowIs.nil _ _)))))))))))))))))))))))))))))))))))))))))))))))))) rfl
      clear hsz hdf hold hvals
      subst ha
      try simp only [List.getElem_toArray, List.getElem_cons_succ, List.getElem_cons_zero]
      have v6 := v5.trans_nil hS
      cases t
      · go_wp2_with fail
        go_ret2
        have hne := of_decide_eq_false Ht.out
        exact ⟨fun _ => rfl, fun h => absurd (hTag.out.symm.trans h) hne, v6⟩
      · replace htn := fun (W : World) (u : Upd [] w' W) => htn W (hS.trans_nil u)
        replace hDr := fun (W : World) (u : Upd [] w' W) => hDr W (hS.trans_nil u)
        clear hS hsm v5
        obtain ⟨W6, rfl⟩ : ∃ W6, W6 = w' := ⟨_, rfl⟩
        go_upto_region 12 with fail
        refine wp_region_own [(.s (.eq (.agg (row32 G).toArray))), (.s (.eq (.slice q mX d))), (.s (.eq (.slice p n c))), (.s (.eq (.int .i64 (m : Int)))), (.s (.eq (.slice p m c))), (.own N 5 m (u8s Z)), (.own N 5 m (u8s Z)), (.s (.eq (.int .i64 0)))] 9999 (fun _ _ => False) (by kernel_rfl) (by kernel_rfl) rfl ?kp ?step ?fin
        case kp => intro k hk v wa wb h kp; exact kp.elim
        case step =>
          intro i o ho a w' hS hold hneed K' hK
          match i, ho with
          | 0, ho =>
            obtain rfl := Option.some.inj ho
            have d3 := hold 3 _ (by kernel_rfl) rfl
            clear hold hneed ho
            (rw [if_pos (by simp [Region.wanted, yielded, *])]; exact wp_load_row 23 (.tmp 3) rfl D (by simp [Act.eval, *]) 23 _ (0, 0) _ (hDr _ hS) Try.underlying23 rfl (infoK _) (hK _ _ rfl (Upd.refl [] _)))
          | 1, ho =>
            obtain rfl := Option.some.inj ho
            have d8 := hold 8 _ (by kernel_rfl) rfl
            clear hold hneed ho
            (go_simp; exact hK _ _ rfl (Upd.refl [] _))
          | 2, ho =>
            obtain rfl := Option.some.inj ho
            have d2 := hold 2 _ (by kernel_rfl) rfl
            clear hold hneed ho
            (go_simp; exact hK _ _ rfl (Upd.refl [] _))
          | 3, ho =>
            obtain rfl := Option.some.inj ho
            have d10 := hold 10 _ (by kernel_rfl) rfl
            clear hold hneed ho
            (go_simp; exact hK _ _ rfl (Upd.refl [] _))
          | 4, ho =>
            obtain rfl := Option.some.inj ho
            have d45 := get_of_at (hneed 2 (of_decide_eq_true (by kernel_rfl)) 45 rfl) (by simp [undef])
            have d46 := get_of_at (hneed 3 (of_decide_eq_true (by kernel_rfl)) 46 rfl) (by simp [undef])
            clear hold hneed ho
            (go_simp; exact hK _ _ rfl (Upd.refl [] _))
          | 5, ho =>
            obtain rfl := Option.some.inj ho
            have d43 := get_of_at (hneed 0 (of_decide_eq_true (by kernel_rfl)) 43 rfl) (by simp [undef])
            have d44 := get_of_at (hneed 1 (of_decide_eq_true (by kernel_rfl)) 44 rfl) (by simp [undef])
            have d47 := get_of_at (hneed 4 (of_decide_eq_true (by kernel_rfl)) 47 rfl) (by simp [undef])
            clear hold hneed ho
            (go_simp; refine (htn _ hS).mono ?_; rintro e w3 ⟨p3, c3, rfl, o3, hu3⟩; exact hK _ _ ⟨⟨_, _, rfl⟩, o3⟩ hu3)
          | 6, ho =>
            obtain rfl := Option.some.inj ho
            obtain ⟨⟨p48, c48, e48⟩, O48⟩ := hneed 5 (of_decide_eq_true (by kernel_rfl)) 48 rfl
            have d48 := get_of_at e48 (by simp [undef])
            clear hold hneed ho
            (rw [e48] at O48; go_simp; exact hK _ _ ⟨⟨_, _, rfl⟩, O48⟩ (Upd.refl [] _))
          | 7, ho =>
            obtain rfl := Option.some.inj ho
            clear hold hneed ho
            (go_simp; exact hK _ _ rfl (Upd.refl [] _))
          | _ + 8, ho => exact absurd ho (by simp)
        case fin =>
          intro a w' hS hsz hdf hold hvals
          obtain ⟨⟨p6, c6, hv6⟩, O6⟩ := hvals 6 6 rfl
          obtain ⟨⟨p48, c48, hv48⟩, O48⟩ := hvals 5 48 rfl
          have ha := act_lit hsz hdf (RowIs.cons (at_of_get (hold 0 _ (by kernel_rfl) rfl)) (RowIs.cons (at_of_get (hold 1 _ (by kernel_rfl) rfl)) (RowIs.cons (at_of_get (hold 2 _ (by kernel_rfl) rfl)) (RowIs.cons (at_of_get (hold 3 _ (by kernel_rfl) rfl)) (RowIs.cons (at_of_get (hold 4 _ (by kernel_rfl) rfl)) (RowIs.cons (at_of_get (hold 5 _ (by kernel_rfl) rfl)) (RowIs.cons hv6 (RowIs.cons (hvals 7 7 rfl) (RowIs.cons (at_of_get (hold 8 _ (by kernel_rfl) rfl)) (RowIs.cons (at_of_get (hold 9 _ (by kernel_rfl) rfl)) (RowIs.cons (at_of_get (hold 10 _ (by kernel_rfl) rfl)) (RowIs.cons (at_of_get (hold 11 _ (by kernel_rfl) rfl)) (RowIs.cons (at_of_get (hold 12 _ (by kernel_rfl) rfl)) (RowIs.cons (at_of_get (hold 13 _ (by kernel_rfl) rfl)) (RowIs.cons (at_of_get (hold 14 _ (by kernel_rfl) rfl)) (RowIs.cons (at_of_get (hold 15 _ (by kernel_rfl) rfl)) (RowIs.cons (at_of_get (hold 16 _ (by kernel_rfl) rfl)) (RowIs.cons (at_of_get (hold 17 _ (by kernel_rfl) rfl)) (RowIs.cons (at_of_get (hold 18 _ (by kernel_rfl) rfl)) (RowIs.cons (at_of_get (hold 19 _ (by kernel_rfl) rfl)) (RowIs.cons (at_of_get (hold 20 _ (by kernel_rfl) rfl)) (RowIs.cons (at_of_get (hold 21 _ (by kernel_rfl) rfl)) (RowIs.cons (at_of_get (hold 22 _ (by kernel_rfl) rfl)) (RowIs.cons (at_of_get (hold 23 _ (by kernel_rfl) rfl)) (RowIs.cons (at_of_get (hold 24 _ (by kernel_rfl) rfl)) (RowIs.cons (at_of_get (hold 25 _ (by kernel_rfl) rfl)) (RowIs.cons (at_of_get (hold 26 _ (by kernel_rfl) rfl)) (RowIs.cons (at_of_get (hold 27 _ (by kernel_rfl) rfl)) (RowIs.cons (at_of_get (hold 28 _ (by kernel_rfl) rfl)) (RowIs.cons (at_of_get (hold 29 _ (by kernel_rfl) rfl)) (RowIs.cons (at_of_get (hold 30 _ (by kernel_rfl) rfl)) (RowIs.cons (at_of_get (hold 31 _ (by kernel_rfl) rfl)) (RowIs.cons (at_of_get (hold 32 _ (by kernel_rfl) rfl)) (RowIs.cons (at_of_get (hold 33 _ (by kernel_rfl) rfl)) (RowIs.cons (at_of_get (hold 34 _ (by kernel_rfl) rfl)) (RowIs.cons (at_of_get (hold 35 _ (by kernel_rfl) rfl)) (RowIs.cons (at_of_get (hold 36 _ (by kernel_rfl) rfl)) (RowIs.cons (at_of_get (hold 37 _ (by kernel_rfl) rfl)) (RowIs.cons (at_of_get (hold 38 _ (by kernel_rfl) rfl)) (RowIs.cons (at_of_get (hold 39 _ (by kernel_rfl) rfl)) (RowIs.cons (at_of_get (hold 40 _ (by kernel_rfl) rfl)) (RowIs.cons (at_of_get (hold 41 _ (by kernel_rfl) rfl)) (RowIs.cons (at_of_get (hold 42 _ (by kernel_rfl) rfl)) (RowIs.cons (hvals 0 43 rfl) (RowIs.cons (hvals 1 44 rfl) (RowIs.cons (hvals 2 45 rfl) (RowIs.cons (hvals 3 46 rfl) (RowIs.cons (hvals 4 47 rfl) (RowIs.cons hv48 (RowIs.nil _ _)))))))))))))))))))))))))))))))))))))))))))))))))) rfl
          clear hsz hdf hold hvals
          subst ha
          try simp only [List.getElem_toArray, List.getElem_cons_succ, List.getElem_cons_zero]
          have v7 := v6.trans_nil hS
          have ho := own_of' HZl.out O6
          rw [hv6] at ho
          go_wp2_with fail
          go_ret2
          have he := of_decide_eq_true Ht.out
          refine ⟨fun h => absurd (hTag.out.trans he) h, fun _ => ⟨p6, c6, rfl, ?_⟩, v7⟩
          rw [HZ.out, HN.out]
          exact ho

end Go.Proofs.Ytppbaahaegmgeaa
