/- mask: Sign, Signed. -/
import Derived.Test.YtppbaahaegmgeaaMkD
namespace Go.Proofs.Ytppbaahaegmgeaa
open Go.RowKit

theorem infoK (f : Nat → Int) : (Try.prog.info? 23).map (·.size) = some (row32 f).toArray.size := by kernel_rfl
/-- A MAC's bytes. -/
def macL (G : Nat → Int) (c : Int) (xs : List Int) : List Int := keyL (mac (keyL G) (c :: xs))
theorem macL_len (G : Nat → Int) (c : Int) (xs : List Int) : (macL G c xs).length = 32 := keyL_len _
theorem mac_bdK (ks ms : List Int) : RngF (mac ks ms) := fun i _ => sha_bd _ i
theorem macL_rng (G : Nat → Int) (c : Int) (xs : List Int) : Rng (macL G c xs) := keyL_rng (mac_bdK _ _)
theorem row1 {w : World} {b : Nat} {T : TypeId} {p : Option Addr} {xs : List Int} {n c : Nat} (h : Blk w b [.slice p n c] T) (hn : n = xs.length) (h1 : ByAt w p xs) (r1 : Rng xs) (l1 : xs.length ≤ c) :
    RowsAt w (some ⟨b, 0, none⟩) [xs] := fun i zs hz => by
  subst hn
  match i, hz with
  | 0, hz => obtain rfl : xs = zs := by simpa using hz
             exact ⟨b, 0, p, c, rfl, h.lt, h.cell 0 rfl, r1, h1, l1⟩
  | i + 1, hz => simp at hz
theorem row2 {w : World} {b : Nat} {T : TypeId} {p1 p2 : Option Addr} {xs ys : List Int} {n1 n2 c1 c2 : Nat} (h : Blk w b [.slice p1 n1 c1, .slice p2 n2 c2] T) (e1 : n1 = xs.length) (e2 : n2 = ys.length)
    (h1 : ByAt w p1 xs) (r1 : Rng xs) (l1 : xs.length ≤ c1) (h2 : ByAt w p2 ys) (r2 : Rng ys) (l2 : ys.length ≤ c2) :
    RowsAt w (some ⟨b, 0, none⟩) [xs, ys] := fun i zs hz => by
  subst e1 e2
  match i, hz with
  | 0, hz => obtain rfl : xs = zs := by simpa using hz
             exact ⟨b, 0, p1, c1, rfl, h.lt, h.cell 0 rfl, r1, h1, l1⟩
  | 1, hz => obtain rfl : ys = zs := by simpa using hz
             exact ⟨b, 0, p2, c2, rfl, h.lt, h.cell 1 rfl, r2, h2, l2⟩
  | i + 2, hz => simp at hz

set_option maxRecDepth 100000 in
set_option maxHeartbeats 4000000 in
theorem sign_walk (w : World) (G : Nat → Int) (hG : RngF G) (p : Option Addr) (xs : List Int) (c : Nat) (hx : ByAt w p xs) (hr : Rng xs) (hl : xs.length ≤ 100000000) (hc : xs.length ≤ c) :
    Calls Try.prog 20 #[.agg (row32 G).toArray, .slice p xs.length c] w fun e w' => ∃ p' c', e = .returned (.slice p' (xs.length + 32) c') ∧ OwnB w' w.heap.size (.slice p' (xs.length + 32) c') (xs ++ macL G 3 xs) ∧ Upd [] w w' := by
  obtain ⟨n, hn⟩ : ∃ n, xs.length = n := ⟨_, rfl⟩
  rw [hn] at hl hc ⊢
  have Hn := Lib.hid hn
  have hz : ∀ w : World, (zeroValue 22).run Try.prog w = .ok (.agg (row32 fun _ => 0).toArray) w := fun w => by kernel_rfl
  go_enter Try.func20, Try.ntmps20
  go_upto_region 1 with fail
  have u1 := (Upd.refl [] w).alloc (.cells (row32 G).toArray 23)
  have hD : Blk (w.alloc (.cells (row32 G).toArray 23)) w.heap.size (row32 G) 23 := Blk.new w (row32 G).toArray 23
  generalize w.alloc (.cells (row32 G).toArray 23) = W1 at *
  generalize hd : w.heap.size = D at hD ⊢
  have uB := (Upd.refl [] W1).alloc (.cells #[.slice p n c] 26)
  have hB := Blk.new W1 #[.slice p n c] 26
  have hrow := row1 hB hn.symm ((hx.upd_nil u1).upd_nil uB) hr (by omega)
  have hof := of_mac _ G hG 3 (by omega) (some ⟨W1.heap.size, 0, none⟩) [xs] 1 hrow (by simp) (by simp) (by simp; omega)
  have hfl : [xs].flatten = xs := by simp
  rw [hfl, List.length_singleton] at hof
  obtain ⟨F, hF⟩ : ∃ F, mac (keyL G) (3 :: xs) = F := ⟨_, rfl⟩
  rw [hF] at hof
  have HF := Lib.hid hF
  have v1 := u1.trans_nil uB
  clear hfl hrow hB hF uB
  go_upto_region 2 with (first
    | (go_at_call 34; refine hof.mono ?_; rintro e w2 ⟨rfl, u2⟩; have hR := Blk.new w2 (row32 fun _ => 0).toArray 22; have v2 := v1.trans_nil u2)
    | (refine wpList_store_rowTo rfl _ _ _ rfl rfl _ (row32 F).toArray rfl rfl _ (row32 fun _ => 0).toArray hR (info32 _) (size32 _ _) (one32 _) ?_)
    | (refine wpList_load_row rfl _ _ rfl D rfl _ (row32 G).toArray _ _ hD Try.underlying23 rfl (infoK G) ?_))
  have uR := ((Upd.refl [] w2).alloc (.cells (row32 fun _ => 0).toArray 22)).setRow (b := w2.heap.size) (Or.inr (Nat.le_refl _)) (row32 F).toArray
  have hR5 := hR.setRow (row32 F).toArray
  have v5 := v2.trans_nil uR
  clear hR uR u2 v2 hof u1 hD hz
  generalize (w2.alloc (.cells (row32 fun _ => 0).toArray 22)).setRow w2.heap.size (row32 F).toArray = W5 at *
  generalize w2.heap.size = R at *
  have uC := (Upd.refl [] W5).alloc (.cells #[.slice p n c, .slice (some ⟨R, 0, none⟩) 32 32] 26)
  have hC := Blk.new W5 #[.slice p n c, .slice (some ⟨R, 0, none⟩) 32 32] 26
  have hrow := row2 (xs := xs) (ys := keyL F) hC hn.symm (keyL_len F).symm (hx.upd_nil (v5.trans_nil uC)) hr (by omega) (row32_bytes (hR5.upd_nil uC)) (by rw [← HF.out]; exact keyL_rng (mac_bdK _ _)) (by rw [keyL_len]; omega)
  have hcc := concat_walk _ (some ⟨W5.heap.size, 0, none⟩) [xs, keyL F] 2 hrow (by simp) (by simp) (by simp [keyL_len]; omega)
  have hfl : [xs, keyL F].flatten = xs ++ keyL F := by simp
  have hll : (xs ++ keyL F).length = n + 32 := by rw [List.length_append, keyL_len, hn]
  rw [hfl, hll] at hcc
  simp only [List.length_cons, List.length_nil, Nat.zero_add, Nat.reduceAdd] at hcc
  have v6 := v5.trans_nil uC
  have hbase := v6.size
  clear hfl hll hrow hC uC hR5 v5
  go_wp2_with (go_at_call 40; refine hcc.mono ?_; rintro e w6 ⟨p6, c6, rfl, o6, u6⟩)
  go_ret
  refine ⟨p6, c6, rfl, ?_, v6.trans_nil u6⟩
  unfold macL
  rw [HF.out]
  exact o6.mono hbase

def isPtN (N : Nat) (cs : List Value) (T : TypeId) : Spec3 := .is (fun v w => ∃ b, v = .pointer (some ⟨b, 0, none⟩) ∧ N ≤ b ∧ Blk w b cs T)
  (fun _ _ _ h u => h.elim fun b h => ⟨b, h.1, h.2.1, h.2.2.upd_nil u⟩)

theorem byAdv' {w : World} {p : Option Addr} {xs : List Int} (h : ByAt w p xs) (k c : Nat) (hc : xs.length ≤ c) : ByAt w (if c = k then p else p.map (·.add k)) (xs.drop k) := by
  by_cases hk : c = k
  · rw [if_pos hk, List.drop_of_length_le (by omega)]; exact ByAt.nil _ _
  · rw [if_neg hk]
    by_cases h0 : xs.length = 0
    · rw [List.drop_of_length_le (by omega)]; exact ByAt.nil _ _
    · obtain ⟨b, o, rfl⟩ := h.form (by omega)
      have e : Option.map (fun x : Addr => x.add k) (some ⟨b, o, none⟩) = some ⟨b, o + k, none⟩ := by
        show some ((⟨b, o, none⟩ : Addr).add k) = _
        unfold Addr.add
        split <;> simp_all
      rw [e]
      exact h.drop k

set_option maxRecDepth 100000 in
set_option maxHeartbeats 4000000 in
theorem signed_walk (w : World) (G : Nat → Int) (hG : RngF G) (p : Option Addr) (xs : List Int) (c : Nat) (hx : ByAt w p xs) (hr : Rng xs) (hl : xs.length ≤ 100000000) (hc : xs.length ≤ c) :
    Calls Try.prog 24 #[.agg (row32 G).toArray, .slice p xs.length c] w fun e w' => (xs.length < 32 → e = .returned (.tuple #[.slice none 0 0, .int .i64 3])) ∧
      (32 ≤ xs.length → macL G 3 (xs.take (xs.length - 32)) ≠ xs.drop (xs.length - 32) → e = .returned (.tuple #[.slice none 0 0, .int .i64 150])) ∧
      (32 ≤ xs.length → macL G 3 (xs.take (xs.length - 32)) = xs.drop (xs.length - 32) → ∃ p' c', e = .returned (.tuple #[.slice p' (xs.length - 32) c', .int .i64 0]) ∧ OwnB w' w.heap.size (.slice p' (xs.length - 32) c') (xs.take (xs.length - 32))) ∧ Upd [] w w' := by
  obtain ⟨n, hn⟩ : ∃ n, xs.length = n := ⟨_, rfl⟩
  rw [hn] at hl hc ⊢
  have Hn := Lib.hid hn
  have hz : ∀ w : World, (zeroValue 22).run Try.prog w = .ok (.agg (row32 fun _ => 0).toArray) w := fun w => by kernel_rfl
  have g0 : (0 : Int) ≤ n := by omega
  rcases Nat.lt_or_ge n 32 with h32 | h32
  · have g1 : (n : Int) - 32 < 0 := by omega
    have g2 : (n : Int) < 32 := by omega
    have hu := (Upd.refl [] w).alloc (.cells (row32 G).toArray 23)
    go_enter Try.func24, Try.ntmps24
    go_wp2_with fail
    go_ret2
    exact ⟨fun _ => rfl, fun h => absurd h (by omega), fun h => absurd h (by omega), hu⟩
  · obtain ⟨m, hm⟩ : ∃ m, n - 32 = m := ⟨_, rfl⟩
    rw [hm]
    have Em : (n : Int) - 32 = (m : Int) := by omega
    have g1 : (0 : Int) ≤ m := by omega
    have g2 : (m : Int) ≤ n := by omega
    have g3 : (m : Int) ≤ c := by omega
    have g4 : m ≤ c := by omega
    have Hm := Lib.hid hm
    go_enter Try.func24, Try.ntmps24
    go_upto_region 4 with fail
    have u1 := (Upd.refl [] w).alloc (.cells (row32 G).toArray 23)
    have hD : Blk (w.alloc (.cells (row32 G).toArray 23)) w.heap.size (row32 G) 23 := Blk.new w (row32 G).toArray 23
    generalize w.alloc (.cells (row32 G).toArray 23) = W1 at *
    generalize hd : w.heap.size = D at hD ⊢
    have hxl : (xs.take m).length = m := by rw [List.length_take]; omega
    have hyl : (xs.drop m).length = 32 := by rw [List.length_drop]; omega
    obtain ⟨F, hF⟩ : ∃ F, mac (keyL G) (3 :: xs.take m) = F := ⟨_, rfl⟩
    have HF := Lib.hid hF
    have hof : ∀ W g, Upd [] W1 W → Blk W g [.slice p m c] 26 → Calls Try.prog 34 #[.agg (row32 G).toArray, .int .u8 3, .slice (some ⟨g, 0, none⟩) 1 1] W fun e w' => e = .returned (.agg (row32 F).toArray) ∧ Upd [] W w' := fun W g u hg => by
      have hrow := row1 hg hxl.symm ((hx.take m).upd_nil (u1.trans_nil u)) (hr.take m) (by omega)
      have := of_mac _ G hG 3 (by omega) (some ⟨g, 0, none⟩) [xs.take m] 1 hrow (by simp) (by simp) (by simp; omega)
      rw [show [xs.take m].flatten = xs.take m by simp, List.length_singleton, HF.out] at this
      exact this
    have hDr : ∀ W, Upd [] W1 W → W.heap[D]? = some (.cells (row32 G).toArray 23 (0, 0)) := fun W u => by
      have := hD.upd_nil u
      unfold Blk at this
      exact this
    clear hF hD Em
    refine wp_region_head3 7 [(.s (.eq (.agg (row32 G).toArray))), (.s (.eq (.slice p n c))), (.s (.eq (.int .i64 (m : Int)))), (.s (.eq (.slice p m c))), (.s (.sl 1 1 [.slice p m c] 26)), (.s (.eq (.agg (row32 F).toArray))), (isPtN W1.heap.size (row32 fun _ => 0) 22)] (by kernel_rfl) (by kernel_rfl) (by kernel_rfl) rfl ?step ?fin
    case step =>
      intro i o him ho a w' hS hold hneed K' hK
      match i, him, ho with
      | 0, _, ho =>
        obtain rfl := Option.some.inj ho
        have d2 := hold 2 _ (by kernel_rfl) rfl
        clear hold hneed ho
        (rw [if_pos (by simp [Region.wanted, yielded, *])]; exact wp_load_row 23 (.tmp 2) rfl D (by simp [Act.eval, *]) 23 _ (0, 0) _ (hDr _ hS) Try.underlying23 rfl (infoK _) (hK _ _ rfl (Upd.refl [] _)))
      | 1, _, ho =>
        obtain rfl := Option.some.inj ho
        have d1 := hold 1 _ (by kernel_rfl) rfl
        clear hold hneed ho
        (go_simp; exact hK _ _ rfl (Upd.refl [] _))
      | 2, _, ho =>
        obtain rfl := Option.some.inj ho
        have d6 := hold 6 _ (by kernel_rfl) rfl
        clear hold hneed ho
        (go_simp; exact hK _ _ rfl (Upd.refl [] _))
      | 3, _, ho =>
        obtain rfl := Option.some.inj ho
        have d14 := get_of_at (hneed 1 (of_decide_eq_true (by kernel_rfl)) 14 rfl) (by simp [undef])
        have d15 := get_of_at (hneed 2 (of_decide_eq_true (by kernel_rfl)) 15 rfl) (by simp [undef])
        clear hold hneed ho
        (go_simp; exact hK _ _ rfl (Upd.refl [] _))
      | 4, _, ho =>
        obtain rfl := Option.some.inj ho
        have d16 := get_of_at (hneed 3 (of_decide_eq_true (by kernel_rfl)) 16 rfl) (by simp [undef])
        clear hold hneed ho
        (go_simp; exact hK _ _ ⟨_, rfl, Blk.new _ _ _⟩ ((Upd.refl [] _).alloc _))
      | 5, _, ho =>
        obtain rfl := Option.some.inj ho
        have d13 := get_of_at (hneed 0 (of_decide_eq_true (by kernel_rfl)) 13 rfl) (by simp [undef])
        obtain ⟨b17, e17, hB17⟩ := hneed 4 (of_decide_eq_true (by kernel_rfl)) 17 rfl
        have d17 := get_of_at e17 (by simp [undef])
        clear hold hneed ho
        (go_simp; refine (hof _ _ hS hB17).mono ?_; rintro e w3 ⟨rfl, hu3⟩; exact hK _ _ rfl hu3)
      | 6, _, ho =>
        obtain rfl := Option.some.inj ho
        clear hold hneed ho
        (go_simp; exact hK _ _ ⟨_, rfl, hS.size, Blk.new _ _ _⟩ ((Upd.refl [] _).alloc _))
      | _ + 7, him, _ => exact absurd him (by omega)
    case fin =>
      intro a w' hS hsz hdf hold hvals
      have R7 := hvals 6 7 (of_decide_eq_true (by kernel_rfl)) rfl
      obtain ⟨v7, hv7⟩ : ∃ v, at_ a 7 = v := ⟨_, rfl⟩
      rw [hv7] at R7
      obtain ⟨b17, hv17, hB17⟩ := hvals 4 17 (of_decide_eq_true (by kernel_rfl)) rfl
      have ha := act_lit hsz hdf (RowIs.cons (at_of_get (hold 0 _ (by kernel_rfl) rfl)) (RowIs.cons (at_of_get (hold 1 _ (by kernel_rfl) rfl)) (RowIs.cons (at_of_get (hold 2 _ (by kernel_rfl) rfl)) (RowIs.cons (at_of_get (hold 3 _ (by kernel_rfl) rfl)) (RowIs.cons (at_of_get (hold 4 _ (by kernel_rfl) rfl)) (RowIs.cons (at_of_get (hold 5 _ (by kernel_rfl) rfl)) (RowIs.cons (at_of_get (hold 6 _ (by kernel_rfl) rfl)) (RowIs.cons hv7 (RowIs.cons (at_of_get (hold 8 _ (by kernel_rfl) rfl)) (RowIs.cons (at_of_get (hold 9 _ (by kernel_rfl) rfl)) (RowIs.cons (at_of_get (hold 10 _ (by kernel_rfl) rfl)) (RowIs.cons (at_of_get (hold 11 _ (by kernel_rfl) rfl)) (RowIs.cons (at_of_get (hold 12 _ (by kernel_rfl) rfl)) (RowIs.cons (hvals 0 13 (of_decide_eq_true (by kernel_rfl)) rfl) (RowIs.cons (hvals 1 14 (of_decide_eq_true (by kernel_rfl)) rfl) (RowIs.cons (hvals 2 15 (of_decide_eq_true (by kernel_rfl)) rfl) (RowIs.cons (hvals 3 16 (of_decide_eq_true (by kernel_rfl)) rfl) (RowIs.cons hv17 (RowIs.cons (hvals 5 18 (of_decide_eq_true (by kernel_rfl)) rfl) (RowIs.cons (at_of_get (hold 19 _ (by kernel_rfl) rfl)) (RowIs.cons (at_of_get (hold 20 _ (by kernel_rfl) rfl)) (RowIs.cons (at_of_get (hold 21 _ (by kernel_rfl) rfl)) (RowIs.cons (at_of_get (hold 22 _ (by kernel_rfl) rfl)) (RowIs.cons (at_of_get (hold 23 _ (by kernel_rfl) rfl)) (RowIs.cons (at_of_get (hold 24 _ (by kernel_rfl) rfl)) (RowIs.cons (at_of_get (hold 25 _ (by kernel_rfl) rfl)) (RowIs.cons (at_of_get (hold 26 _ (by kernel_rfl) rfl)) (RowIs.cons (at_of_get (hold 27 _ (by kernel_rfl) rfl)) (RowIs.cons (at_of_get (hold 28 _ (by kernel_rfl) rfl)) (RowIs.nil _ _)))))))))))))))))))))))))))))) rfl
      clear hsz hdf hold hvals
      subst ha
      simp only [List.getElem_toArray, List.getElem_cons_succ, List.getElem_cons_zero, List.drop_succ_cons, List.drop_zero]
      obtain ⟨b7, rfl, hb7, hB7⟩ := R7
      have hb7w : w.heap.size ≤ b7 := Nat.le_trans u1.size hb7
      go_upto_region 5 with (refine wpList_store_rowTo rfl _ _ _ rfl rfl _ (row32 F).toArray rfl rfl _ (row32 fun _ => 0).toArray hB7 (info32 _) (size32 _ _) (one32 _) ?_)
      have v5 := (u1.trans_nil hS).setRow (b := b7) (Or.inr hb7w) (row32 F).toArray
      have hR5 := hB7.setRow (row32 F).toArray
      clear hB7 hDr hof hS u1 hb7 hz
      generalize w'.setRow b7 (row32 F).toArray = W5 at *
      obtain ⟨q2, hq2⟩ : ∃ q2, (if c = m then p else p.map (·.add m)) = q2 := ⟨_, rfl⟩
      obtain ⟨c2, hc2⟩ : ∃ c2, c - m = c2 := ⟨_, rfl⟩
      have h32' : n - m = 32 := by omega
      obtain ⟨t, ht⟩ : ∃ t, decide (keyL F = xs.drop m) = t := ⟨_, rfl⟩
      have hsm : ∀ W, Upd [] W5 W → Calls Try.prog 38 #[.slice (some ⟨b7, 0, none⟩) 32 32, .slice q2 32 c2] W fun e w' => e = .returned (.bool t) ∧ Upd [] W w' := fun W u => by
        have hy := byAdv' (hx.upd_nil (v5.trans_nil u)) m c (by omega)
        rw [hq2] at hy
        have hFr : Rng (keyL F) := by rw [← HF.out]; exact keyL_rng (mac_bdK _ _)
        have := same_walk W (some ⟨b7, 0, none⟩) (keyL F) 32 q2 (xs.drop m) c2 (row32_bytes (hR5.upd_nil u)) hFr hy (hr.drop m) (by rw [keyL_len]; omega) (by omega)
        rw [keyL_len, hyl, ht] at this
        exact this
      have Hq2 := Lib.hid hq2
      have Hc2 := Lib.hid hc2
      have H32 := Lib.hid h32'
      have Ht := Lib.hid ht
      have hcl := fun (W : World) (u : Upd [] W5 W) => clone_walk W p (xs.take m) c ((hx.take m).upd_nil (v5.trans_nil u)) (by omega)
      rw [hxl] at hcl
      clear hq2 hc2 h32' ht hR5
      refine wp_region_spec [(.eq (.slice (some ⟨b7, 0, none⟩) 32 32)), (.eq (.slice p n c)), (.eq (.int .i64 (m : Int))), (.eq (.slice q2 32 c2)), (.eq (.bool t)), (.eq (.bool (!t)))] (by kernel_rfl) (by kernel_rfl) rfl ?step ?fin
      case step =>
        intro i o ho a w' hS hold hneed K' hK
        match i, ho with
        | 0, ho =>
          obtain rfl := Option.some.inj ho
          have d7 := hold 7 _ (by kernel_rfl) rfl
          clear hold hneed ho
          (go_simp; exact hK _ _ rfl (Upd.refl [] _))
        | 1, ho =>
          obtain rfl := Option.some.inj ho
          have d1 := hold 1 _ (by kernel_rfl) rfl
          clear hold hneed ho
          (go_simp; exact hK _ _ rfl (Upd.refl [] _))
        | 2, ho =>
          obtain rfl := Option.some.inj ho
          have d6 := hold 6 _ (by kernel_rfl) rfl
          clear hold hneed ho
          (go_simp; exact hK _ _ rfl (Upd.refl [] _))
        | 3, ho =>
          obtain rfl := Option.some.inj ho
          have d20 := get_of_at (hneed 1 (of_decide_eq_true (by kernel_rfl)) 20 rfl) (by simp [undef])
          have d21 := get_of_at (hneed 2 (of_decide_eq_true (by kernel_rfl)) 21 rfl) (by simp [undef])
          clear hold hneed ho
          (go_simp; rw [Hq2.out, H32.out, Hc2.out]; exact hK _ _ rfl (Upd.refl [] _))
        | 4, ho =>
          obtain rfl := Option.some.inj ho
          have d19 := get_of_at (hneed 0 (of_decide_eq_true (by kernel_rfl)) 19 rfl) (by simp [undef])
          have d22 := get_of_at (hneed 3 (of_decide_eq_true (by kernel_rfl)) 22 rfl) (by simp [undef])
          clear hold hneed ho
          (go_simp; refine (hsm _ hS).mono ?_; rintro e w3 ⟨rfl, hu3⟩; exact hK _ _ rfl hu3)
        | 5, ho =>
          obtain rfl := Option.some.inj ho
          have d23 := get_of_at (hneed 4 (of_decide_eq_true (by kernel_rfl)) 23 rfl) (by simp [undef])
          clear hold hneed ho
          (go_simp; exact hK _ _ rfl (Upd.refl [] _))
        | _ + 6, ho => exact absurd ho (by simp)
      case fin =>
        intro a w' hS hsz hdf hold hvals
        have ha := act_lit hsz hdf (RowIs.cons (at_of_get (hold 0 _ (by kernel_rfl) rfl)) (RowIs.cons (at_of_get (hold 1 _ (by kernel_rfl) rfl)) (RowIs.cons (at_of_get (hold 2 _ (by kernel_rfl) rfl)) (RowIs.cons (at_of_get (hold 3 _ (by kernel_rfl) rfl)) (RowIs.cons (at_of_get (hold 4 _ (by kernel_rfl) rfl)) (RowIs.cons (at_of_get (hold 5 _ (by kernel_rfl) rfl)) (RowIs.cons (at_of_get (hold 6 _ (by kernel_rfl) rfl)) (RowIs.cons (at_of_get (hold 7 _ (by kernel_rfl) rfl)) (RowIs.cons (at_of_get (hold 8 _ (by kernel_rfl) rfl)) (RowIs.cons (at_of_get (hold 9 _ (by kernel_rfl) rfl)) (RowIs.cons (at_of_get (hold 10 _ (by kernel_rfl) rfl)) (RowIs.cons (at_of_get (hold 11 _ (by kernel_rfl) rfl)) (RowIs.cons (at_of_get (hold 12 _ (by kernel_rfl) rfl)) (RowIs.cons (at_of_get (hold 13 _ (by kernel_rfl) rfl)) (RowIs.cons (at_of_get (hold 14 _ (by kernel_rfl) rfl)) (RowIs.cons (at_of_get (hold 15 _ (by kernel_rfl) rfl)) (RowIs.cons (at_of_get (hold 16 _ (by kernel_rfl) rfl)) (RowIs.cons (at_of_get (hold 17 _ (by kernel_rfl) rfl)) (RowIs.cons (at_of_get (hold 18 _ (by kernel_rfl) rfl)) (RowIs.cons (hvals 0 19 rfl) (RowIs.cons (hvals 1 20 rfl) (RowIs.cons (hvals 2 21 rfl) (RowIs.cons (hvals 3 22 rfl) (RowIs.cons (hvals 4 23 rfl) (RowIs.cons (hvals 5 24 rfl) (RowIs.cons (at_of_get (hold 25 _ (by kernel_rfl) rfl)) (RowIs.cons (at_of_get (hold 26 _ (by kernel_rfl) rfl)) (RowIs.cons (at_of_get (hold 27 _ (by kernel_rfl) rfl)) (RowIs.cons (at_of_get (hold 28 _ (by kernel_rfl) rfl)) (RowIs.nil _ _)))))))))))))))))))))))))))))) rfl
        clear hsz hdf hold hvals
        subst ha
        try simp only [List.getElem_toArray, List.getElem_cons_succ, List.getElem_cons_zero]
        have v6 := v5.trans_nil hS
        have hbase : D ≤ w'.heap.size := by rw [← hd]; exact v6.size
        have hme : macL G 3 (xs.take m) = keyL F := by unfold macL; rw [HF.out]
        have hcl' := hcl w' hS
        clear hsm hcl
        have HME := Lib.hid hme
        clear hme
        cases t
        · go_wp2_with fail
          go_ret2
          have hne := of_decide_eq_false Ht.out
          exact ⟨fun h => absurd h (by omega), fun _ => rfl, fun h => absurd (HME.out.symm.trans h) hne, v6⟩
        · go_wp2_with (go_at_call 46; refine hcl'.mono ?_; rintro e w7 ⟨p7, c7, rfl, o7, u7⟩)
          go_ret2
          have he := of_decide_eq_true Ht.out
          exact ⟨fun h => absurd h (by omega), fun _ h => absurd (HME.out.trans he) h, fun _ _ => ⟨p7, c7, rfl, o7.mono (by rw [hd]; exact hbase)⟩, v6.trans_nil u7⟩

end Go.Proofs.Ytppbaahaegmgeaa
