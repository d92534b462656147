/- mask: SubjectKey. -/
import Derived.Test.YtppbaahaegmgeaaMkX2
namespace Go.Proofs.Ytppbaahaegmgeaa
open Go.RowKit

/-- A mark's bytes. -/
def markL (f : Nat → Int) : List Int := (List.range 16).map f
theorem markL_len (f : Nat → Int) : (markL f).length = 16 := by simp [markL]
def RngM (f : Nat → Int) : Prop := ∀ i, i < 16 → 0 ≤ f i ∧ f i ≤ 255
theorem markL_rng {f : Nat → Int} (h : RngM f) : Rng (markL f) := fun x hx => by
  obtain ⟨i, hi, rfl⟩ := List.mem_map.1 hx
  exact h i (List.mem_range.1 hi)

set_option maxRecDepth 100000 in
set_option maxHeartbeats 4000000 in
theorem skey_ok (w : World) (G : Nat → Int) (hG : RngF G) (f : Nat → Int) (hf : RngM f) (x : Int) (hx : okU x) :
    Calls Try.prog 27 #[.agg (row32 G).toArray, .agg (row16 f).toArray, .int .i64 x] w fun e w' => e = .returned (.tuple #[agg32 (mac (keyL G) (6 :: (markL f ++ rowI x))), .int .i64 0]) ∧ Upd [] w w' := by
  have hz := zeroK
  obtain ⟨m, hm⟩ : ∃ m, (rowI x).length = m := ⟨_, rfl⟩
  have hml := rowI_len hx
  have hU := fun W => uI_ok x hx W
  have hXr := rowI_rng x
  rw [hm] at hU hml
  have Hm := Lib.hid hm
  generalize rowI x = X at *
  obtain ⟨F, hF⟩ : ∃ F, mac (keyL G) (6 :: (markL f ++ X)) = F := ⟨_, rfl⟩
  rw [hF]
  have HF := Lib.hid hF
  clear hF hm
  go_enter Try.func27, Try.ntmps27
  go_upto_region 1 with fail
  have u1 := (((Upd.refl [] w).alloc (.cells (row32 G).toArray 23)).alloc (.cells (row16 f).toArray 46)).alloc (.cells (row32 fun _ => 0).toArray 23)
  have hD : Blk (((w.alloc (.cells (row32 G).toArray 23)).alloc (.cells (row16 f).toArray 46)).alloc (.cells (row32 fun _ => 0).toArray 23)) w.heap.size (row32 G) 23 :=
    Blk.alloc (Blk.alloc (Blk.new w (row32 G).toArray 23) _) _
  have hM := Blk.alloc (Blk.new (w.alloc (.cells (row32 G).toArray 23)) (row16 f).toArray 46) (.cells (row32 fun _ => 0).toArray 23)
  have hR := Blk.new ((w.alloc (.cells (row32 G).toArray 23)).alloc (.cells (row16 f).toArray 46)) (row32 fun _ => 0).toArray 23
  rw [World.size_alloc] at hM
  rw [World.size_alloc, World.size_alloc] at hR
  simp only [List.toList_toArray] at hD hM hR
  generalize ((w.alloc (.cells (row32 G).toArray 23)).alloc (.cells (row16 f).toArray 46)).alloc (.cells (row32 fun _ => 0).toArray 23) = W1 at *
  generalize hd : w.heap.size = D at hD hM hR ⊢
  obtain ⟨M, hMe⟩ : ∃ M, D + 1 = M := ⟨_, rfl⟩
  rw [hMe] at hM hR ⊢
  obtain ⟨R, hRe⟩ : ∃ R, M + 1 = R := ⟨_, rfl⟩
  rw [hRe] at hR ⊢
  have hDR : w.heap.size ≤ R := by omega
  clear hMe hRe
  go_upto_region 4 with (go_at_call 19; refine (hU W1).mono ?_; rintro e W2 ⟨q, d, rfl, hq, hqd, u2⟩)
  have hD2 := hD.upd_nil u2
  have hM2 := hM.upd_nil u2
  have hR2 := hR.upd_nil u2
  have t2 := u1.trans_nil u2
  have hDr := fun (W : World) (u : Upd [] W2 W) => hD2.upd_nil u
  clear hD hM hR u1 u2 hD2 hU
  refine wp_region_head3 4 [(.s (.eq (.agg (row32 G).toArray))), (.s (.eq (.slice (some ⟨M, 0, none⟩) 16 16))), (.s (.eq (.slice q m d))), (.s (.sl 2 2 [.slice (some ⟨M, 0, none⟩) 16 16, .slice q m d] 26))] (by kernel_rfl) (by kernel_rfl) (by kernel_rfl) rfl ?step ?fin
  case step =>
    intro i o him ho a w' hS hold hneed K' hK
    match i, him, ho with
    | 0, _, ho =>
      obtain rfl := Option.some.inj ho
      have d3 := hold 3 _ (by kernel_rfl) rfl
      clear hold hneed ho
      (rw [if_pos (by simp [Region.wanted, yielded, *])]; exact wp_load_row 23 (.tmp 3) rfl D (by simp [Act.eval, *]) 23 _ (0, 0) _ (hDr _ hS) Try.underlying23 rfl (infoK _) (hK _ _ rfl (Upd.refl [] _)))
    | 1, _, ho =>
      obtain rfl := Option.some.inj ho
      have d4 := hold 4 _ (by kernel_rfl) rfl
      clear hold hneed ho
      (go_simp; exact hK _ _ rfl (Upd.refl [] _))
    | 2, _, ho =>
      obtain rfl := Option.some.inj ho
      have d8 := hold 8 _ (by kernel_rfl) rfl
      clear hold hneed ho
      (go_simp; exact hK _ _ rfl (Upd.refl [] _))
    | 3, _, ho =>
      obtain rfl := Option.some.inj ho
      have d19 := get_of_at (hneed 1 (of_decide_eq_true (by kernel_rfl)) 19 rfl) (by simp [undef])
      have d20 := get_of_at (hneed 2 (of_decide_eq_true (by kernel_rfl)) 20 rfl) (by simp [undef])
      clear hold hneed ho
      (go_simp; exact hK _ _ ⟨_, rfl, Blk.new _ _ _⟩ ((Upd.refl [] _).alloc _))
    | _ + 4, him, _ => exact absurd him (by omega)
  case fin =>
    intro a w' hS hsz hdf hold hvals
    obtain ⟨b21, hv21, hB21⟩ := hvals 3 21 (of_decide_eq_true (by kernel_rfl)) rfl
    have ha := act_lit hsz hdf (RowIs.cons (at_of_get (hold 0 _ (by kernel_rfl) rfl)) (RowIs.cons (at_of_get (hold 1 _ (by kernel_rfl) rfl)) (RowIs.cons (at_of_get (hold 2 _ (by kernel_rfl) rfl)) (RowIs.cons (at_of_get (hold 3 _ (by kernel_rfl) rfl)) (RowIs.cons (at_of_get (hold 4 _ (by kernel_rfl) rfl)) (RowIs.cons (at_of_get (hold 5 _ (by kernel_rfl) rfl)) (RowIs.cons (at_of_get (hold 6 _ (by kernel_rfl) rfl)) (RowIs.cons (at_of_get (hold 7 _ (by kernel_rfl) rfl)) (RowIs.cons (at_of_get (hold 8 _ (by kernel_rfl) rfl)) (RowIs.cons (at_of_get (hold 9 _ (by kernel_rfl) rfl)) (RowIs.cons (at_of_get (hold 10 _ (by kernel_rfl) rfl)) (RowIs.cons (at_of_get (hold 11 _ (by kernel_rfl) rfl)) (RowIs.cons (at_of_get (hold 12 _ (by kernel_rfl) rfl)) (RowIs.cons (at_of_get (hold 13 _ (by kernel_rfl) rfl)) (RowIs.cons (at_of_get (hold 14 _ (by kernel_rfl) rfl)) (RowIs.cons (at_of_get (hold 15 _ (by kernel_rfl) rfl)) (RowIs.cons (at_of_get (hold 16 _ (by kernel_rfl) rfl)) (RowIs.cons (at_of_get (hold 17 _ (by kernel_rfl) rfl)) (RowIs.cons (hvals 0 18 (of_decide_eq_true (by kernel_rfl)) rfl) (RowIs.cons (hvals 1 19 (of_decide_eq_true (by kernel_rfl)) rfl) (RowIs.cons (hvals 2 20 (of_decide_eq_true (by kernel_rfl)) rfl) (RowIs.cons hv21 (RowIs.cons (at_of_get (hold 22 _ (by kernel_rfl) rfl)) (RowIs.nil _ _)))))))))))))))))))))))) rfl
    clear hsz hdf hold hvals
    subst ha
    simp only [List.getElem_toArray, List.getElem_cons_succ, List.getElem_cons_zero, List.drop_succ_cons, List.drop_zero]
    have hrow := row2 (xs := markL f) (ys := X) hB21 (markL_len f).symm Hm.out.symm (row16_bytes (hM2.upd_nil hS)) (markL_rng hf) (by rw [markL_len]; omega) (hq.upd_nil hS) hXr (by rw [Hm.out]; exact hqd)
    have hof := of_mac w' G hG 6 (by omega) (some ⟨b21, 0, none⟩) [markL f, X] 2 hrow (by simp) (by simp) (by have := Hm.out; have := markL_len f; simp; omega)
    have hfl : [markL f, X].flatten = markL f ++ X := by simp
    rw [hfl, HF.out] at hof
    have hl2 : [markL f, X].length = 2 := rfl
    rw [hl2] at hof
    have hR3 := hR2.upd_nil hS
    have t3 := t2.trans_nil hS
    clear hrow hfl hR2 hl2
    go_wp2_with (first
      | (go_at_call 34; refine hof.mono ?_; rintro e W3 ⟨rfl, u3⟩; have hR4 := hR3.upd_nil u3)
      | (refine wpList_store_rowTo rfl _ _ _ rfl rfl _ (row32 F).toArray rfl rfl _ (row32 fun _ => 0).toArray hR4 (infoK _) (size32 _ _) (one32 _) ?_))
    have hR5 := hR4.setRow (row32 F).toArray
    refine bodyPost_ret (v := .tuple #[agg32 F, .int .i64 0]) (results_cell_tmp rfl _ _ R _ _ _ _ _ rfl rfl hR5 Try.underlying23 rfl (infoK F)) rfl ⟨?_, ?_⟩
    · rfl
    · exact (t3.trans_nil u3).setRow (b := R) (Or.inr hDR) (row32 F).toArray

set_option maxRecDepth 100000 in
set_option maxHeartbeats 4000000 in
theorem skey_no (w : World) (G f : Nat → Int) (x : Int) (hx : ¬ okU x) :
    Calls Try.prog 27 #[.agg (row32 G).toArray, .agg (row16 f).toArray, .int .i64 x] w fun e w' => e = .returned (.tuple #[.agg (row32 fun _ => 0).toArray, .int .i64 9]) ∧ Upd [] w w' := by
  have hz := zeroK
  have hU := fun W => u_no x (by unfold okU at hx; omega) W
  go_enter Try.func27, Try.ntmps27
  go_upto_region 1 with fail
  have u1 := (((Upd.refl [] w).alloc (.cells (row32 G).toArray 23)).alloc (.cells (row16 f).toArray 46)).alloc (.cells (row32 fun _ => 0).toArray 23)
  have hR := Blk.new ((w.alloc (.cells (row32 G).toArray 23)).alloc (.cells (row16 f).toArray 46)) (row32 fun _ => 0).toArray 23
  rw [World.size_alloc, World.size_alloc] at hR
  generalize ((w.alloc (.cells (row32 G).toArray 23)).alloc (.cells (row16 f).toArray 46)).alloc (.cells (row32 fun _ => 0).toArray 23) = W1 at *
  generalize hd : w.heap.size = D at hR ⊢
  go_wp2_with (first
    | (refine wpList_store_rowTo rfl _ _ _ rfl rfl _ (row32 fun _ => 0).toArray rfl rfl _ (row32 fun _ => 0).toArray hR (infoK _) (size32 _ _) (one32 _) ?_)
    | (go_at_call 19; refine (hU W1).mono ?_; rintro e W2 ⟨rfl, rfl⟩))
  have hR5 := hR.setRow (row32 fun _ => 0).toArray
  exact bodyPost_ret (v := .tuple #[.agg (row32 fun _ => 0).toArray, .int .i64 9]) (results_cell_tmp rfl _ _ (D + 1 + 1) _ _ _ _ _ rfl rfl hR5 Try.underlying23 rfl (infoK _)) rfl ⟨rfl, u1.setRow (b := D + 1 + 1) (Or.inr (by omega)) _⟩

end Go.Proofs.Ytppbaahaegmgeaa
