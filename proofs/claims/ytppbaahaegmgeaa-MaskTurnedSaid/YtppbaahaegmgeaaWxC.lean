/- HMAC: the walk of wax.Of. -/
import Derived.Test.YtppbaahaegmgeaaWxB
namespace Go.Proofs.Ytppbaahaegmgeaa
open Go.RowKit

theorem flat_take {xss : List (List Int)} {n : Nat} {xs : List Int} (h : xss[n]? = some xs) : (xss.take (n + 1)).flatten = (xss.take n).flatten ++ xs := by
  rw [List.take_add_one, h]
  simp
theorem flat_take_le (xss : List (List Int)) (n : Nat) : ((xss.take n).flatten).length ≤ xss.flatten.length := by
  conv => rhs; rw [← List.take_append_drop n xss]
  rw [List.flatten_append, List.length_append]
  omega

theorem info32 (f : Nat → Int) : (Try.prog.info? 22).map (·.size) = some (row32 f).toArray.size := by kernel_rfl
theorem one32 (f : Nat → Int) : (row32 f).toArray.all (·.oneCell') = true := by kernel_rfl
theorem size32 (f g : Nat → Int) : (row32 f).toArray.size = (row32 g).toArray.size := rfl

set_option maxRecDepth 100000 in
set_option maxHeartbeats 8000000 in
theorem mac_walk (w : World) (p : Option Addr) (ks : List Int) (c : Nat) (hx : ByAt w p ks) (hr : Rng ks) (hl : ks.length ≤ 140737488355328)
    (q : Option Addr) (xss : List (List Int)) (d : Nat) (hq : RowsAt w q xss) (hm : xss.length ≤ 9223372036854775807) (ht : 64 + xss.flatten.length ≤ 140737488355328) :
    Calls Try.prog 22 #[.slice p ks.length c, .slice q xss.length d] w fun e w' => e = .returned (agg32 (mac ks xss.flatten)) ∧ Upd [] w w' := by
  have hz : ∀ w : World, (zeroValue 22).run Try.prog w = .ok (.agg (row32 fun _ => 0).toArray) w := fun w => by kernel_rfl
  go_enter Try.func22, Try.ntmps22
  go_upto_region 1 with fail
  have uA := (Upd.refl [] w).alloc (.cells #[.slice p ks.length c] 26)
  have hbA := Blk.new w #[.slice p ks.length c] 26
  have zA : (w.alloc (.cells #[.slice p ks.length c] 26)).heap.size = w.heap.size + 1 := by simp
  generalize w.alloc (.cells #[.slice p ks.length c] 26) = WA at *
  have uB := uA.alloc (.cells (row32 fun _ => 0).toArray 22)
  have hbB := hbA.alloc (.cells (row32 fun _ => 0).toArray 22)
  have hR := Blk.new WA (row32 fun _ => 0).toArray 22
  generalize WA.alloc (.cells (row32 fun _ => 0).toArray 22) = WB at *
  obtain ⟨bx, hbx⟩ : ∃ bx, w.heap.size = bx := ⟨_, rfl⟩
  obtain ⟨R, hRR⟩ : ∃ R, w.heap.size + 1 = R := ⟨_, rfl⟩
  rw [zA, hRR] at hR
  rw [hRR, hbx]
  rw [hbx] at hbB
  have hbw : w.heap.size ≤ bx := by omega
  have hRw : w.heap.size ≤ R := by omega
  have hbR : bx ≠ R := by omega
  have HW := Lib.hid hbx
  clear hbx hRR zA uA hbA
  simp only [List.toList_toArray] at hR hbB
  have hxB := hx.upd_nil uB
  have c0 := hbB.cell 0 rfl
  have f0 := hbB.free 0
  have hKl := keyOf_len ks
  have hKr := keyOf_rng hr
  by_cases hl64 : 64 < ks.length
  case' pos =>
    have HK : Hid (keyOf ks = dig ks) := Lib.hid (by unfold keyOf; rw [if_pos hl64])
    go_upto_region 3 with (first
      | (go_at_call 41; refine (of_walk _ p ks c hxB hr hl).mono ?_; rintro e w1 ⟨rfl, u1⟩; have hb1 := hbB.upd_nil u1; have hR1 := hR.upd_nil u1; have v1 := uB.trans_nil u1; have c1 := hb1.cell 0 rfl; have f1 := hb1.free 0; have hD := Blk.new w1 (row32 fun _ => 0).toArray 22; have hb2 := hb1.alloc (.cells (row32 fun _ => 0).toArray 22); have hR2 := hR1.alloc (.cells (row32 fun _ => 0).toArray 22); have v2 := v1.alloc (.cells (row32 fun _ => 0).toArray 22))
      | (refine wpList_store_rowTo rfl _ _ _ rfl rfl _ (row32 (sha ks)).toArray rfl rfl _ (row32 fun _ => 0).toArray hD (info32 _) (size32 _ _) (one32 _) ?_))
    have hne1 : bx ≠ w1.heap.size := by have := hb1.lt; omega
    have hne2 : R ≠ w1.heap.size := by have := hR1.lt; omega
    have hDl : w.heap.size ≤ w1.heap.size := v1.size
    have hD3 := hD.setRow (row32 (sha ks)).toArray
    have sD := (Upd.refl [w1.heap.size] (w1.alloc (.cells (row32 fun _ => 0).toArray 22))).setRow (b := w1.heap.size) (Or.inl (by simp)) (row32 (sha ks)).toArray
    have hb3 := hb2.upd sD (by simpa using hne1)
    have hR3 := hR2.upd sD (by simpa using hne2)
    have v3 := v2.setRow (Or.inr hDl) (row32 (sha ks)).toArray
    clear hD hb2 hR2 v2 sD hb1 hR1 c1 f1 c0 f0 hbB hR uB u1
    generalize (w1.alloc (.cells (row32 fun _ => 0).toArray 22)).setRow w1.heap.size (row32 (sha ks)).toArray = W3 at *
    generalize w1.heap.size = D at *
    have c0 := hb3.cell 0 rfl
    have f0 := hb3.free 0
    go_upto_region 4 with fail
    have sE := (Upd.refl [bx] W3).setCell (p := ⟨bx, 0, none⟩) (Or.inl (by simp)) (.slice (some ⟨D, 0, none⟩) 32 32)
    have v5 := v3.setCell (p := ⟨bx, 0, none⟩) (Or.inr hbw) (.slice (some ⟨D, 0, none⟩) 32 32)
    have hb5 := hb3.set 0 (.slice (some ⟨D, 0, none⟩) 32 32)
    have hR5 := hR3.upd sE (by simpa using (Ne.symm hbR))
    have hK5 : ByAt (W3.setCell ⟨bx, 0, none⟩ (.slice (some ⟨D, 0, none⟩) 32 32)) (some ⟨D, 0, none⟩) (dig ks) := by
      have := row32_bytes (hD3.upd sE (by simpa using (Ne.symm hne1)))
      exact this
    have hdl := dig_len ks
    rw [HK.out] at hKl hKr
    have hb5 : Blk (W3.setCell ⟨bx, 0, none⟩ (.slice (some ⟨D, 0, none⟩) 32 32)) bx [.slice (some ⟨D, 0, none⟩) (dig ks).length 32] 26 := by rw [hdl]; exact hb5
    clear hb3 hR3 v3 sE hD3 c0 f0 hdl hne1 hne2
    generalize W3.setCell ⟨bx, 0, none⟩ (.slice (some ⟨D, 0, none⟩) 32 32) = W5 at *
    generalize dig ks = K at *
    obtain ⟨pK, hpK⟩ : ∃ pK, pK = some (⟨D, 0, none⟩ : Addr) := ⟨_, rfl⟩
    rw [← hpK] at hb5 hK5
    obtain ⟨cK, hcK⟩ : ∃ cK : Nat, cK = 32 := ⟨_, rfl⟩
    rw [← hcK] at hb5
    clear hpK hcK hxB
  case' neg =>
    have HK : Hid (keyOf ks = ks) := Lib.hid (by unfold keyOf; rw [if_neg hl64])
    rw [HK.out] at hKl hKr
    go_upto_region 4 with fail
    obtain ⟨K, hKK⟩ : ∃ K, K = ks := ⟨_, rfl⟩
    obtain ⟨pK, hpK⟩ : ∃ pK, pK = p := ⟨_, rfl⟩
    obtain ⟨cK, hcK⟩ : ∃ cK, cK = c := ⟨_, rfl⟩
    have hb5 := hbB
    have hR5 := hR
    have v5 := uB
    have hK5 := hxB
    obtain ⟨W5, hW5⟩ : ∃ W5, W5 = WB := ⟨_, rfl⟩
    rw [← hW5] at hb5 hR5 v5 hK5 ⊢
    rw [← hKK, ← hpK, ← hcK] at hb5
    rw [← hKK, ← hpK] at hK5
    have HK : Hid (keyOf ks = K) := Lib.hid (by rw [hKK]; exact HK.out)
    rw [← hKK] at hKl hKr
    clear hKK hpK hcK hbB hR uB hxB c0 f0 hW5
  all_goals (
    have HM : Hid (mac ks xss.flatten = sha (padKey K 92 ++ dig (padKey K 54 ++ xss.flatten))) := Lib.hid (by unfold mac; rw [HK.out])
    have hRl5 := hR5.lt
    go_upto_region 6 with (first
      | (go_at_call 42; refine (begin_walk hb6 hK6 hKr hKl 92 (by omega)).mono ?_; rintro e w7 ⟨k2, rfl, hk2, u7, hK2⟩)
      | (go_at_call 42; refine (begin_walk hb5 hK5 hKr hKl 54 (by omega)).mono ?_; rintro e w6 ⟨k1, rfl, hk1, u6, hK1⟩; have hb6 := hb5.upd_nil u6; have hK6 := hK5.upd_nil u6))
    have hk1l := hK1.lt
    have v7 := (v5.trans_nil u6).trans_nil u7
    have hR7 := (hR5.upd_nil u6).upd_nil u7
    have hK17 := hK1.upd_nil u7
    have l54 := padKey_len K 54
    have l92 := padKey_len K 92
    have r92 := padKey_rng K 92
    have hk1w : w.heap.size ≤ k1 := Nat.le_trans v5.size hk1
    have hk2w : w.heap.size ≤ k2 := by have := v5.size; have := u6.size; omega
    have hk12 : k1 ≠ k2 := by omega
    have hRk1 : R ≠ k1 := by omega
    have hRk2 : R ≠ k2 := by omega
    clear hb5 hb6 hK5 hK6 hK1 hR5 u6 u7 v5 hKr hKl HK hRl5
    generalize padKey K 54 = L54 at *
    generalize padKey K 92 = L92 at *
    generalize w6.heap.size = B2 at *
    go_upto_block 0 with fail
    go_cut [10] (fun _ wx => (∃ B, KnotAt wx B k1 (L54 ++ xss.flatten)) ∧ KnotAt wx B2 k2 L92 ∧ Blk wx R (row32 fun _ => 0) 22 ∧ Upd [] w wx)
    case first =>
      go_wp2_with fail
      go_loopw [25] (fun iv wr => ∃ ni : Nat, ni ≤ xss.length ∧ iv = .int .i64 ni ∧ (∃ B, KnotAt wr B k1 (L54 ++ (xss.take ni).flatten)) ∧ KnotAt wr B2 k2 L92 ∧ Blk wr R (row32 fun _ => 0) 22 ∧ Upd [] w wr) (fun iv _ => xss.length - (intOf iv).toNat)
      case atStart => exact ⟨0, by omega, rfl, ⟨_, by simpa using hK17⟩, hK2, hR7, v7⟩
      case round =>
        clear hK17 hK2 hR7 v7
        obtain ⟨ni, hni, rfl, ⟨B, hK1⟩, hK2, hR, hu⟩ := hrel
        obtain ⟨wo, rfl⟩ : ∃ wo, wo = wr := ⟨_, rfl⟩
        by_cases hlt : ni < xss.length
        · have hget : xss[ni]? = some xss[ni] := List.getElem?_eq_getElem hlt
          have hfl := flat_take hget
          have hbd := flat_take_le xss (ni + 1)
          rw [hfl, List.length_append] at hbd
          obtain ⟨b, off, dp, dc, rfl, hqb, hqc, hxr, hxa, hxd⟩ := hq ni _ hget
          generalize xss[ni] = xs at *
          have hqc2 : wo.cell? ⟨b, off + ni, none⟩ = some (.slice dp xs.length dc) := (hu.cell (a := ⟨b, off + ni, none⟩) hqb (by simp)).trans hqc
          have hadd := add_walk hK1 dp xs dc (hxa.upd_nil hu) hxr (by rw [List.length_append]; omega)
          have hrow : ∀ x ∈ [k1], x ≠ k2 ∧ x < B2 ∧ ∀ cs, ¬ Blk wo x cs 85 := fun x hx => by
            obtain rfl : x = k1 := by simpa using hx
            obtain ⟨_, _, _, _, hb, _⟩ := hK1
            exact ⟨hk12, hk1l, fun cs h => blk_ne h hb (by decide) rfl⟩
          have g1 : (0 : Int) ≤ ni := by omega
          have g2 : (ni : Int) < xss.length := by omega
          have HF := Lib.hid hfl
          clear hqc hget hfl
          go_wp2_with (go_at_call 44; refine hadd.mono ?_; rintro e w8 ⟨rfl, u8, hK8⟩)
          exact ⟨⟨ni + 1, by omega, by go_num, ⟨_, by rw [HF.out, ← List.append_assoc]; exact hK8⟩, hK2.upd u8 hrow, hR.upd u8 (by simpa using hRk1), hu.trans_nil' u8 (by simpa using hk1w)⟩, by simp [intOf]; omega⟩
        · obtain rfl : ni = xss.length := by omega
          rw [List.take_length] at hK1
          go_wp2_with fail
          go_meet
          exact ⟨⟨B, hK1⟩, hK2, hR, hu⟩
    case rest =>
      obtain ⟨⟨B, hK1⟩, hK2, hR, hu⟩ := hcut
      clear hK17 hR7 v7
      have hml : (L54 ++ xss.flatten).length ≤ 140737488355328 := by rw [List.length_append]; omega
      have hdr := dig_rng (L54 ++ xss.flatten)
      have hdl := dig_len (L54 ++ xss.flatten)
      have hdd : dig (L54 ++ xss.flatten) = (List.range 32).map (sha (L54 ++ xss.flatten)) := rfl
      have htie := tie_end hK1 hml
      generalize sha (L54 ++ xss.flatten) = F1 at *
      generalize dig (L54 ++ xss.flatten) = D1 at *
      have Hdd := Lib.hid hdd
      have Hdl := Lib.hid hdl
      have hml2 : (L92 ++ D1).length ≤ 140737488355328 := by rw [List.length_append]; omega
      clear hK1 hdd hdl
      have L54h := Lib.hid l54
      have L92h := Lib.hid l92
      clear l54 l92
      go_upto_region 12 with (first
        | (go_at_call 45; refine htie.mono ?_; rintro e w9 ⟨rfl, u9⟩; have hK29 := hK2.upd_nil u9; have hR9 := hR.upd_nil u9; have v9 := hu.trans_nil u9; have hD := Blk.new w9 (row32 fun _ => 0).toArray 22)
        | (refine wpList_store_rowTo rfl _ _ _ rfl rfl _ (row32 F1).toArray rfl rfl _ (row32 fun _ => 0).toArray hD (info32 _) (size32 _ _) (one32 _) ?_))
      have uD := ((Upd.refl [] w9).alloc (.cells (row32 fun _ => 0).toArray 22)).setRow (b := w9.heap.size) (Or.inr (Nat.le_refl _)) (row32 F1).toArray
      have hD3 := row32_bytes (hD.setRow (row32 F1).toArray)
      rw [← Hdd.out] at hD3
      have hKD := hK29.upd_nil uD
      have hRD := hR9.upd_nil uD
      have vD := v9.trans_nil uD
      clear uD hD hR9 hK29 v9 htie hK2 hR hu u9
      generalize (w9.alloc (.cells (row32 fun _ => 0).toArray 22)).setRow w9.heap.size (row32 F1).toArray = W9 at *
      generalize w9.heap.size = D at *
      have hadd := add_walk hKD (some ⟨D, 0, none⟩) D1 32 hD3 hdr (by rw [L92h.out, Hdl.out]; omega)
      rw [Hdl.out] at hadd
      go_upto_region 13 with (go_at_call 44; refine hadd.mono ?_; rintro e w10 ⟨rfl, u10, hK10⟩)
      have hR10 := hRD.upd u10 (by simpa using hRk2)
      have v10 := vD.trans_nil' u10 (by simpa using hk2w)
      have htie := tie_end hK10 hml2
      clear hadd hKD hK10 hRD vD u10
      go_wp2_with (first
        | (go_at_call 45; refine htie.mono ?_; rintro e w11 ⟨rfl, u11⟩; have hR11 := hR10.upd_nil u11)
        | (refine wpList_store_rowTo rfl _ _ _ rfl rfl R (row32 (sha (L92 ++ D1))).toArray rfl rfl _ (row32 fun _ => 0).toArray hR11 (info32 _) (size32 _ _) (one32 _) ?_))
      have hR12 := hR11.setRow (row32 (sha (L92 ++ D1))).toArray
      have v12 := (v10.trans_nil u11).setRow (Or.inr hRw) (row32 (sha (L92 ++ D1))).toArray
      exact bodyPost_ret (v := agg32 (sha (L92 ++ D1))) (results_cell_row rfl _ _ R _ _ _ _ rfl hR12 Try.underlying22 rfl (info32 _)) rfl ⟨by rw [HM.out], v12⟩)

end Go.Proofs.Ytppbaahaegmgeaa
