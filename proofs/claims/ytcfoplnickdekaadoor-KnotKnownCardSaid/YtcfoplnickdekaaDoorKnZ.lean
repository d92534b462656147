/- KnotKnown: the walk. -/
import Derived.Test.YtcfoplnickdekaaDoorKnY
namespace Go.Proofs.YtcfoplnickdekaaDoor
open Go.RowKit

set_option maxRecDepth 100000 in
set_option maxHeartbeats 40000000 in
theorem kknown_walk (w : World) (h : w.cell? ⟨3, 15, none⟩ = some (.int .u8 4)) : Calls Tryd.prog 6 #[] w fun e w' => e = .returned (.bool true) ∧ Upd [] w w' := by
  have hlt : 3 < w.heap.size := lt_of_cell h
  have hz : ∀ w : World, (zeroValue 28).run Tryd.prog w = .ok (.agg (row32 fun _ => 0).toArray) w := fun w => by kernel_rfl
  -- what is known
  have hx2 : ∀ W, Upd [] w W → Calls Tryd.prog 17 #[agg32 (sha (toI L2))] W fun e w' => e = .returned (.string t2k) ∧ Upd [] W w' := fun W u => by
    rw [← hex_2]; exact hex_walk W _ (sha_bd _) ((u.cell hlt (by simp)).trans h)
  have hx3 : ∀ W, Upd [] w W → Calls Tryd.prog 17 #[agg32 (sha (allI 97 1000000))] W fun e w' => e = .returned (.string t3k) ∧ Upd [] W w' := fun W u => by
    rw [← hex_3]; exact hex_walk W _ (sha_bd _) ((u.cell hlt (by simp)).trans h)
  have hwk : ∀ W, Upd [] w W → Calls Tryd.prog 7 #[] W fun e w' => e = .returned (.bool true) ∧ Upd [] W w' := fun W u => works_walk W ((u.cell hlt (by simp)).trans h)
  clear h hlt
  obtain ⟨W1, e1, a1, u1⟩ := kconv2K w (toI L2)
  have hcv : (convert 26 26 (.slice (some ⟨w.heap.size, 0, none⟩) 56 56)).run Tryd.prog (w.alloc (.cells #[.int .u8 97, .int .u8 98, .int .u8 99, .int .u8 100, .int .u8 98, .int .u8 99, .int .u8 100, .int .u8 101, .int .u8 99, .int .u8 100, .int .u8 101, .int .u8 102, .int .u8 100, .int .u8 101, .int .u8 102, .int .u8 103, .int .u8 101, .int .u8 102, .int .u8 103, .int .u8 104, .int .u8 102, .int .u8 103, .int .u8 104, .int .u8 105, .int .u8 103, .int .u8 104, .int .u8 105, .int .u8 106, .int .u8 104, .int .u8 105, .int .u8 106, .int .u8 107, .int .u8 105, .int .u8 106, .int .u8 107, .int .u8 108, .int .u8 106, .int .u8 107, .int .u8 108, .int .u8 109, .int .u8 107, .int .u8 108, .int .u8 109, .int .u8 110, .int .u8 108, .int .u8 109, .int .u8 110, .int .u8 111, .int .u8 109, .int .u8 110, .int .u8 111, .int .u8 112, .int .u8 110, .int .u8 111, .int .u8 112, .int .u8 113] 5)) = .ok (.slice (some ⟨w.heap.size, 0, none⟩) 56 56) W1 := e1
  have hof : Calls Tryd.prog 11 #[.slice (some ⟨w.heap.size, 0, none⟩) 56 56] W1 fun e w' => e = .returned (agg32 (sha (toI L2))) ∧ Upd [] W1 w' := of_walk W1 _ (toI L2) 56 a1 (fun x hx => by
    obtain ⟨n, hn, rfl⟩ := List.mem_map.1 hx
    have : n < 256 := by simpa using List.all_eq_true.1 (show L2.all (· < 256) = true by decide) n hn
    omega) (by decide)
  clear e1 a1
  generalize agg32 (sha (toI L2)) = v2 at *
  unfold t2k at hx2
  unfold t3k at hx3
  go_enter Tryd.func6, Tryd.ntmps6
  go_upto_region 2 with (first
    | (go_at_call 11; refine hof.mono ?_; rintro e W2 ⟨rfl, u2⟩)
    | (go_at_call 17; refine (hx2 W2 (u1.trans_nil u2)).mono ?_; rintro e W3 ⟨rfl, u3⟩))
  have t3 := (u1.trans_nil u2).trans_nil u3
  clear hx2 hof hcv u1 u2 u3
  go_upto_region 3 with (go_at_call 8; refine (new_walk W3).mono ?_; rintro e W4 ⟨kb, rfl, hkb, u4, hKn⟩)
  have t4 := t3.trans_nil u4
  have hkw : w.heap.size ≤ kb := Nat.le_trans t3.size hkb
  clear t3 u4 hkb
  -- a million bytes
  obtain ⟨s, hs⟩ : ∃ s : ByteArray, ⟨(List.replicate 1000 97).toArray⟩ = s := ⟨_, rfl⟩
  have hR : ∀ W, Calls Tryd.prog 18 #[.string ⟨#[97]⟩, .int .i64 1000] W fun e w' => e = .returned (.string s) ∧ Upd [] W w' := fun W => by
    rw [← hs]; exact rep_bytes 97 1000 W (by omega)
  have hC := fun W => rconv W 97 1000
  rw [hs] at hC
  clear hs
  have h97 : (97 : UInt8).toNat = 97 := rfl
  have h98 : (98 : UInt8).toNat = 98 := rfl
  rw [h97] at hC
  go_wp2_with fail
  go_loopw [3] (fun iv wr => ∃ ni : Nat, ni ≤ 1000 ∧ iv = .int .i64 (ni : Int) ∧ (∃ B, KnotAt wr B kb (allI 97 (1000 * ni))) ∧ Upd [] w wr) (fun iv _ => 1000 - (intOf iv).toNat)
  case atStart => exact ⟨0, by omega, rfl, ⟨0, hKn 0⟩, t4⟩
  case round =>
    clear hKn t4
    obtain ⟨ni, hni, rfl, ⟨B, hK⟩, hu⟩ := hrel
    obtain ⟨wo, rfl⟩ : ∃ wo, wo = wr := ⟨_, rfl⟩
    have i0 : (0 : Int) ≤ ni := by omega
    rcases Nat.lt_or_ge ni 1000 with hlt | hge
    · have i1 : (ni : Int) < 1000 := by omega
      go_upto_region 6 with fail
      have hRw := hR wo
      go_upto_region 5 with (first
        | (go_at_call 18; refine hRw.mono ?_; rintro e wa ⟨rfl, ua⟩; obtain ⟨wb, cb, hcv, ab, lb, ub⟩ := hC wa; have hadd := add_walk ((hK.upd_nil ua).upd_nil ub) _ (allI 97 1000) cb ab (allI_rng 97 1000 (by omega)) (by rw [allI_len, allI_len]; omega); rw [allI_len, allI_add, show 1000 * ni + 1000 = 1000 * (ni + 1) by omega] at hadd)
        | (go_at_call 9; refine hadd.mono ?_; rintro e wc ⟨rfl, uc, hKc⟩))
      have hu2 := ((hu.trans_nil ua).trans_nil ub).trans_nil' uc (by simpa using hkw)
      clear hR hC hRw hadd ua ub uc hu hK
      go_wp2_with fail
      exact ⟨⟨ni + 1, by omega, by go_num, ⟨_, hKc⟩, hu2⟩, by simp [intOf]; omega⟩
    · have i1 : (1000 : Int) ≤ ni := by omega
      rw [show 1000 * ni = 1000000 by omega] at hK
      clear hR hC s
      have hML := allI_len 97 1000000
      generalize allI 97 1000000 = LM at *
      have htie := fun (W : World) (u : Upd [] wo W) => tie_end (hK.upd_nil u) (by rw [hML]; omega)
      have hln : ∀ W, Upd [] wo W → Calls Tryd.prog 14 #[.pointer (some ⟨kb, 0, none⟩)] W fun e w' => e = .returned (.int .i64 1000000) ∧ Upd [] W w' := fun W u => by
        have := len_walk (hK.upd_nil u)
        rw [hML] at this
        exact this.mono fun e w' ⟨h1, h2⟩ => ⟨h1, h2 ▸ Upd.refl [] _⟩
      generalize agg32 (sha LM) = v3 at *
      clear hK hML
      obtain ⟨W5, rfl⟩ : ∃ W5, W5 = wo := ⟨_, rfl⟩
      go_upto_region 8 with (first
        | (go_at_call 10; refine (htie W5 (Upd.refl [] _)).mono ?_; rintro e W6 ⟨rfl, u6⟩)
        | (go_at_call 17; refine (hx3 W6 (hu.trans_nil u6)).mono ?_; rintro e W7 ⟨rfl, u7⟩)
        | (go_at_call 14; refine (hln W7 (u6.trans_nil u7)).mono ?_; rintro e W8 ⟨rfl, u8⟩))
      have t8 := ((hu.trans_nil u6).trans_nil u7).trans_nil u8
      clear htie hln hx3 u6 u7 u8 hu hni hge i0 i1
      go_upto_region 9 with (go_at_call 8; refine (new_walk W8).mono ?_; rintro e W9 ⟨kc, rfl, hkc, u9, hKn⟩)
      have t9 := t8.trans_nil u9
      have hkx : w.heap.size ≤ kc := Nat.le_trans t8.size hkc
      clear t8 u9 hkc
      go_wp2_with fail
      go_loopw [6] (fun iv wr => ∃ nj : Nat, nj ≤ 200 ∧ iv = .int .i64 (nj : Int) ∧ (∃ B, KnotAt wr B kc (allI 98 nj)) ∧ Upd [] w wr) (fun iv _ => 200 - (intOf iv).toNat)
      case atStart => exact ⟨0, by omega, rfl, ⟨0, hKn 0⟩, t9⟩
      case round =>
        clear hKn t9
        obtain ⟨nj, hnj, rfl, ⟨B, hK⟩, hu⟩ := hrel
        obtain ⟨wo, rfl⟩ : ∃ wo, wo = wr := ⟨_, rfl⟩
        have i0 : (0 : Int) ≤ nj := by omega
        rcases Nat.lt_or_ge nj 200 with hlt | hge
        · have i1 : (nj : Int) < 200 := by omega
          obtain ⟨s, hs⟩ : ∃ s : ByteArray, ⟨(List.replicate nj 98).toArray⟩ = s := ⟨_, rfl⟩
          have hR : ∀ W, Calls Tryd.prog 18 #[.string ⟨#[98]⟩, .int .i64 (nj : Int)] W fun e w' => e = .returned (.string s) ∧ Upd [] W w' := fun W => by
            rw [← hs]; exact rep_bytes 98 nj W (by omega)
          have hC := fun W => rconv W 98 nj
          rw [hs] at hC
          clear hs
          rw [h98] at hC
          have htie := tie_end hK (by rw [allI_len]; omega)
          have hof := fun (W : World) (p : Option Addr) (c : Nat) (a : ByAt W p (allI 98 nj)) => of_walk W p (allI 98 nj) c a (allI_rng 98 nj (by omega)) (by rw [allI_len]; omega)
          rw [allI_len] at hof
          have heq := fun w : World => eq_same w (sha (allI 98 nj))
          have hadd := fun (W W' : World) (u : Upd [] wo W) (p : Option Addr) (c : Nat) (a : ByAt W p [98]) => add_walk (hK.upd_nil u) p [98] c a (allI_rng 98 1 (by omega)) (by rw [allI_len]; show nj + 1 ≤ _; omega)
          have e98 : allI 98 nj ++ [98] = allI 98 (nj + 1) := allI_add 98 nj 1
          rw [e98] at hadd
          clear e98
          unfold agg32 at htie hof
          generalize sha (allI 98 nj) = F at htie hof heq
          go_upto_region 12 with fail
          go_upto_region 14 with (first
            | (go_at_call 10; refine htie.mono ?_; rintro e wa ⟨rfl, ua⟩)
            | (go_at_call 18; refine (hR wa).mono ?_; rintro e wb ⟨rfl, ub⟩; obtain ⟨wc, cc, hcv, ac, lc, uc⟩ := hC wb)
            | (go_at_call 11; refine (hof wc _ cc ac).mono ?_; rintro e wd ⟨rfl, ud⟩))
          obtain ⟨we, e30, a3, ue⟩ := kconv2K wd [98]
          have hcv2 : (convert 26 26 (.slice (some ⟨wd.heap.size, 0, none⟩) 1 1)).run Tryd.prog (wd.alloc (.cells #[.int .u8 98] 5)) = .ok (.slice (some ⟨wd.heap.size, 0, none⟩) 1 1) we := e30
          have v5 := (((ua.trans_nil ub).trans_nil uc).trans_nil ud).trans_nil ue
          clear htie hR hC hof heq e30 hcv ac lc ua ub uc ud ue
          go_upto_region 11 with (go_at_call 9; refine (hadd we we v5 _ 1 a3).mono ?_; rintro e wf ⟨rfl, uf, hKf⟩)
          have hu2 := (hu.trans_nil v5).trans_nil' uf (by simpa using hkx)
          clear hadd hcv2 v5 uf hu hK a3
          go_wp2_with fail
          exact ⟨⟨nj + 1, by omega, by go_num, ⟨_, hKf⟩, hu2⟩, by simp [intOf]; omega⟩
        · have i1 : (200 : Int) ≤ nj := by omega
          clear hK hge hnj
          obtain ⟨W10, rfl⟩ : ∃ W10, W10 = wo := ⟨_, rfl⟩
          go_wp2_with fail
          go_loopw [7, 8] (fun nv iv wr => ∃ nk : Nat, nk ≤ 2 ∧ iv = .int .i64 (nk : Int) ∧ NoneAt wr nv ∧ Upd [] w wr) (fun _ iv _ => 2 - (intOf iv).toNat)
          case atStart => exact ⟨0, by omega, rfl, .inl rfl, hu⟩
          case round =>
            clear hu
            obtain ⟨nk, hnk, rfl, hN, hu⟩ := hrel
            obtain ⟨wo, rfl⟩ : ∃ wo, wo = wr := ⟨_, rfl⟩
            have i0 : (0 : Int) ≤ nk := by omega
            rcases Nat.lt_or_ge nk 2 with hlt | hge
            · have i1 : (nk : Int) < 2 := by omega
              obtain ⟨wa, e40, aa, ua⟩ := kconv2K wo [120]
              have hcv : (convert 26 26 (.slice (some ⟨wo.heap.size, 0, none⟩) 1 1)).run Tryd.prog (wo.alloc (.cells #[.int .u8 120] 5)) = .ok (.slice (some ⟨wo.heap.size, 0, none⟩) 1 1) wa := e40
              have hadd := add_none (hN.upd ua) (.slice (some ⟨wo.heap.size, 0, none⟩) 1 1)
              have htie := fun (W : World) (u : Upd [] wa W) => tie_none (hN.upd (ua.trans_nil u))
              have hln := fun (W : World) (u : Upd [] wa W) => len_none (hN.upd (ua.trans_nil u))
              have heq := fun w : World => eq_same w (fun _ => 0)
              unfold agg32 at htie
              clear e40 aa
              go_upto_region 19 with fail
              go_upto_region 22 with (first
                | (go_at_call 9; refine hadd.mono ?_; rintro e wb ⟨rfl, ub⟩)
                | (go_at_call 10; refine (htie wb ub).mono ?_; rintro e wc ⟨rfl, uc⟩)
                | (go_at_call 14; refine (hln wc (ub.trans_nil uc)).mono ?_; rintro e wd ⟨rfl, ud⟩))
              have hu2 := (((hu.trans_nil ua).trans_nil ub).trans_nil uc).trans_nil ud
              clear hadd htie hln heq hcv ua ub uc ud hu hN
              go_wp2_with fail
              exact ⟨⟨nk + 1, by omega, by go_num, .inr ⟨wd.heap.size, rfl, by simp, by simp [World.cell?, World.alloc, -World.alloc_eq]⟩, hu2.alloc _⟩, by simp [intOf]; omega⟩
            · have i1 : (2 : Int) ≤ nk := by omega
              have hw := hwk wo hu
              clear hge hnk hN
              go_wp2_with (go_at_call 7; refine hw.mono ?_; rintro e w11 ⟨rfl, u11⟩)
              go_ret
              exact ⟨rfl, hu.trans_nil u11⟩

end Go.Proofs.YtcfoplnickdekaaDoor
