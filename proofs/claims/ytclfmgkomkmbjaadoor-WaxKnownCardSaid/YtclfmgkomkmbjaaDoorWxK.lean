/- WaxKnown: the walk. -/
import Derived.Test.YtclfmgkomkmbjaaDoorWxF
import Derived.Laws.IdiomStrings
namespace Go.Proofs.YtclfmgkomkmbjaaDoor
open Go.RowKit

/-- Bytes of a text. -/
theorem sconv (w : World) (s : ByteArray) (xs : List Int) (hx : s.data.toList.map (fun b => (b.toNat : Int)) = xs) : ∃ W c, (convert 9 22 (.string s)).run Tryd.prog w = .ok (.slice (some ⟨w.heap.size, 0, none⟩) xs.length c) W ∧ ByAt W (some ⟨w.heap.size, 0, none⟩) xs ∧ Upd [] w W := by
  have hl : xs.length = s.size := by rw [← hx, List.length_map]; rfl
  have hr := run_bytes_of_string (P := Tryd.prog) w 9 22 5 s Tryd.underlying9 Tryd.underlying22 Tryd.underlying5
  rw [← hl] at hr
  refine ⟨_, _, hr, fun i x hi => ⟨w.heap.size, 0, rfl, ?_, ?_⟩, (Upd.refl [] w).drew.alloc _⟩
  · show w.heap.size < (w.drew.heap.push _).size
    show _ < (w.heap.push _).size
    simp
  · have hlt : i < s.data.size := by
      have := (List.getElem?_eq_some_iff.1 hi).1
      rw [hl] at this; exact this
    have hb := bytesRow_at s (grownCap w xs.length 0 5) i hlt
    have hc : (w.drew.alloc (.cells (bytesRow s (grownCap w xs.length 0 5)) 5 ((bytesRow s (grownCap w xs.length 0 5)).size, (bytesRow s (grownCap w xs.length 0 5)).size + 1))).cell? ⟨w.heap.size, 0 + i, none⟩ = (bytesRow s (grownCap w xs.length 0 5))[i]? := by
      have : (w.drew.alloc (.cells (bytesRow s (grownCap w xs.length 0 5)) 5 ((bytesRow s (grownCap w xs.length 0 5)).size, (bytesRow s (grownCap w xs.length 0 5)).size + 1))).heap[w.heap.size]? = some (.cells (bytesRow s (grownCap w xs.length 0 5)) 5 ((bytesRow s (grownCap w xs.length 0 5)).size, (bytesRow s (grownCap w xs.length 0 5)).size + 1)) := by
        show (w.heap.push _)[w.heap.size]? = _
        simp
      simp only [World.cell?, this, Nat.zero_add]
      rfl
    rw [hc, hb, ← hx] at *
    rw [List.getElem?_map, List.getElem?_eq_getElem (by simpa using hlt)] at hi
    simp only [Option.map_some, Option.some.injEq] at hi
    rw [← hi]
    simp

theorem rep_walk (b : UInt8) (n : Nat) (hn : n ≤ 1000) (w : World) : Calls Tryd.prog 16 #[.string ⟨#[b]⟩, .int .i64 n] w fun e w' => e = .returned (.string ⟨(Lib.repeatL [b] n).toArray⟩) ∧ Upd [] w w' :=
  (Tryd.strings_Repeat ⟨#[b]⟩ n w (by omega) (by show 1 * n ≤ _; omega)).mono fun e w' ⟨h1, h2⟩ => ⟨h1, Upd.of_below h2 (Nat.le_refl _) []⟩

theorem mac_a (w : World) (p q : Option Addr) (b c : Nat) (hk : ByAt w p (toI Ka)) (h1 : ByAt w q (toI Ma)) (T : TypeId) (h : Blk w b [.slice q 8 8] T) :
    Calls Tryd.prog 9 #[.slice p 20 c, .slice (some ⟨b, 0, none⟩) 1 1] w fun e w' => e = .returned (agg32 (mac (toI Ka) (toI Ma))) ∧ Upd [] w w' :=
  mac_walk w p (toI Ka) c hk (rng_toI Ka (by decide)) (by decide) (some ⟨b, 0, none⟩) [toI Ma] 1 (rows1 h h1 (rng_toI Ma (by decide)) (by decide)) (by decide) (by decide)
theorem mac_b (w : World) (p q : Option Addr) (b c : Nat) (hk : ByAt w p (toI Kb)) (h1 : ByAt w q (toI Mb)) (T : TypeId) (h : Blk w b [.slice q 28 28] T) :
    Calls Tryd.prog 9 #[.slice p 4 c, .slice (some ⟨b, 0, none⟩) 1 1] w fun e w' => e = .returned (agg32 (mac (toI Kb) (toI Mb))) ∧ Upd [] w w' :=
  mac_walk w p (toI Kb) c hk (rng_toI Kb (by decide)) (by decide) (some ⟨b, 0, none⟩) [toI Mb] 1 (rows1 h h1 (rng_toI Mb (by decide)) (by decide)) (by decide) (by decide)
theorem mac_c (w : World) (p q : Option Addr) (b c : Nat) (hk : ByAt w p (toI Kc)) (h1 : ByAt w q (toI Mc)) (T : TypeId) (h : Blk w b [.slice q 54 54] T) :
    Calls Tryd.prog 9 #[.slice p 131 c, .slice (some ⟨b, 0, none⟩) 1 1] w fun e w' => e = .returned (agg32 (mac (toI Kc) (toI Mc))) ∧ Upd [] w w' :=
  mac_walk w p (toI Kc) c hk (rng_toI Kc (by decide +kernel)) (by decide +kernel) (some ⟨b, 0, none⟩) [toI Mc] 1 (rows1 h h1 (rng_toI Mc (by decide)) (by decide)) (by decide) (by decide)
theorem mac_d (w : World) : Calls Tryd.prog 9 #[.slice none 0 0, .slice none 0 0] w fun e w' => e = .returned (agg32 (mac (toI Kd) (toI Md))) ∧ Upd [] w w' :=
  mac_walk w none [] 0 (ByAt.nil _ _) Rng.nil (by decide) none [] 0 (RowsAt.nil _ _) (by decide) (by decide)
theorem hexw_a (w : World) (h : w.cell? ⟨3, 15, none⟩ = some (.int .u8 4)) :
    Calls Tryd.prog 17 #[agg32 (mac (toI Ka) (toI Ma))] w fun e w' => e = .returned (.string Ta) ∧ Upd [] w w' := by
  rw [← hexa]; exact hex_walk w _ (mac_bd _ _) h
theorem hexw_b (w : World) (h : w.cell? ⟨3, 15, none⟩ = some (.int .u8 4)) :
    Calls Tryd.prog 17 #[agg32 (mac (toI Kb) (toI Mb))] w fun e w' => e = .returned (.string Tb) ∧ Upd [] w w' := by
  rw [← hexb]; exact hex_walk w _ (mac_bd _ _) h
theorem hexw_c (w : World) (h : w.cell? ⟨3, 15, none⟩ = some (.int .u8 4)) :
    Calls Tryd.prog 17 #[agg32 (mac (toI Kc) (toI Mc))] w fun e w' => e = .returned (.string Tc) ∧ Upd [] w w' := by
  rw [← hexc]; exact hex_walk w _ (mac_bd _ _) h
theorem hexw_d (w : World) (h : w.cell? ⟨3, 15, none⟩ = some (.int .u8 4)) :
    Calls Tryd.prog 17 #[agg32 (mac (toI Kd) (toI Md))] w fun e w' => e = .returned (.string Td) ∧ Upd [] w w' := by
  rw [← hexd]; exact hex_walk w _ (mac_bd _ _) h
theorem same_nil (w : World) : Calls Tryd.prog 14 #[.slice none 0 0, .slice none 0 0] w fun e w' => e = .returned (.bool true) ∧ Upd [] w w' := by
  have := same_walk w none [] 0 none [] 0 (ByAt.nil _ _) Rng.nil (ByAt.nil _ _) Rng.nil (by decide) (by decide)
  exact this

set_option maxRecDepth 100000 in
set_option maxHeartbeats 8000000 in
theorem known_walk (w : World) (h : w.cell? ⟨3, 15, none⟩ = some (.int .u8 4)) :
    Calls Tryd.prog 7 #[] w fun e w' => e = .returned (.bool true) ∧ Upd [] w w' := by
  have hlt : 3 < w.heap.size := lt_of_cell h
  have hr1 := rep_walk 170 131 (by decide)
  have hr2 := rep_walk 11 20 (by decide)
  have hs1 : ∀ w : World, ∃ W c, (convert 9 22 (.string ⟨(Lib.repeatL [170] 131).toArray⟩)).run Tryd.prog w = .ok (.slice (some ⟨w.heap.size, 0, none⟩) 131 c) W ∧ ByAt W (some ⟨w.heap.size, 0, none⟩) (toI Kc) ∧ Upd [] w W := fun w => sconv w ⟨(Lib.repeatL [170] 131).toArray⟩ (toI Kc) (by decide +kernel)
  have hs2 : ∀ w : World, ∃ W c, (convert 9 22 (.string ⟨(Lib.repeatL [11] 20).toArray⟩)).run Tryd.prog w = .ok (.slice (some ⟨w.heap.size, 0, none⟩) 20 c) W ∧ ByAt W (some ⟨w.heap.size, 0, none⟩) (toI Ka) ∧ Upd [] w W := fun w => sconv w ⟨(Lib.repeatL [11] 20).toArray⟩ (toI Ka) (by decide +kernel)
  generalize (⟨(Lib.repeatL [170] 131).toArray⟩ : ByteArray) = S1 at *
  generalize (⟨(Lib.repeatL [11] 20).toArray⟩ : ByteArray) = S2 at *
  have hma := mac_a
  have hha := hexw_a
  generalize agg32 (mac (toI Ka) (toI Ma)) = va at hma hha
  unfold Ta at hha
  have hmb := mac_b
  have hhb := hexw_b
  generalize agg32 (mac (toI Kb) (toI Mb)) = vb at hmb hhb
  unfold Tb at hhb
  have hmc := mac_c
  have hhc := hexw_c
  generalize agg32 (mac (toI Kc) (toI Mc)) = vc at hmc hhc
  unfold Tc at hhc
  have hmd := mac_d
  have hhd := hexw_d
  generalize agg32 (mac (toI Kd) (toI Md)) = vd at hmd hhd
  unfold Td at hhd
  go_enter Tryd.func7, Tryd.ntmps7
  go_wp2_with (go_at_call 16; refine (hr1 _).mono ?_; rintro e w1 ⟨rfl, t1⟩)
  obtain ⟨W2, c2, e2, a2, v2⟩ := hs1 w1
  rw [e2]
  have t2 := t1.trans_nil v2
  clear e2 hs1 v2 t1 hr1
  obtain ⟨q2, hq2⟩ : ∃ q, w1.heap.size = q := ⟨_, rfl⟩
  rw [hq2] at a2 ⊢
  clear hq2
  go_wp2_with (go_at_call 16; refine (hr2 _).mono ?_; rintro e w3 ⟨rfl, u3⟩)
  obtain ⟨W4, c4, e4, a4, v4⟩ := hs2 w3
  rw [e4]
  have t4 := (t2.trans_nil u3).trans_nil v4
  have a2 := (a2.upd_nil u3).upd_nil v4
  clear e4 hs2 v4 u3 t2 hr2
  obtain ⟨q4, hq4⟩ : ∃ q, w3.heap.size = q := ⟨_, rfl⟩
  rw [hq4] at a4 ⊢
  clear hq4
  go_wp2_with fail
  obtain ⟨W5, e0, a5, u5⟩ := kconv2 W4 (toI Ma)
  have e1 : (convert 22 22 (.slice (some ⟨W4.heap.size, 0, none⟩) 8 8)).run Tryd.prog (W4.alloc (.cells #[.int .u8 72, .int .u8 105, .int .u8 32, .int .u8 84, .int .u8 104, .int .u8 101, .int .u8 114, .int .u8 101] 5)) = .ok (.slice (some ⟨W4.heap.size, 0, none⟩) 8 8) W5 := e0
  rw [e1]
  clear e1 e0
  obtain ⟨q5, hq5⟩ : ∃ q, W4.heap.size = q := ⟨_, rfl⟩
  rw [hq5] at a5 ⊢
  clear hq5
  have a2 := a2.upd_nil u5
  have a4 := a4.upd_nil u5
  have t5 := t4.trans_nil u5
  clear u5 t4
  have hB := Blk.new W5 #[.slice (some ⟨q5, 0, none⟩) 8 8] 22
  have uB := (Upd.refl [] W5).alloc (.cells #[.slice (some ⟨q5, 0, none⟩) 8 8] 22)
  have a2 := a2.upd_nil uB
  have a4 := a4.upd_nil uB
  have a5 := a5.upd_nil uB
  have tB := t5.trans_nil uB
  clear uB t5
  have hmm := hma _ _ _ _ c4 a4 a5 _ hB
  go_wp2_with (first
    | (go_at_call 17; refine (hha _ h6).mono ?_; rintro e w7 ⟨rfl, z7⟩; have t7 := y6.trans_nil z7)
    | (go_at_call 9; refine hmm.mono ?_; rintro e w6 ⟨rfl, z6⟩; have y6 := tB.trans_nil z6; have h6 := (y6.cell hlt (by simp)).trans h))
  have a2 := (a2.upd_nil z6).upd_nil z7
  clear z6 z7 y6 tB hB hmm hma hha h6
  obtain ⟨W8, e0, a8, u8⟩ := kconv2 w7 (toI Kb)
  have e1 : (convert 22 22 (.slice (some ⟨w7.heap.size, 0, none⟩) 4 4)).run Tryd.prog (w7.alloc (.cells #[.int .u8 74, .int .u8 101, .int .u8 102, .int .u8 101] 5)) = .ok (.slice (some ⟨w7.heap.size, 0, none⟩) 4 4) W8 := e0
  rw [e1]
  clear e1 e0
  obtain ⟨q8, hq8⟩ : ∃ q, w7.heap.size = q := ⟨_, rfl⟩
  rw [hq8] at a8 ⊢
  clear hq8
  have a2 := a2.upd_nil u8
  have t8 := t7.trans_nil u8
  clear u8 t7
  go_wp2_with fail
  obtain ⟨W9, e0, a9, u9⟩ := kconv2 W8 (toI Mb)
  have e1 : (convert 22 22 (.slice (some ⟨W8.heap.size, 0, none⟩) 28 28)).run Tryd.prog (W8.alloc (.cells #[.int .u8 119, .int .u8 104, .int .u8 97, .int .u8 116, .int .u8 32, .int .u8 100, .int .u8 111, .int .u8 32, .int .u8 121, .int .u8 97, .int .u8 32, .int .u8 119, .int .u8 97, .int .u8 110, .int .u8 116, .int .u8 32, .int .u8 102, .int .u8 111, .int .u8 114, .int .u8 32, .int .u8 110, .int .u8 111, .int .u8 116, .int .u8 104, .int .u8 105, .int .u8 110, .int .u8 103, .int .u8 63] 5)) = .ok (.slice (some ⟨W8.heap.size, 0, none⟩) 28 28) W9 := e0
  rw [e1]
  clear e1 e0
  obtain ⟨q9, hq9⟩ : ∃ q, W8.heap.size = q := ⟨_, rfl⟩
  rw [hq9] at a9 ⊢
  clear hq9
  have a2 := a2.upd_nil u9
  have a8 := a8.upd_nil u9
  have t9 := t8.trans_nil u9
  clear u9 t8
  have hB := Blk.new W9 #[.slice (some ⟨q9, 0, none⟩) 28 28] 22
  have uB := (Upd.refl [] W9).alloc (.cells #[.slice (some ⟨q9, 0, none⟩) 28 28] 22)
  have a2 := a2.upd_nil uB
  have a8 := a8.upd_nil uB
  have a9 := a9.upd_nil uB
  have tB := t9.trans_nil uB
  clear uB t9
  have hmm := hmb _ _ _ _ 4 a8 a9 _ hB
  go_wp2_with (first
    | (go_at_call 17; refine (hhb _ h10).mono ?_; rintro e w11 ⟨rfl, z11⟩; have t11 := y10.trans_nil z11)
    | (go_at_call 9; refine hmm.mono ?_; rintro e w10 ⟨rfl, z10⟩; have y10 := tB.trans_nil z10; have h10 := (y10.cell hlt (by simp)).trans h))
  have a2 := (a2.upd_nil z10).upd_nil z11
  clear z10 z11 y10 tB hB hmm hmb hhb h10
  obtain ⟨W12, e0, a12, u12⟩ := kconv2 w11 (toI Mc)
  have e1 : (convert 22 22 (.slice (some ⟨w11.heap.size, 0, none⟩) 54 54)).run Tryd.prog (w11.alloc (.cells #[.int .u8 84, .int .u8 101, .int .u8 115, .int .u8 116, .int .u8 32, .int .u8 85, .int .u8 115, .int .u8 105, .int .u8 110, .int .u8 103, .int .u8 32, .int .u8 76, .int .u8 97, .int .u8 114, .int .u8 103, .int .u8 101, .int .u8 114, .int .u8 32, .int .u8 84, .int .u8 104, .int .u8 97, .int .u8 110, .int .u8 32, .int .u8 66, .int .u8 108, .int .u8 111, .int .u8 99, .int .u8 107, .int .u8 45, .int .u8 83, .int .u8 105, .int .u8 122, .int .u8 101, .int .u8 32, .int .u8 75, .int .u8 101, .int .u8 121, .int .u8 32, .int .u8 45, .int .u8 32, .int .u8 72, .int .u8 97, .int .u8 115, .int .u8 104, .int .u8 32, .int .u8 75, .int .u8 101, .int .u8 121, .int .u8 32, .int .u8 70, .int .u8 105, .int .u8 114, .int .u8 115, .int .u8 116] 5)) = .ok (.slice (some ⟨w11.heap.size, 0, none⟩) 54 54) W12 := e0
  rw [e1]
  clear e1 e0
  obtain ⟨q12, hq12⟩ : ∃ q, w11.heap.size = q := ⟨_, rfl⟩
  rw [hq12] at a12 ⊢
  clear hq12
  have a2 := a2.upd_nil u12
  have t12 := t11.trans_nil u12
  clear u12 t11
  have hB := Blk.new W12 #[.slice (some ⟨q12, 0, none⟩) 54 54] 22
  have uB := (Upd.refl [] W12).alloc (.cells #[.slice (some ⟨q12, 0, none⟩) 54 54] 22)
  have a2 := a2.upd_nil uB
  have a12 := a12.upd_nil uB
  have tB := t12.trans_nil uB
  clear uB t12
  have hmm := hmc _ _ _ _ c2 a2 a12 _ hB
  go_wp2_with (first
    | (go_at_call 14; refine (same_nil _).mono ?_; rintro e w30 ⟨rfl, z30⟩; have t30 := t29.trans_nil z30)
    | (go_at_call 8; refine (works_walk _ h28).mono ?_; rintro e w29 ⟨rfl, z29⟩; have t29 := t28.trans_nil z29)
    | (go_at_call 17; refine (hhd _ h27).mono ?_; rintro e w28 ⟨rfl, z28⟩; have t28 := t27.trans_nil z28; have h28 := (t28.cell hlt (by simp)).trans h)
    | (go_at_call 9; have tok := t14; refine (hmd _).mono ?_; rintro e w27 ⟨rfl, z27⟩; have t27 := tok.trans_nil z27; have h27 := (t27.cell hlt (by simp)).trans h)
    | (go_at_call 17; refine (hhc _ h13).mono ?_; rintro e w14 ⟨rfl, z14⟩; have t14 := y13.trans_nil z14)
    | (go_at_call 9; refine hmm.mono ?_; rintro e w13 ⟨rfl, z13⟩; have y13 := tB.trans_nil z13; have h13 := (y13.cell hlt (by simp)).trans h))
  go_ret
  exact ⟨rfl, t30⟩

end Go.Proofs.YtclfmgkomkmbjaaDoor
