/- RoadOnce: the walk. -/
import Derived.Test.YtceeekdephgcmaaRdK
import Derived.Deep.RegionLaw
namespace Go.Proofs.Ytceeekdephgcmaa
open Go.RowKit

theorem one_info : (Try.prog.info? 35).map (fun i => (i.zero, i.size, i.bytes)) = some (some (.agg #[.int .i64 0, .int .u8 0]), 2, 16) := by kernel_rfl

theorem wrap_byte (n : Nat) (h : n < 60) : IntKind.u8.wrap (n : Int) = n := by
  rw [IntKind.wrap_u8]; omega

theorem kstr2 (w : World) (x y : Int) (n : Nat) (hn : n = w.heap.size) : (convert 26 9 (.slice (some ⟨n, 0, none⟩) 2 2)).run Try.prog (w.alloc (.cells #[.int .u8 x, .int .u8 y] 5)) = .ok (.string (strOfNums [x, y])) (w.alloc (.cells #[.int .u8 x, .int .u8 y] 5)) := by
  subst hn
  refine run_convert_bytes_arg _ 26 5 Try.underlying26 Try.underlying5 w.heap.size 0 2 2 [x, y] rfl (fun i hi => ?_) _ Try.underlying9
  rw [cell_of_row _ w.heap.size _ _ _ _ (heap_alloc_new w _)]
  match i, hi with
  | 0, _ => rfl
  | 1, _ => rfl

theorem bytes2 (w : World) (x y : Int) (hx : 0 ≤ x ∧ x ≤ 255) (hy : 0 ≤ y ∧ y ≤ 255) (n : Nat) (hn : n = w.heap.size) (T : TypeId) : BytesAt (w.alloc (.cells #[.int .u8 x, .int .u8 y] T)) (.slice (some ⟨n, 0, none⟩) 2 2) [x, y] := by
  subst hn
  refine ⟨by simp; omega, .inr ⟨_, _, rfl, fun i hi => ?_⟩⟩
  rw [add_at0, cell_of_row _ w.heap.size _ _ _ _ (heap_alloc_new w _)]
  match i, hi with
  | 0, _ => rfl
  | 1, _ => rfl

set_option maxHeartbeats 2000000 in
set_option maxRecDepth 100000 in
theorem once_walk (q : Option Addr) (len cap : Nat) (w : World) (hd : DeedAt w w.heap.size q len) (hlen : len ≤ maxLen) :
    Calls Try.prog 3 #[.slice q len cap] w fun e w' => e = .returned (.bool true) ∧ Upd [] w w' := by
  have hlen' : len ≤ 9223372036854775807 := hlen
  obtain ⟨i0, hi, hz0, hz1, hz2⟩ := info_parts one_info
  go_enter Try.func3, Try.ntmps3
  go_wp2_with fail
  refine (newK w).mono ?_
  rintro e w1 ⟨rfl, hK1, hu1⟩
  have hs1 := hu1.size
  go_upto_block 0 with fail
  go_cut [4] (fun s4 wx => ∃ us : List One, us.length ≤ 60 ∧ OnceAt w wx s4 us us)
  case first =>
    go_wp2_with fail
    go_loopw [4, 5] (fun uv iv wr => ∃ (i : Nat) (us : List One), i ≤ 60 ∧ us.length ≤ i ∧ iv = .int .i64 i ∧ OnceAt w wr uv us us) (fun _ iv _ => 60 - (intOf iv).toNat)
    case atStart =>
      exact ⟨0, [], by omega, by simp, rfl, ⟨_, _, hK1, by simp⟩, World.ownsRow_nil _ _ _ _, by simp, hu1⟩
    case round =>
      obtain ⟨i, us, hi60, hul, rfl, hO⟩ := hrel
      obtain ⟨wo, rfl⟩ : ∃ wo, wo = wr := ⟨_, rfl⟩
      by_cases hil : i < len
      · by_cases hi6 : i < 60
        · obtain ⟨b, off, kd, a, y, c, dp, xs, dc, rfl, hb, c0, c1, c2, c3, c4, ⟨kd1, kd2⟩, ⟨a1, a2⟩, _, hcb, _⟩ := hd.upd (Nat.le_refl _) hO.upd i hil
          obtain ⟨k4, hk4⟩ : ∃ k4, kd % 4 = k4 := ⟨_, rfl⟩
          have hkb := bring_bd kd 4 (by omega)
          rw [hk4] at hkb
          go_wp2_with fail
          refine (bring_any kd 4 _ (by omega) (by omega) kd1 kd2).mono ?_
          rw [hk4]
          rintro e w2 ⟨rfl, rfl⟩
          have u2 := (Upd.refl [] wo).alloc (.cells #[.int .i64 kd, .int .i64 a, .int .i64 y, .int .u8 c, .slice dp xs.length dc] 28)
          have hB2 := Blk.new wo #[.int .i64 kd, .int .i64 a, .int .i64 y, .int .u8 c, .slice dp xs.length dc] 28
          by_cases h0 : k4 = 0
          · subst h0
            have e3 := wrap_byte i hi6
            go_wp2_with fail
            refine ((hO.next (u2.alloc _)).send i (by omega) _ (bytes2 _ i 7 (by omega) (by omega) _ (by simp) _)).mono ?_
            rintro e w3 ⟨rfl, hO3⟩
            have hO4 := hO3.next ((Upd.refl [] w3).alloc (.cells #[.int .i64 i, .int .u8 0] 35))
            go_wp2_with (at_builtin; refine wpList_append_any rfl _ _ 25 rfl w.heap.size 35 i0 _ 2 16 Try.underlying25 hi hz0 hz1 hz2 rfl (by decide) _ us.length (oneVals us) rfl hO4.row (some ⟨w3.heap.size, 0, none⟩) 1 1 [.int .i64 i, .int .u8 0] rfl rfl (.inr ⟨_, rfl, World.news_of_block (heap_alloc_new w3 _)⟩) (by simp [Value.oneCell']) (by simp only [maxLen]; omega) (by omega) hO4.upd.size ?_; rintro p' c' w5 hown5 hgrow hat)
            have hO5 := hO4.push (i, 0) ⟨hi6, by simp⟩ hown5 hgrow
            exact ⟨⟨i + 1, us ++ [(i, 0)], by omega, by simp; omega, by go_num, hO5⟩, by simp [intOf]; omega⟩
          · have h0' : (k4 == 0) = false := by simpa using h0
            by_cases hu0 : us.length = 0
            · obtain rfl : us = [] := List.eq_nil_of_length_eq_zero hu0
              obtain ⟨pu, cu, rfl⟩ := hO.form
              go_wp2_with fail
              exact ⟨⟨i + 1, [], by omega, by simp, by go_num, hO.next u2⟩, by simp [intOf]; omega⟩
            · obtain ⟨kz, hkz⟩ : ∃ kz, a % (us.length : Int) = kz := ⟨_, rfl⟩
              have hkzb := bring_bd a us.length (by omega)
              rw [hkz] at hkzb
              obtain ⟨k, rfl⟩ : ∃ k : Nat, kz = k := ⟨kz.toNat, by omega⟩
              have hkl : k < us.length := by omega
              obtain ⟨⟨n, y2⟩, hk⟩ : ∃ u, us[k]? = some u := ⟨_, List.getElem?_eq_getElem hkl⟩
              have hbd := hO.bd _ (List.mem_of_getElem? hk)
              dsimp only at hbd
              obtain ⟨g, cu, rfl, hcu, hg1, hg2, k0, k1, kf⟩ := hO.cells hk
              have hO2 := hO.next u2
              have r0 := (hO2.cells hk); obtain ⟨g', cu', hgg, _, _, _, r0, r1, _⟩ := r0
              simp only [Value.slice.injEq, Option.some.injEq, Addr.mk.injEq, and_true, true_and] at hgg
              obtain ⟨rfl, rfl⟩ := hgg
              have d1 := hB2.cell 1 rfl
              have hul0 : ((us.length : Int) == 0) = false := by rw [beq_eq_false_iff_ne]; omega
              clear k0 k1 kf
              go_wp2_with fail
              refine (bring_any a us.length _ (by omega) (by omega) a1 a2).mono ?_
              rw [hkz]
              rintro e w2 ⟨rfl, rfl⟩
              have u3 := (Upd.refl [] _).alloc (w := (wo.alloc (.cells #[.int .i64 kd, .int .i64 a, .int .i64 y, .int .u8 c, .slice dp xs.length dc] 28))) (.cells #[.int .i64 n, .int .u8 y2] 35)
              have hO3 := hO2.next u3
              have hB3 := hB2.upd_nil u3
              have hC3 := Blk.new (wo.alloc (.cells #[.int .i64 kd, .int .i64 a, .int .i64 y, .int .u8 c, .slice dp xs.length dc] 28)) #[.int .i64 n, .int .u8 y2] 35
              simp at hC3
              clear d1 hO2
              by_cases h1 : k4 = 1
              · subst h1
                have e3 := wrap_byte n hbd.1
                have hcv := kstr2 ((wo.alloc (.cells #[.int .i64 kd, .int .i64 a, .int .i64 y, .int .u8 c, .slice dp xs.length dc] 28)).alloc (.cells #[.int .i64 n, .int .u8 y2] 35)) n (bits BinOp.xor IntKind.u8 7 y2) (wo.heap.size + 1 + 1) (by simp)
                go_wp2_with fail
                refine ((hO3.next ((Upd.refl _ _).alloc _)).takes k (n, y2) hk).mono ?_
                rintro e w4 ⟨rfl, hO4⟩
                have s1 := hO4.srcTake k (by omega)
                obtain ⟨M, hM⟩ : ∃ M, us.length = k + 1 + M := ⟨us.length - (k + 1), by omega⟩
                by_cases hkc : k + 1 = cu
                · subst hkc
                  obtain rfl : M = 0 := by omega
                  go_upto_region 24 with (at_builtin; refine wpList_append_any rfl _ _ 25 rfl w.heap.size 35 i0 _ 2 16 Try.underlying25 hi hz0 hz1 hz2 rfl (by decide) _ 0 [] rfl (World.ownsRow_nil _ _ _ _) (some ⟨g, 0, none⟩) k (k + 1) (oneVals (us.take k)) rfl (by rw [oneVals_len, List.length_take]; omega) s1 (oneVals_one _) (by simp only [maxLen]; omega) (by omega) hO4.upd.size ?_; rintro p5 c5 w5 hown5 hgrow5 hat5; have hown5' : w5.ownsRow w.heap.size 35 2 (.slice p5 k c5) k (oneVals (us.take k)) := (by simpa using hown5); have hat5' : ∀ g, (Value.slice p5 k c5).ownBlock = some g → w4.heap.size ≤ g := (fun g hg => (hat5 g (by simpa using hg)).elim (fun e => by cases e) id); have u45 := (Upd.refl [] w4).grown hgrow5 (fun k hk => by cases hk); have sz5 := (hO4.next u45).upd.size; clear hown5 hat5 hgrow5)
                  go_wp2_with (at_builtin; refine wpList_append_any rfl _ _ 25 rfl w.heap.size 35 i0 _ 2 16 Try.underlying25 hi hz0 hz1 hz2 rfl (by decide) (.slice p5 k c5) k (oneVals (us.take k)) (by simp [Act.eval, Act.put]) hown5' (some ⟨g, 0, none⟩) 0 0 (oneVals (us.drop (k + 1))) (by simp [Act.eval, Act.put]) (by rw [oneVals_len, List.length_drop]; omega) (.inl rfl) (oneVals_one _) (by simp only [maxLen]; omega) (by omega) sz5 ?_; rintro p6 c6 w6 hown6 hgrow6 hat6)
                  have u46 := u45.grown hgrow6 (fun g hg => .inr (hat5' g hg))
                  have hle : (us.eraseIdx k).length = k + 0 := by rw [List.length_eraseIdx_of_lt hkl]; omega
                  rw [oneVals_erase] at hown6
                  have hO6 := hO4.swap (us' := us.eraseIdx k) u46 (by rw [hle]; exact hown6) (fun v hv => List.mem_of_mem_eraseIdx hv)
                  exact ⟨⟨i + 1, us.eraseIdx k, by omega, by omega, by go_num, hO6⟩, by simp [intOf]; omega⟩
                · go_upto_region 24 with (at_builtin; refine wpList_append_any rfl _ _ 25 rfl w.heap.size 35 i0 _ 2 16 Try.underlying25 hi hz0 hz1 hz2 rfl (by decide) _ 0 [] rfl (World.ownsRow_nil _ _ _ _) (some ⟨g, 0, none⟩) k cu (oneVals (us.take k)) rfl (by rw [oneVals_len, List.length_take]; omega) s1 (oneVals_one _) (by simp only [maxLen]; omega) (by omega) hO4.upd.size ?_; rintro p5 c5 w5 hown5 hgrow5 hat5; have hown5' : w5.ownsRow w.heap.size 35 2 (.slice p5 k c5) k (oneVals (us.take k)) := (by simpa using hown5); have hat5' : ∀ g, (Value.slice p5 k c5).ownBlock = some g → w4.heap.size ≤ g := (fun g hg => (hat5 g (by simpa using hg)).elim (fun e => by cases e) id); have u45 := (Upd.refl [] w4).grown hgrow5 (fun k hk => by cases hk); have s2 := (hO4.next u45).srcDrop (k + 1) M (by omega); have sz5 := (hO4.next u45).upd.size; clear hown5 hat5 hgrow5)
                  go_wp2_with (at_builtin; refine wpList_append_any rfl _ _ 25 rfl w.heap.size 35 i0 _ 2 16 Try.underlying25 hi hz0 hz1 hz2 rfl (by decide) (.slice p5 k c5) k (oneVals (us.take k)) (by simp [Act.eval, Act.put]) hown5' (some ⟨g, (k + 1) * 2, none⟩) M (cu - (k + 1)) (oneVals (us.drop (k + 1))) (by simp [Act.eval, Act.put]) (by rw [oneVals_len, List.length_drop]; omega) s2 (oneVals_one _) (by simp only [maxLen]; omega) (by omega) sz5 ?_; rintro p6 c6 w6 hown6 hgrow6 hat6)
                  have u46 := u45.grown hgrow6 (fun g hg => .inr (hat5' g hg))
                  have hle : (us.eraseIdx k).length = k + M := by rw [List.length_eraseIdx_of_lt hkl]; omega
                  rw [oneVals_erase] at hown6
                  have hO6 := hO4.swap (us' := us.eraseIdx k) u46 (by rw [hle]; exact hown6) (fun v hv => List.mem_of_mem_eraseIdx hv)
                  exact ⟨⟨i + 1, us.eraseIdx k, by omega, by omega, by go_num, hO6⟩, by simp [intOf]; omega⟩
              · have h1' : (k4 == 1) = false := by simpa using h1
                by_cases h2 : k4 = 2
                · subst h2
                  go_wp2_with fail
                  refine (hO3.dbl k (n, y2) hk (by omega)).mono ?_
                  rintro e w4 ⟨rfl, hO4, hkp⟩
                  have hC4 := hkp _ _ _ hC3 (by decide)
                  have q0 := hC4.cell 0 rfl
                  have q1 := hC4.cell 1 rfl
                  have hO5 := hO4.next ((Upd.refl [] w4).alloc (.cells #[.int .i64 n, .int .u8 y2] 35))
                  go_wp2_with (at_builtin; refine wpList_append_any rfl _ _ 25 rfl w.heap.size 35 i0 _ 2 16 Try.underlying25 hi hz0 hz1 hz2 rfl (by decide) _ us.length (oneVals us) rfl hO5.row (some ⟨w4.heap.size, 0, none⟩) 1 1 [.int .i64 n, .int .u8 y2] rfl rfl (.inr ⟨_, rfl, World.news_of_block (heap_alloc_new w4 _)⟩) (by simp [Value.oneCell']) (by simp only [maxLen]; omega) (by omega) hO5.upd.size ?_; rintro p' c' w6 hown6 hgrow hat)
                  have hO6 := hO5.push (n, y2) hbd hown6 hgrow
                  exact ⟨⟨i + 1, us ++ [(n, y2)], by omega, by simp; omega, by go_num, hO6⟩, by simp [intOf]; omega⟩
                · have h2' : (k4 == 2) = false := by simpa using h2
                  have d3 := hB3.cell 3 rfl
                  go_wp2_with fail
                  refine (hO3.turn k n y2 c hk hbd.2 (by omega)).mono ?_
                  rintro e w4 ⟨rfl, hO4, hkp⟩
                  have hC4 := hkp _ _ _ hC3 (by decide)
                  have hB4 := hkp _ _ _ hB3 (by decide)
                  have q1 := hC4.cell 1 rfl
                  have q3 := hB4.cell 3 rfl
                  obtain ⟨g4, cu4, hgg, _, _, _, _, t1, t2⟩ := hO4.cells hk
                  simp only [Value.slice.injEq, Option.some.injEq, Addr.mk.injEq, and_true, true_and] at hgg
                  obtain ⟨rfl, rfl⟩ := hgg
                  have hO5 := hO4.store (c := xorB y2 c) hk rfl (xorB_bd y2 c)
                  go_wp2_with fail
                  exact ⟨⟨i + 1, us.set k (n, xorB y2 c), by omega, by simp; omega, by go_num, hO5⟩, by simp [intOf]; omega⟩
        · go_wp2_with fail
          go_meet
          exact ⟨us, by omega, hO⟩
      · go_wp2_with fail
        go_meet
        exact ⟨us, by omega, hO⟩
  case rest =>
    clear hK1 hu1 hs1
    obtain ⟨us, hus, hO⟩ := hcut
    obtain ⟨pu, cu, rfl⟩ := hO.form
    go_wp2_with fail
    go_loopw [11] (fun kv wr => ∃ k : Nat, k ≤ us.length ∧ kv = .int .i64 k ∧ OnceAt w wr (.slice pu us.length cu) us us) (fun kv _ => us.length - (intOf kv).toNat)
    case atStart => exact ⟨0, by omega, rfl, hO⟩
    case round =>
      clear hO
      obtain ⟨k, hkl, rfl, hO⟩ := hrel
      obtain ⟨wo, rfl⟩ : ∃ wo, wo = wr := ⟨_, rfl⟩
      by_cases hlt : k < us.length
      · obtain ⟨⟨n, y2⟩, hk⟩ : ∃ u, us[k]? = some u := ⟨_, List.getElem?_eq_getElem hlt⟩
        have hbd := hO.bd _ (List.mem_of_getElem? hk)
        dsimp only at hbd
        obtain ⟨g, cu', hgg, hcu, hg1, hg2, k0, k1, kf⟩ := hO.cells hk
        simp only [Value.slice.injEq, true_and] at hgg
        obtain ⟨rfl, rfl⟩ := hgg
        have u2 := (Upd.refl [] wo).alloc (.cells #[.int .i64 n, .int .u8 y2] 35)
        have hB2 := Blk.new wo #[.int .i64 n, .int .u8 y2] 35
        go_wp2_with fail
        refine ((hO.next u2).see k (n, y2) hk).mono ?_
        dsimp only
        rintro e w3 ⟨⟨gd, cd, rfl, m0, m1⟩, hO3, hu3⟩
        have u4 := (Upd.refl [] w3).alloc (.cells #[.int .i64 (1 + (n : Int) % 16), .bool ((n : Int) % 2 == 0), .slice (some ⟨gd, 0, none⟩) 2 cd] 33)
        have hB4 := (hB2.upd_nil hu3).upd_nil u4
        have v0 := hB4.cell 0 rfl
        have v1 := hB4.cell 1 rfl
        have p0 := (u4.cell (lt_of_cell m0) (by simp)).trans m0
        have p1 := (u4.cell (lt_of_cell m1) (by simp)).trans m1
        have hO4 := hO3.next u4
        have e3 := wrap_byte n hbd.1
        have e4 : bits BinOp.xor IntKind.u8 7 y2 = xorB 7 y2 := rfl
        clear k0 k1 kf m0 m1 hO hd
        go_wp2_with fail
        go_quiet (fail)
        go_wp2_with fail
        exact ⟨⟨k + 1, by omega, by go_num, hO4.next ((Upd.refl [] _).of_drewN nq)⟩, by simp [intOf]; omega⟩
      · go_wp2_with (first
          | (go_at_call 14; refine hO.len.mono ?_; rintro e w3 ⟨rfl, rfl⟩)
          | (go_at_call 15; refine (awake_any _).mono ?_; rintro e w4 ⟨rfl, hu4⟩))
        go_ret
        exact ⟨rfl, hO.upd.trans_nil hu4⟩
end Go.Proofs.Ytceeekdephgcmaa
