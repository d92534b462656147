/- AgentAgain: its walk. -/
import Derived.Test.YtpgilkemcaipiaaAgE
import Derived.StillTailTactics
import Derived.Deep.RegionHeld3
import Derived.Deep.CutBlock
namespace Go.Proofs.Ytpgilkemcaipiaa
open Go.RowKit

theorem of_good (p : Option Addr) (cap : Nat) (ws : List Win) (w : World) (hl : WinsAt w w.heap.size p ws) (hlen : ws.length ≤ 9223372036854775807) (last : Int) (st : Nat → Win) (ho : ofTo ws ws.length = some (last, st)) :
    Calls Try.prog 14 #[.slice p ws.length cap] w fun e w' => (∃ t bw, w.heap.size ≤ t ∧ w.heap.size ≤ bw ∧ e = .returned (.tuple #[.pointer (some ⟨t, 0, none⟩), .int .i64 0]) ∧ TabAt w' t bw st 0) ∧ Upd [] w w' := by
  refine (of_any p cap ws w hl hlen).mono fun e w' ⟨h1, h2⟩ => ⟨?_, h2⟩
  unfold OfPost at h1
  rw [ho] at h1
  exact h1

theorem TabAt.heap {w w' : World} {t bw : Nat} {st : Nat → Win} {n : Int} (h : TabAt w t bw st n) (e : w'.heap = w.heap) : TabAt w' t bw st n :=
  ⟨h.head.of_heap (by rw [e]), h.rows.of_heap (by rw [e]), h.ne⟩

theorem windows_ws {t bw : Nat} {st : Nat → Win} {n : Int} {w : World} (h : TabAt w t bw st n) (hinv : StInv st) :
    Calls Try.prog 19 #[.pointer (some ⟨t, 0, none⟩)] w fun e w' =>
      (∃ q cap ws, e = .returned (.slice q ws.length cap) ∧ WinsAt w' w'.heap.size q ws ∧ ws.length ≤ 17 ∧ Hid (wins st 17 = ws)) ∧ Upd [] w w' := by
  refine (windows_any h).mono fun e w' ⟨v, he, hown, hu⟩ => ⟨?_, hu⟩
  obtain ⟨q, qc, rfl, hws, hqn⟩ := winsAt_of_own hown hinv.fit
  exact ⟨q, qc, _, he, hws, wins_le st 17, Lib.hid rfl⟩

theorem wins_nil_or {w : World} {B : Nat} {p : Option Addr} {ws : List Win} (h : WinsAt w B p ws) {i : Nat} (hi : i < ws.length) :
    ∃ v b off, ws[i]? = some v ∧ p = some ⟨b, off, none⟩ ∧ b < B ∧ w.cell? ⟨b, off + i * 3, none⟩ = some (.int .i64 v.A) ∧ w.cell? ⟨b, off + i * 3 + 1, none⟩ = some (.int .i64 v.H) ∧ w.cell? ⟨b, off + i * 3 + 2, none⟩ = some (.int .u32 v.B) := by
  obtain ⟨v, hv⟩ : ∃ v, ws[i]? = some v := ⟨_, List.getElem?_eq_getElem hi⟩
  obtain ⟨_, b, off, h1, h2, h3⟩ := h i v hv
  exact ⟨v, b, off, hv, h1, h2, h3⟩

set_option maxHeartbeats 8000000 in
set_option maxRecDepth 100000 in
theorem again_walk (p : Option Addr) (len cap : Nat) (p2 : Option Addr) (len2 cap2 : Nat) (w : World) (hl : Ints3 w w.heap.size p len) (hlen : len ≤ maxLen) (hl2 : Ints3 w w.heap.size p2 len2) (hlen2 : len2 ≤ maxLen) :
    Calls Try.prog 6 #[.slice p len cap, .slice p2 len2 cap2] w fun e w' => e = .returned (.bool true) ∧ Upd [] w w' := by
  unfold maxLen at hlen hlen2
  go_enter Try.func6, Try.ntmps6
  go_wp2_with fail
  refine (new_any _).mono ?_
  rintro e w1 ⟨rfl, ht1, hu1⟩
  go_upto_block 0 with fail
  go_cut [6] (fun s6 wx => ∃ (st : Nat → Win) (n : Int), TabAt wx (w.heap.size + 1) w.heap.size st n ∧ Upd [] w wx ∧ StInv st)
  case first =>
    go_wp2_with fail
    go_loopw [6] (fun iv wr => ∃ (i : Nat) (st : Nat → Win) (n : Int), i ≤ 60 ∧ iv = .int .i64 i ∧ TabAt wr (w.heap.size + 1) w.heap.size st n ∧ Upd [] w wr ∧ StInv st)
      (fun iv _ => 60 - (intOf iv).toNat)
    case atStart => exact ⟨0, fun _ => Win.zero, 0, by omega, rfl, ht1, hu1, StInv.zero⟩
    case round =>
      obtain ⟨i, st, n, hi, rfl, ht, hu, hinv⟩ := hrel
      by_cases hil : i < len
      · by_cases hi60 : i < 60
        · obtain ⟨b, off, kd, a, s, rfl, hb, c0, c1, c2, _⟩ := (hl.upd (Nat.le_refl _) hu) i hil
          go_wp2_with fail
          go_still_tail 11, (by kernel_rfl)
          change wpList _ _ _ _ _ wr.drew
          go_wp2_with fail
          refine (done_all (w := wr.drew) (st := st) (n := n) ⟨ht.head, ht.rows, ht.ne⟩ a s hinv.ok).mono ?_
          rintro e w2 ⟨rfl, ht2, hu2⟩
          go_wp2_with fail
          exact ⟨⟨i + 1, _, n, by omega, by go_num, ht2, hu.drew.trans hu2 (by simp), hinv.step a s⟩, by simp [intOf]; omega⟩
        · go_wp2_with fail
          go_meet
          exact ⟨st, n, ht, hu, hinv⟩
      · go_wp2_with fail
        go_meet
        exact ⟨st, n, ht, hu, hinv⟩
  case rest =>
    obtain ⟨st, n, ht, hu, hinv⟩ := hcut
    go_wp2_with fail
    refine (windows_ws ht hinv).mono ?_
    rintro e w2 ⟨⟨q, qc, ws, rfl, hws, hqn, Hws⟩, hu2⟩
    obtain ⟨last, Hof⟩ : ∃ last, Hid (ofTo ws ws.length = some (last, st)) := by
      obtain ⟨last, h⟩ := ofTo_all st hinv 17 rfl
      rw [Hws.out] at h
      exact ⟨last, Lib.hid h⟩
    go_wp2_with fail
    refine (of_good q qc ws _ hws (by omega) last st Hof.out).mono ?_
    rintro e w3 ⟨⟨t, bw, ht0, hbw0, rfl, htu⟩, hu3⟩
    have hs1 := hu.size
    have hs2 := hu2.size
    have ht3 := (ht.upd hu2 (by simp) (by simp)).upd hu3 (by simp) (by simp)
    have hlt1 := (ht.upd hu2 (by simp) (by simp)).head.lt
    have u3 : Upd [] w w3 := (hu.trans_nil hu2).trans_nil hu3
    go_upto_block 2 with fail
    go_cut [9, 10, 11, 12, 13, 14] (fun s9 s10 s11 s12 s13 s14 wx => ∃ (st : Nat → Win) (n n' : Int), TabAt wx (w.heap.size + 1) w.heap.size st n ∧ TabAt wx t bw st n' ∧ Upd [] w wx ∧ StInv st)
    case first =>
      go_wp2_with fail
      go_loopw [9] (fun iv wr => ∃ (i : Nat) (st : Nat → Win) (n n' : Int), i ≤ 60 ∧ iv = .int .i64 i ∧ TabAt wr (w.heap.size + 1) w.heap.size st n ∧ TabAt wr t bw st n' ∧ Upd [] w wr ∧ StInv st)
        (fun iv _ => 60 - (intOf iv).toNat)
      case atStart => exact ⟨0, st, n, 0, by omega, rfl, ht3, htu, u3, hinv⟩
      case round =>
        clear ht hinv htu ht3 u3 hu hu2 hu3 hws Hof
        obtain ⟨i, st, n, n', hi, rfl, ht, htu, hu, hinv⟩ := hrel
        by_cases hil : i < len2
        · by_cases hi60 : i < 60
          · obtain ⟨b, off, kd, a, s, rfl, hb, c0, c1, c2, x1, _⟩ := (hl2.upd (Nat.le_refl _) hu) i hil
            have hB := Blk.new wr #[.int .i64 kd, .int .i64 a, .int .i64 s] 35
            have hr := ht.head.lt
            have hr2 := htu.head.lt
            have hr3 := ht.rows.lt
            have hr4 := htu.rows.lt
            have hwr := hu.size
            go_wp2_with fail
            refine (ask_all (ht.upd ((Upd.refl [] _).alloc _) (by simp) (by simp)) a s hinv.ok).mono ?_
            rintro e w4 ⟨rfl, ⟨n4, ht4⟩, hu4⟩
            have hB4 := hB.upd hu4 (by simp; omega)
            have b1 := hB4.cell 1 rfl
            have b2 := hB4.cell 2 rfl
            go_wp2_with fail
            refine (ask_all ((htu.upd ((Upd.refl [] _).alloc _) (by simp) (by simp)).upd hu4 (by simp; omega) (by simp; omega)) a s hinv.ok).mono ?_
            rintro e w5 ⟨rfl, ⟨n5, ht5⟩, hu5⟩
            have ht5' := ht4.upd hu5 (by simp; omega) (by simp; omega)
            have hB5 := hB4.upd hu5 (by simp; omega)
            have d0 := hB5.cell 0 rfl
            have d1 := hB5.cell 1 rfl
            have d2 := hB5.cell 2 rfl
            have u5 := ((hu.alloc (.cells #[.int .i64 kd, .int .i64 a, .int .i64 s] 35)).trans hu4 (by simp)).trans hu5 (by simp; omega)
            clear hu4 hu5 hB hB4 b1 b2
            by_cases hk0 : kd.tmod 2 = 0
            · have e0 : (kd.tmod 2 != 0) = false := by simp [hk0]
              have Ek := Lib.hid hk0; clear hk0
              go_upto_region 15 with fail
              go_quiet (fail)
              go_wp2_with fail
              exact ⟨⟨i + 1, st, n4, n5, by omega, by go_num, ht5'.upd ((Upd.refl [] _).of_drewN _) (by simp) (by simp), ht5.upd ((Upd.refl [] _).of_drewN _) (by simp) (by simp), u5.of_drewN _, hinv⟩, by simp [intOf]; omega⟩
            · have e0 : (kd.tmod 2 != 0) = true := by simp [hk0]
              clear hk0
              go_upto_region 15 with fail
              go_cut [109] (fun s109 wx => s109 = .bool false ∧ TabAt wx (w.heap.size + 1) w.heap.size (stepSt st a s) n4 ∧ TabAt wx t bw (stepSt st a s) n5 ∧ Upd [] w wx)
              case first =>
                go_region_held3 (fun w' => w'.cell? ⟨wr.heap.size, 0, none⟩ = some (.int .i64 kd) ∧ w'.cell? ⟨wr.heap.size, 1, none⟩ = some (.int .i64 a) ∧ w'.cell? ⟨wr.heap.size, 2, none⟩ = some (.int .i64 s)) (go_keep)
                  (first
                    | (go_at_call_of 11 (w.heap.size); go_must (refine (done_all (st := st) (n := n4) (ht5'.heap (by rfl)) a s hinv.ok).mono ?_); rintro e w6 ⟨rfl, ht6, hu6⟩; have hB6 := (Blk.of_heap hB5 (by rfl)).upd hu6 (by simp; omega); have k0 := hB6.cell 0 rfl; have k1 := hB6.cell 1 rfl; have k2 := hB6.cell 2 rfl)
                    | (go_at_call_of 11 t; go_must (refine (done_all (st := st) (n := n5) (((ht5.heap (by rfl)).upd hu6 (by simp; omega) (by simp; omega)).heap (by rfl)) a s hinv.ok).mono ?_); rintro e w7 ⟨rfl, ht7, hu7⟩; have hB7 := (Blk.of_heap hB6 (by rfl)).upd hu7 (by simp; omega); have l0 := hB7.cell 0 rfl; have l1 := hB7.cell 1 rfl; have l2 := hB7.cell 2 rfl))
                go_wp2_with fail
                go_meet
                exact ⟨rfl, ht6.upd hu7 (by simp; omega) (by simp; omega), ht7, (u5.drew.trans hu6 (by simp)).trans hu7 (by simp; omega)⟩
              case rest =>
                obtain ⟨rfl, ht6, ht7, u7⟩ := hcut
                have hin2 := hinv.step a s
                clear hinv ht4 ht5 ht5' hB5 d0 d1 d2 u5
                go_wp2_with fail
                first
                  | exact ⟨⟨i + 1, _, _, _, by omega, by go_num, ht6, ht7, u7, hin2⟩, by simp [intOf]; omega⟩
                  | ((repeat apply Exists.intro); exact ⟨⟨⟨i + 1, _, _, _, by omega, by go_num, ht6, ht7, u7, hin2⟩, by simp [intOf]; omega⟩, rfl⟩)
                  | ((repeat apply Exists.intro); exact ⟨⟨i + 1, _, _, _, by omega, by go_num, ht6, ht7, u7, hin2⟩, rfl⟩)
          · go_wp2_with fail
            go_meet
            exact ⟨st, n, n', ht, htu, hu, hinv⟩
        · go_wp2_with fail
          go_meet
          exact ⟨st, n, n', ht, htu, hu, hinv⟩
    case rest =>
      clear ht hu hinv hu2 hu3 ht3 htu u3 hws Hws Hof
      obtain ⟨st, n, n', ht, htu, hu, hinv⟩ := hcut
      have hr1 := ht.head.lt
      have hr2 := htu.head.lt
      have hr4 := htu.rows.lt
      go_wp2_with fail
      refine (windows_ws ht hinv).mono ?_
      rintro e w4 ⟨⟨q1, c1, ws1, rfl, hx, hn1, H1⟩, hu4⟩
      go_wp2_with fail
      refine (windows_ws (htu.upd hu4 (by simp) (by simp)) hinv).mono ?_
      rintro e w5 ⟨⟨q2, c2, ws2, rfl, hy, hn2, H2⟩, hu5⟩
      obtain rfl : ws2 = ws1 := H2.out.symm.trans H1.out
      have hx5 := hx.upd (Nat.le_refl _) hu5 (by simp)
      have u5 := (hu.trans_nil hu4).trans_nil hu5
      clear H1 H2 hx
      go_wp2_with fail
      go_loopw [17] (fun iv wr => ∃ i : Nat, i ≤ ws2.length ∧ iv = .int .i64 i ∧ Upd [] w5 wr) (fun iv _ => ws2.length - (intOf iv).toNat)
      case atStart => exact ⟨0, by omega, rfl, Upd.refl _ _⟩
      case round =>
        obtain ⟨i, hi, rfl, hu6⟩ := hrel
        by_cases hlt : i < ws2.length
        · obtain ⟨v, b1, o1, hv, rfl, hb1, a0, a1, a2⟩ := wins_nil_or (hx5.upd (by exact hu5.size) hu6 (by simp)) hlt
          obtain ⟨v', b2, o2, hv', rfl, hb2, c0, c1, c2⟩ := wins_nil_or (hy.upd (Nat.le_refl _) hu6 (by simp)) hlt
          obtain rfl : v' = v := by rw [hv] at hv'; exact (Option.some.inj hv').symm
          clear hv hv'
          go_upto_region 23 with fail
          go_quiet (fail)
          go_wp2_with fail
          exact ⟨⟨i + 1, by omega, by go_num, hu6.of_drewN _⟩, by simp [intOf]; omega⟩
        · obtain rfl : i = ws2.length := by omega
          go_wp2_with (go_at_call 12; refine (awake_true _).mono ?_; rintro e w7 ⟨rfl, hu7⟩)
          go_ret
          exact ⟨rfl, (u5.trans_nil hu6).trans_nil hu7⟩

end Go.Proofs.Ytpgilkemcaipiaa
