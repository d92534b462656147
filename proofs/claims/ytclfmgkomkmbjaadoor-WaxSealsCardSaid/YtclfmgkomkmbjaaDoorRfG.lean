/- The document's H and K: the walk. -/
import Derived.Test.YtclfmgkomkmbjaaDoorRfF
import Derived.Test.YtclfmgkomkmbjaaDoorRfC
namespace Go.Proofs.YtclfmgkomkmbjaaDoor
open Go.RowKit

theorem info8 (f : Nat → Int) : (Tryd.prog.info? 63).map (·.size) = some (wrow 8 f).toArray.size := by kernel_rfl
theorem one8 (f : Nat → Int) : (wrow 8 f).toArray.all (·.oneCell') = true := by kernel_rfl
theorem size8 (f g : Nat → Int) : (wrow 8 f).toArray.size = (wrow 8 g).toArray.size := rfl
theorem info64 (f : Nat → Int) : (Tryd.prog.info? 64).map (·.size) = some (wrow 64 f).toArray.size := by kernel_rfl
theorem one64 (f : Nat → Int) : (wrow 64 f).toArray.all (·.oneCell') = true := by kernel_rfl
theorem size64 (f g : Nat → Int) : (wrow 64 f).toArray.size = (wrow 64 g).toArray.size := rfl

theorem results_two_rows {P : Program} {fn : Func} {p0 p1 : Tmp} {t0 t1 : TypeId} (h : fn.results = #[.cell p0 t0, .cell p1 t1]) (tmps : Array Value) (w : World) (g0 g1 : Nat) (T0 T1 : TypeId) (cs0 cs1 : Array Value) (d0 d1 : TypeDesc)
    (hp0 : tmps.getD p0 undef = .pointer (some ⟨g0, 0, none⟩)) (hg0 : w.heap[g0]? = some (.cells cs0 T0 (0, 0))) (hu0 : P.underlying t0 = some d0) (hd0 : (match d0 with | .struct _ | .array _ _ => true | _ => false) = true) (hi0 : (P.info? t0).map (·.size) = some cs0.size)
    (hp1 : tmps.getD p1 undef = .pointer (some ⟨g1, 0, none⟩)) (hg1 : w.heap[g1]? = some (.cells cs1 T1 (0, 0))) (hu1 : P.underlying t1 = some d1) (hd1 : (match d1 with | .struct _ | .array _ _ => true | _ => false) = true) (hi1 : (P.info? t1).map (·.size) = some cs1.size) :
    (results fn tmps).run P w = .ok (.tuple #[.agg cs0, .agg cs1]) w := by
  have hp0' : tmps[p0]?.getD undef = .pointer (some ⟨g0, 0, none⟩) := by simpa using hp0
  have hp1' : tmps[p1]?.getD undef = .pointer (some ⟨g1, 0, none⟩) := by simpa using hp1
  simp [results, h, hp0', hp1', asAddr, run_loadVar_row w g0 T0 t0 cs0 (0, 0) d0 hg0 hu0 hd0 hi0, run_loadVar_row w g1 T1 t1 cs1 (0, 0) d1 hg1 hu1 hd1 hi1]

def upto (f : Nat → Int) (n : Nat) : Nat → Int := fun j => if j < n then f j else 0
theorem upto_step (f : Nat → Int) (n : Nat) : upd1 (upto f n) n (f n) = upto f (n + 1) := by
  funext j
  unfold upd1 upto
  by_cases e : j = n
  · subst e; rw [if_pos rfl, if_pos (by omega)]
  · rw [if_neg e]
    by_cases h : j < n
    · rw [if_pos h, if_pos (by omega)]
    · rw [if_neg h, if_neg (by omega)]
theorem upto_all (m : Nat) (f : Nat → Int) (n : Nat) (h : m ≤ n) : wrow m (upto f n) = wrow m f := by
  unfold wrow
  exact row_congr fun j hj => by unfold upto; rw [if_pos (by omega)]
theorem upto_zero (f : Nat → Int) : upto f 0 = fun _ => 0 := by funext j; unfold upto; rw [if_neg (by omega)]

theorem rroot_h {p n : Nat} (h : PL[n]? = some p) (hp : p < 4096) (hn : n < 8) (w : World) :
    Calls Tryd.prog 46 #[.int .u64 p, .int .i64 2] w fun e w' => e = .returned (.int .u32 (H0 n)) ∧ Upd [] w w' := by
  obtain ⟨h1, h2, h3⟩ := rt2_ok n hn
  rw [pl_at h] at h2 h3
  exact rroot p 2 _ (.inl rfl) hp h1 h2 h3 w
theorem rroot_k {p n : Nat} (h : PL[n]? = some p) (hp : p < 4096) (w : World) :
    Calls Tryd.prog 46 #[.int .u64 p, .int .i64 3] w fun e w' => e = .returned (.int .u32 (K0 n)) ∧ Upd [] w w' := by
  obtain ⟨h1, h2, h3⟩ := rt3_ok n (pl_lt h)
  rw [pl_at h] at h2 h3
  exact rroot p 3 _ (.inr rfl) hp h1 h2 h3 w

set_option maxRecDepth 100000 in
set_option maxHeartbeats 8000000 in
theorem rrows (w : World) : Calls Tryd.prog 33 #[] w fun e w' => e = .returned (.tuple #[.agg (wrow 8 H0).toArray, .agg (wrow 64 K0).toArray]) ∧ Upd [] w w' := by
  have hz : ∀ w : World, (zeroValue 63).run Tryd.prog w = .ok (.agg (wrow 8 fun _ => 0).toArray) w := fun w => by kernel_rfl
  have hz2 : ∀ w : World, (zeroValue 64).run Tryd.prog w = .ok (.agg (wrow 64 fun _ => 0).toArray) w := fun w => by kernel_rfl
  go_enter Tryd.func33, Tryd.ntmps33
  go_upto_region 3 with fail
  have hB0 := Blk.new w (wrow 8 fun _ => 0).toArray 63
  have u0 := (Upd.refl [] w).alloc (.cells (wrow 8 fun _ => 0).toArray 63)
  have z0 : (w.alloc (.cells (wrow 8 fun _ => 0).toArray 63)).heap.size = w.heap.size + 1 := by simp
  generalize w.alloc (.cells (wrow 8 fun _ => 0).toArray 63) = W0 at *
  have hB1 := Blk.new W0 (wrow 64 fun _ => 0).toArray 64
  have hB0 := hB0.alloc (.cells (wrow 64 fun _ => 0).toArray 64)
  have u1 := u0.alloc (.cells (wrow 64 fun _ => 0).toArray 64)
  have z1 : (W0.alloc (.cells (wrow 64 fun _ => 0).toArray 64)).heap.size = w.heap.size + 1 + 1 := by simp [z0]
  generalize W0.alloc (.cells (wrow 64 fun _ => 0).toArray 64) = W1 at *
  have hB2 := Blk.new W1 (wrow 8 fun _ => 0).toArray 63
  have hB1 := hB1.alloc (.cells (wrow 8 fun _ => 0).toArray 63)
  have hB0 := hB0.alloc (.cells (wrow 8 fun _ => 0).toArray 63)
  have u2 := u1.alloc (.cells (wrow 8 fun _ => 0).toArray 63)
  have z2 : (W1.alloc (.cells (wrow 8 fun _ => 0).toArray 63)).heap.size = w.heap.size + 1 + 1 + 1 := by simp [z1]
  generalize W1.alloc (.cells (wrow 8 fun _ => 0).toArray 63) = W2 at *
  have hB3 := Blk.new W2 (wrow 64 fun _ => 0).toArray 64
  have hB2 := hB2.alloc (.cells (wrow 64 fun _ => 0).toArray 64)
  have hB1 := hB1.alloc (.cells (wrow 64 fun _ => 0).toArray 64)
  have hB0 := hB0.alloc (.cells (wrow 64 fun _ => 0).toArray 64)
  have u3 := u2.alloc (.cells (wrow 64 fun _ => 0).toArray 64)
  generalize W2.alloc (.cells (wrow 64 fun _ => 0).toArray 64) = W3 at *
  rw [z0] at hB1
  rw [z1] at hB2
  rw [z2] at hB3
  clear u0 u1 u2 z0 z1 z2 hz hz2
  simp only [List.toList_toArray] at hB0 hB1 hB2 hB3
  obtain ⟨N0, hN0⟩ : ∃ N0, w.heap.size = N0 := ⟨_, rfl⟩
  rw [hN0] at hB0 hB1 hB2 hB3 ⊢
  obtain ⟨N1, hN1⟩ : ∃ x, N0 + 1 = x := ⟨_, rfl⟩
  obtain ⟨HB, hHB⟩ : ∃ x, N0 + 1 + 1 = x := ⟨_, rfl⟩
  obtain ⟨KB, hKB⟩ : ∃ x, N0 + 1 + 1 + 1 = x := ⟨_, rfl⟩
  rw [hKB, hHB, hN1]
  rw [hKB] at hB3
  rw [hHB] at hB2
  rw [hN1] at hB1
  have d1 : N0 ≠ N1 := by omega
  have d2 : HB ≠ N0 := by omega
  have d3 : HB ≠ N1 := by omega
  have d4 : KB ≠ N0 := by omega
  have d5 : KB ≠ N1 := by omega
  have d6 : HB ≠ KB := by omega
  have b0 : w.heap.size ≤ N0 := by omega
  have b1 : w.heap.size ≤ N1 := by omega
  have b2 : w.heap.size ≤ HB := by omega
  have b3 : w.heap.size ≤ KB := by omega
  clear hN0 hN1 hHB hKB
  rw [show (fun _ => 0 : Nat → Int) = upto H0 0 from (upto_zero _).symm] at hB2
  rw [show (fun _ => 0 : Nat → Int) = upto K0 0 from (upto_zero _).symm] at hB3
  go_wp2_with fail
  go_loopw [4, 5] (fun nv pv wr => ∃ n p : Nat, nv = .int .i64 n ∧ pv = .int .u64 p ∧ 2 ≤ p ∧ p ≤ 312 ∧ n ≤ 64 ∧ Hid (n = cnt p) ∧ Blk wr HB (wrow 8 (upto H0 n)) 63 ∧ Blk wr KB (wrow 64 (upto K0 n)) 64 ∧ Blk wr N0 (wrow 8 fun _ => 0) 63 ∧ Blk wr N1 (wrow 64 fun _ => 0) 64 ∧ Upd [] w wr) (fun _ pv _ => 312 - (intOf pv).toNat)
  case atStart => exact ⟨0, 2, rfl, rfl, by omega, by omega, by omega, Lib.hid (by decide), hB2, hB3, hB0, hB1, u3⟩
  case round =>
    clear hB0 hB1 hB2 hB3 u3
    obtain ⟨n, p, rfl, rfl, hp2, hp312, hn64, Hn, hH, hK, h0, h1, hu⟩ := hrel
    obtain ⟨wo, rfl⟩ : ∃ wo, wo = wr := ⟨_, rfl⟩
    by_cases hn : n < 64
    · have hp : p < 312 := by
        rcases Nat.lt_or_ge p 312 with h | h
        · exact h
        · have := cnt_big h; have := Hn.out; omega
      have hpr := rprime p hp hp2
      have g1 : (0 : Int) ≤ n := by omega
      have g2 : (n : Int) < 64 := by omega
      have g3 : (p : Int) < 312 := by omega
      cases hpp : isP p with
      | false =>
        rw [hpp] at hpr
        have Hc := Lib.hid (pl_4 p hp hpp)
        clear hpp
        go_wp2_with (go_at_call 45; refine (hpr _).mono ?_; rintro e w3 ⟨rfl, rfl⟩)
        exact ⟨⟨n, p + 1, rfl, by go_num, by omega, by omega, hn64, Lib.hid (by rw [Hc.out]; exact Hn.out), hH, hK, h0, h1, hu⟩, by simp [intOf]; omega⟩
      | true =>
        rw [hpp] at hpr
        obtain ⟨hpl, hc1⟩ := pl_3 p hp hpp
        rw [← Hn.out] at hpl hc1
        have Hc := Lib.hid hc1
        have hrk := rroot_k hpl (by omega)
        have hrh := fun h8 : n < 8 => rroot_h hpl (by omega) h8
        clear hpp hc1 hpl
        have uH := Lib.hid (upto_step H0 n)
        have uK := Lib.hid (upto_step K0 n)
        have kb := K0_bd n
        have hb := H0_bd n
        by_cases hn8 : n < 8
        · have hrh := hrh hn8
          have g4 : (n : Int) < 8 := by omega
          generalize H0 n = hv at *
          generalize K0 n = kv at *
          go_upto_region 9 with (go_at_call 45; refine (hpr _).mono ?_; rintro e w3 ⟨rfl, rfl⟩)
          have hH4 : ∀ W, Upd [] wo W → Blk W HB (wrow 8 (upto H0 n)) 63 := fun W u => hH.upd_nil u
          go_upto_region 10 with (go_at_call 46; refine (hrh _).mono ?_; rintro e w4 ⟨rfl, u4⟩; have q0 := (hH4 _ u4).cell n (wrow_get _ hn8); have q1 := (hH4 _ u4).free n)
          have hH5 := (hH4 _ u4).set n (.int .u32 hv)
          rw [wrow_set, uH.out] at hH5
          have hK5 := (hK.upd_nil u4).set_ne ⟨HB, n, none⟩ d6.symm (.int .u32 hv)
          have h05 := (h0.upd_nil u4).set_ne ⟨HB, n, none⟩ d2.symm (.int .u32 hv)
          have h15 := (h1.upd_nil u4).set_ne ⟨HB, n, none⟩ d3.symm (.int .u32 hv)
          have u5 := (hu.trans_nil u4).setCell (p := ⟨HB, n, none⟩) (Or.inr b2) (.int .u32 hv)
          clear hH hK h0 h1 hu q0 q1 hH4 u4
          generalize w4.setCell ⟨HB, n, none⟩ (.int .u32 hv) = W5 at *
          have hK6 : ∀ W, Upd [] W5 W → Blk W KB (wrow 64 (upto K0 n)) 64 := fun W u => hK5.upd_nil u
          go_upto_region 11 with (go_at_call 46; refine (hrk _).mono ?_; rintro e w6 ⟨rfl, u6⟩; have q0 := (hK6 _ u6).cell n (wrow_get _ hn); have q1 := (hK6 _ u6).free n)
          have hK7 := (hK6 _ u6).set n (.int .u32 kv)
          rw [wrow_set, uK.out] at hK7
          have hH7 := (hH5.upd_nil u6).set_ne ⟨KB, n, none⟩ d6 (.int .u32 kv)
          have h07 := (h05.upd_nil u6).set_ne ⟨KB, n, none⟩ d4.symm (.int .u32 kv)
          have h17 := (h15.upd_nil u6).set_ne ⟨KB, n, none⟩ d5.symm (.int .u32 kv)
          have u7 := (u5.trans_nil u6).setCell (p := ⟨KB, n, none⟩) (Or.inr b3) (.int .u32 kv)
          clear hH5 hK5 h05 h15 u5 q0 q1 hK6 u6
          generalize w6.setCell ⟨KB, n, none⟩ (.int .u32 kv) = W7 at *
          go_wp2_with fail
          exact ⟨⟨n + 1, p + 1, by go_num, by go_num, by omega, by omega, by omega, Lib.hid (by rw [Hc.out]), hH7, hK7, h07, h17, u7⟩, by simp [intOf]; omega⟩
        · have hH8 : wrow 8 (upto H0 n) = wrow 8 (upto H0 (n + 1)) := by rw [upto_all 8 H0 n (by omega), upto_all 8 H0 (n + 1) (by omega)]
          rw [hH8] at hH
          have hK6 : ∀ W, Upd [] wo W → Blk W KB (wrow 64 (upto K0 n)) 64 := fun W u => hK.upd_nil u
          generalize K0 n = kv at *
          clear hrh hH8
          go_upto_region 10 with (go_at_call 45; refine (hpr _).mono ?_; rintro e w3 ⟨rfl, rfl⟩)
          go_upto_region 11 with (go_at_call 46; refine (hrk _).mono ?_; rintro e w6 ⟨rfl, u6⟩; have q0 := (hK6 _ u6).cell n (wrow_get _ hn); have q1 := (hK6 _ u6).free n)
          have hK7 := (hK6 _ u6).set n (.int .u32 kv)
          rw [wrow_set, uK.out] at hK7
          have hH7 := (hH.upd_nil u6).set_ne ⟨KB, n, none⟩ d6 (.int .u32 kv)
          have h07 := (h0.upd_nil u6).set_ne ⟨KB, n, none⟩ d4.symm (.int .u32 kv)
          have h17 := (h1.upd_nil u6).set_ne ⟨KB, n, none⟩ d5.symm (.int .u32 kv)
          have u7 := (hu.trans_nil u6).setCell (p := ⟨KB, n, none⟩) (Or.inr b3) (.int .u32 kv)
          clear hH hK h0 h1 hu q0 q1 hK6 u6
          generalize w6.setCell ⟨KB, n, none⟩ (.int .u32 kv) = W7 at *
          go_wp2_with fail
          exact ⟨⟨n + 1, p + 1, by go_num, by go_num, by omega, by omega, by omega, Lib.hid (by rw [Hc.out]), hH7, hK7, h07, h17, u7⟩, by simp [intOf]; omega⟩
    · obtain rfl : n = 64 := by omega
      rw [upto_all 8 H0 64 (by omega)] at hH
      rw [upto_all 64 K0 64 (by omega)] at hK
      have hHr : ∀ W, Upd [N0, N1] wo W → W.heap[HB]? = some (.cells (wrow 8 H0).toArray 63 (0, 0)) := fun W u => by
        have := hH.upd u (by simp [d2, d3])
        unfold Blk at this
        exact this
      have hKr : ∀ W, Upd [N0, N1] wo W → W.heap[KB]? = some (.cells (wrow 64 K0).toArray 64 (0, 0)) := fun W u => by
        have := hK.upd u (by simp [d4, d5])
        unfold Blk at this
        exact this
      clear hH hK
      go_upto_region 12 with fail
      refine wp_region_blk [(.eq (.agg (wrow 8 H0).toArray)), (.eq (.agg (wrow 64 K0).toArray)), .any, .any] [⟨2, (N0), (wrow 8 fun _ => 0), (wrow 8 H0), (63)⟩, ⟨3, (N1), (wrow 64 fun _ => 0), (wrow 64 K0), (64)⟩] (by kernel_rfl) (by kernel_rfl) rfl ?ne ?pre ?step ?fin
      case ne => intro x hx y hy hxy; simp only [List.mem_cons, List.not_mem_nil, or_false] at hx hy; rcases hx with rfl | rfl <;> rcases hy with rfl | rfl <;> first | (exact absurd rfl hxy) | (dsimp only; omega)
      case pre => intro x hx; simp only [List.mem_cons, List.not_mem_nil, or_false] at hx; rcases hx with rfl | rfl <;> assumption
      case step =>
        intro i o ho a w' hS hold hneed hun K' hK
        match i, ho with
        | 0, ho =>
          obtain rfl := Option.some.inj ho
          have q2 := hun 2 (.inr (by kernel_rfl))
          have q3 := hun 3 (.inr (by kernel_rfl))
          replace hneed := fun j hj => (hneed j hj).2
          replace hK := fun v w1 h u => hK v w1 h trivial u
          clear hun
          have d2 := hold 2 _ (by kernel_rfl) rfl
          clear hold hneed ho
          (rw [if_pos (by simp [Region.wanted])]; exact wp_load_row 63 (.tmp 2) rfl HB (by simp [Act.eval, *]) 63 _ (0, 0) _ (hHr _ hS) Tryd.underlying63 rfl (info8 _) (hK _ _ rfl (Upd.refl [] _)))
        | 1, ho =>
          obtain rfl := Option.some.inj ho
          have q3 := hun 3 (.inr (by kernel_rfl))
          replace hneed := fun j hj => (hneed j hj).2
          replace hK := fun v w1 h u => hK v w1 h trivial u
          clear hun
          have d3 := hold 3 _ (by kernel_rfl) rfl
          clear hold hneed ho
          (rw [if_pos (by simp [Region.wanted])]; exact wp_load_row 64 (.tmp 3) rfl KB (by simp [Act.eval, *]) 64 _ (0, 0) _ (hKr _ hS) Tryd.underlying64 rfl (info64 _) (hK _ _ rfl (Upd.refl [] _)))
        | 2, ho =>
          obtain rfl := Option.some.inj ho
          have q2 := hun 2 (.inl rfl)
          have q3 := hun 3 (.inr (by kernel_rfl))
          change Blk _ _ _ _ at q2
          replace hneed := fun j hj => (hneed j hj).2
          clear hun
          have d0 := hold 0 _ (by kernel_rfl) rfl
          have d25 := get_of_at (hneed 0 (of_decide_eq_true (by kernel_rfl)) 25 rfl) (by simp [undef])
          clear hold hneed ho
          (rw [if_pos (by simp [Region.wanted])]; refine wp_store_row 63 (.tmp 0) (.tmp 25) rfl N0 (wrow 8 H0).toArray (by simp [Act.eval, *]) (by simp [Act.eval, *]) 63 _ q2 (info8 _) (size8 _ _) (one8 _) ?_; exact hK undef _ trivial (q2.setRow _) ((Upd.refl _ _).setRow (Or.inl (by simp [effOf, BE.eff])) _))
        | 3, ho =>
          obtain rfl := Option.some.inj ho
          have r2 := (hneed 2 (of_decide_eq_true (by kernel_rfl))).1
          have q3 := hun 3 (.inl rfl)
          change Blk _ _ _ _ at q3
          replace hneed := fun j hj => (hneed j hj).2
          clear hun
          have d1 := hold 1 _ (by kernel_rfl) rfl
          have d26 := get_of_at (hneed 1 (of_decide_eq_true (by kernel_rfl)) 26 rfl) (by simp [undef])
          clear hold hneed ho
          (rw [if_pos (by simp [Region.wanted])]; refine wp_store_row 64 (.tmp 1) (.tmp 26) rfl N1 (wrow 64 K0).toArray (by simp [Act.eval, *]) (by simp [Act.eval, *]) 64 _ q3 (info64 _) (size64 _ _) (one64 _) ?_; exact hK undef _ trivial (q3.setRow _) ((Upd.refl _ _).setRow (Or.inl (by simp [effOf, BE.eff])) _))
        | _ + 4, ho => exact absurd ho (by simp)
      case fin =>
        intro a w' hS hsz hdf hold hvals hposts
        have hP2 : Blk w' (N0) (wrow 8 H0) (63) := hposts 2 (of_decide_eq_true (by kernel_rfl))
        have hP3 : Blk w' (N1) (wrow 64 K0) (64) := hposts 3 (of_decide_eq_true (by kernel_rfl))
        have ha := act_lit hsz hdf (RowIs.cons (at_of_get (hold 0 _ (by kernel_rfl) rfl)) (RowIs.cons (at_of_get (hold 1 _ (by kernel_rfl) rfl)) (RowIs.cons (at_of_get (hold 2 _ (by kernel_rfl) rfl)) (RowIs.cons (at_of_get (hold 3 _ (by kernel_rfl) rfl)) (RowIs.cons (at_of_get (hold 4 _ (by kernel_rfl) rfl)) (RowIs.cons (at_of_get (hold 5 _ (by kernel_rfl) rfl)) (RowIs.cons (at_of_get (hold 6 _ (by kernel_rfl) rfl)) (RowIs.cons (at_of_get (hold 7 _ (by kernel_rfl) rfl)) (RowIs.cons (at_of_get (hold 8 _ (by kernel_rfl) rfl)) (RowIs.cons (at_of_get (hold 9 _ (by kernel_rfl) rfl)) (RowIs.cons (at_of_get (hold 10 _ (by kernel_rfl) rfl)) (RowIs.cons (at_of_get (hold 11 _ (by kernel_rfl) rfl)) (RowIs.cons (at_of_get (hold 12 _ (by kernel_rfl) rfl)) (RowIs.cons (at_of_get (hold 13 _ (by kernel_rfl) rfl)) (RowIs.cons (at_of_get (hold 14 _ (by kernel_rfl) rfl)) (RowIs.cons (at_of_get (hold 15 _ (by kernel_rfl) rfl)) (RowIs.cons (at_of_get (hold 16 _ (by kernel_rfl) rfl)) (RowIs.cons (at_of_get (hold 17 _ (by kernel_rfl) rfl)) (RowIs.cons (at_of_get (hold 18 _ (by kernel_rfl) rfl)) (RowIs.cons (at_of_get (hold 19 _ (by kernel_rfl) rfl)) (RowIs.cons (at_of_get (hold 20 _ (by kernel_rfl) rfl)) (RowIs.cons (at_of_get (hold 21 _ (by kernel_rfl) rfl)) (RowIs.cons (at_of_get (hold 22 _ (by kernel_rfl) rfl)) (RowIs.cons (at_of_get (hold 23 _ (by kernel_rfl) rfl)) (RowIs.cons (at_of_get (hold 24 _ (by kernel_rfl) rfl)) (RowIs.cons (hvals 0 25 rfl) (RowIs.cons (hvals 1 26 rfl) (RowIs.nil _ _)))))))))))))))))))))))))))) rfl
        clear hsz hdf hold hvals hposts
        subst ha
        try simp only [List.getElem_toArray, List.getElem_cons_succ, List.getElem_cons_zero]
        have u9 := hu.trans hS (fun x hx => .inr (by simp at hx; rcases hx with rfl | rfl <;> assumption))
        go_wp2_with fail
        exact bodyPost_ret (v := .tuple #[.agg (wrow 8 H0).toArray, .agg (wrow 64 K0).toArray]) (results_two_rows rfl _ _ N0 N1 _ _ _ _ _ _ rfl hP2 Tryd.underlying63 rfl (info8 _) rfl hP3 Tryd.underlying64 rfl (info64 _)) rfl ⟨rfl, u9⟩

end Go.Proofs.YtclfmgkomkmbjaaDoor
