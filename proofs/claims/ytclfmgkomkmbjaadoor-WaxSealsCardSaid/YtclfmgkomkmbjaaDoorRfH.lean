/- The document's digest: the walk. -/
import Derived.Test.YtclfmgkomkmbjaaDoorRfG
import Derived.Test.YtclfmgkomkmbjaaDoorKnF
namespace Go.Proofs.YtclfmgkomkmbjaaDoor
open Go.RowKit

theorem info32' (f : Nat → Int) : (Tryd.prog.info? 24).map (·.size) = some (row32 f).toArray.size := by kernel_rfl
theorem one32' (f : Nat → Int) : (row32 f).toArray.all (·.oneCell') = true := by kernel_rfl
theorem size32' (f g : Nat → Int) : (row32 f).toArray.size = (row32 g).toArray.size := rfl

set_option maxRecDepth 100000 in
set_option maxHeartbeats 8000000 in
theorem rof (w : World) (p : Option Addr) (xs : List Int) (c : Nat) (hx : ByAt w p xs) (hr : Rng xs) (hl : xs.length ≤ 140737488350000) :
    Calls Tryd.prog 22 #[.slice p xs.length c] w fun e w' => e = .returned (agg32 (sha xs)) ∧ Upd [] w w' := by
  have hz : ∀ w : World, (zeroValue 24).run Tryd.prog w = .ok (.agg (row32 fun _ => 0).toArray) w := fun w => by kernel_rfl
  go_enter Tryd.func22, Tryd.ntmps22
  go_upto_region 1 with fail
  have u1 := (Upd.refl [] w).alloc (.cells (row32 fun _ => 0).toArray 24)
  have hT := Blk.new w (row32 fun _ => 0).toArray 24
  have hx1 := hx.upd_nil u1
  generalize w.alloc (.cells (row32 fun _ => 0).toArray 24) = W1 at *
  obtain ⟨N, hN⟩ : ∃ N, w.heap.size = N := ⟨_, rfl⟩
  rw [hN] at hT ⊢
  have hNw : w.heap.size ≤ N := by omega
  have HN := Lib.hid hN
  clear hN hx
  simp only [List.toList_toArray] at hT
  obtain ⟨n, hn⟩ : ∃ n, xs.length = n := ⟨_, rfl⟩
  have hzc : zc n < 64 := Nat.mod_lt _ (by decide)
  have hzm : (n + 1 + zc n) % 64 = 56 := by unfold zc; omega
  have hzl : ∀ z, z < zc n → (n + 1 + z) % 64 ≠ 56 := fun z hz => by unfold zc at hz; omega
  have Hn := Lib.hid hn
  rw [hn] at hl ⊢
  clear hn
  go_upto_block 0 with (first
    | (at_builtin; refine app_bytes rfl _ _ rfl W1.heap.size (.slice p2 n c2) xs rfl (hown2.alloc _) (some ⟨w2.heap.size, 0, none⟩) 1 1 [128] rfl rfl (ByAt.one w2 128 _) (by rw [Hn.out]; simp; omega) (by have := hgrow2.size; simp; omega) ?_; rintro p3 c3 w3 hown3 hgrow3)
    | (at_builtin; refine app_bytes rfl _ _ rfl W1.heap.size _ [] rfl (OwnB.nil _ _) p n c xs rfl Hn.out.symm hx1 (by rw [Hn.out]; simp; omega) (Nat.le_refl _) ?_; rintro p2 c2 w2 hown2 hgrow2; simp only [List.nil_append, List.length_nil, Nat.zero_add, Hn.out] at hown2 ⊢))
  have u3 : Upd [] W1 w3 := (((Upd.refl [] W1).grown hgrow2 (fun k hk => nomatch hk)).alloc _).grown hgrow3 (fun k hk => .inr (hown2.lt k hk).1)
  clear hgrow2 hgrow3 hown2 hx1
  simp only [List.length_cons, List.length_nil, Nat.zero_add] at hown3
  rw [Hn.out] at hown3 ⊢
  have hll := Hn.out
  go_cut [3] (fun s3 wx => ∃ p c, s3 = .slice p (n + 1 + zc n) c ∧ OwnB wx W1.heap.size (.slice p (n + 1 + zc n) c) (xs ++ 128 :: List.replicate (zc n) 0) ∧ Upd [] W1 wx)
  case first =>
    clear hll
    go_wp2_with fail
    go_loopw [3] (fun v wr => ∃ (z : Nat) (p' : Option Addr) (c' : Nat), z ≤ zc n ∧ v = .slice p' (n + 1 + z) c' ∧ OwnB wr W1.heap.size (.slice p' (n + 1 + z) c') (xs ++ 128 :: List.replicate z 0) ∧ Upd [] W1 wr) (fun v _ => n + 200 - lenOf v)
    case atStart => exact ⟨0, p3, c3, by omega, rfl, hown3, u3⟩
    case round =>
      obtain ⟨z, p4, c4, hz, rfl, hown, hu⟩ := hrel
      clear u3 hown3
      have hln : (xs ++ 128 :: List.replicate z 0).length = n + 1 + z := by simp [Hn.out]; omega
      by_cases hlt : z < zc n
      · have h56 := hzl z hlt
        have t1 : (((n : Int) + 1 + (z : Int)) % 64 == 56) = false := by rw [beq_eq_false_iff_ne]; omega
        have t2 : (((n : Int) + 1 + (z : Int)) % 64 != 56) = true := by rw [bne_iff_ne]; omega
        clear h56
        have hsz := hu.size
        go_wp2_with (at_builtin; refine app_bytes rfl _ _ rfl W1.heap.size (.slice p4 (n + 1 + z) c4) (xs ++ 128 :: List.replicate z 0) rfl (hown.alloc _) (some ⟨wr.heap.size, 0, none⟩) 1 1 [0] rfl rfl (ByAt.one wr 0 _) (by simp only [hln, List.length_cons, List.length_nil]; omega) (by simp; omega) ?_; rintro p5 c5 w5 hown5 hgrow5)
        simp only [hln, List.length_cons, List.length_nil, Nat.zero_add] at hown5
        rw [List.append_assoc, List.cons_append, show List.replicate z (0 : Int) ++ [0] = List.replicate (z + 1) 0 from List.replicate_succ'.symm, show n + 1 + z + 1 = n + 1 + (z + 1) by omega] at hown5
        exact ⟨⟨z + 1, p5, c5, by omega, by rw [show n + 1 + z + 1 = n + 1 + (z + 1) by omega], hown5, (hu.alloc _).grown hgrow5 (fun k hk => .inr (hown.lt k hk).1)⟩, by simp [lenOf]; omega⟩
      · obtain rfl : z = zc n := by omega
        have t1 : (((n : Int) + 1 + (zc n : Int)) % 64 == 56) = true := by rw [beq_iff_eq]; omega
        have t2 : (((n : Int) + 1 + (zc n : Int)) % 64 != 56) = false := by rw [bne_eq_false_iff_eq]; omega
        go_wp2_with fail
        go_meet
        exact ⟨p4, c4, rfl, hown, hu⟩
  case rest =>
    obtain ⟨p6, c6, rfl, hown6, hu6⟩ := hcut
    clear u3 hown3 hzl
    obtain ⟨w6, rfl⟩ : ∃ w6, w6 = wc := ⟨_, rfl⟩
    have hln6 : (xs ++ 128 :: List.replicate (zc n) 0).length = n + 1 + zc n := by simp [hll]; omega
    generalize hz2 : xs ++ 128 :: List.replicate (zc n) 0 = pre at *
    have Hpre := Lib.hid hz2
    clear hz2 hll
    go_upto_block 2 with fail
    go_cut [3, 5] (fun s3 _ wx => ∃ p c, s3 = .slice p (n + 1 + zc n + 8) c ∧ OwnB wx W1.heap.size (.slice p (n + 1 + zc n + 8) c) (pre ++ lens n 8) ∧ Upd [] W1 wx)
    case first =>
      go_wp2_with fail
      go_loopw [3, 5] (fun v iv wr => ∃ (k : Nat) (p' : Option Addr) (c' : Nat), k ≤ 8 ∧ iv = .int .i64 (7 - (k : Int)) ∧ v = .slice p' (n + 1 + zc n + k) c' ∧ OwnB wr W1.heap.size (.slice p' (n + 1 + zc n + k) c') (pre ++ lens n k) ∧ Upd [] W1 wr) (fun v _ _ => n + 200 - lenOf v)
      case atStart => exact ⟨0, p6, c6, by omega, rfl, rfl, by simpa [lens] using hown6, hu6⟩
      case round =>
        obtain ⟨k, p4, c4, hk8, rfl, rfl, hown, hu⟩ := hrel
        clear hu6 hown6
        have hsz := hu.size
        by_cases hlt : k < 8
        · have hlnk : (pre ++ lens n k).length = n + 1 + zc n + k := by simp [hln6, lens]
          go_wp2_with (at_builtin; refine app_bytes rfl _ _ rfl W1.heap.size (.slice p4 (n + 1 + zc n + k) c4) (pre ++ lens n k) rfl (hown.alloc _) (some ⟨wr.heap.size, 0, none⟩) 1 1 [lenB n (7 - k)] rfl rfl (ByAt.one wr (lenB n (7 - k)) _) (by simp only [hlnk, List.length_cons, List.length_nil]; omega) (by simp; omega) ?_; rintro p5 c5 w5 hown5 hgrow5)
          simp only [hlnk, List.length_cons, List.length_nil, Nat.zero_add] at hown5
          rw [List.append_assoc, ← lens_snoc, show n + 1 + zc n + k + 1 = n + 1 + zc n + (k + 1) by omega] at hown5
          exact ⟨⟨k + 1, p5, c5, by omega, by congr 1; omega, by rw [show n + 1 + zc n + k + 1 = n + 1 + zc n + (k + 1) by omega], hown5, (hu.alloc _).grown hgrow5 (fun k hk => .inr (hown.lt k hk).1)⟩, by simp [lenOf]; omega⟩
        · obtain rfl : k = 8 := by omega
          go_wp2_with fail
          go_meet
          exact ⟨p4, c4, rfl, hown, hu⟩
    case rest =>
      obtain ⟨p7, c7, rfl, hown7, hu7⟩ := hcut
      clear hu6 hown6
      obtain ⟨w7, rfl⟩ : ∃ w7, w7 = wc := ⟨_, rfl⟩
      have hall : pre ++ lens n 8 = xs ++ pad n := by rw [← Hpre.out]; simp [pad]
      rw [hall] at hown7
      have hLl : (xs ++ pad n).length = n + 1 + zc n + 8 := by rw [List.length_append, pad_len, Hn.out]; omega
      have hLr : Rng (xs ++ pad n) := hr.app (rng_pad n)
      have hsha : sha xs = digB (comp H0 (xs ++ pad n) ((n + 1 + zc n + 8) / 64)) := by
        unfold sha
        rw [Hn.out, hLl]
      obtain ⟨LL, hLL⟩ : ∃ LL, n + 1 + zc n + 8 = LL := ⟨_, rfl⟩
      have hL64 : LL % 64 = 0 := by omega
      have hLb : LL ≤ 140737488356000 := by omega
      rw [hLL] at hLl hown7 hsha ⊢
      generalize xs ++ pad n = L at *
      have hat7 := hown7.at_
      have hc7 : LL ≤ c7 := by
        obtain ⟨p', c', e, h1, _⟩ := hown7.form
        have e3 : c7 = c' := by injection e
        rw [e3]; omega
      have hgp : 0 < L.length → ∃ g, p7 = some ⟨g, 0, none⟩ ∧ W1.heap.size ≤ g := fun h0 => by
        obtain ⟨p', c', e, _, hg⟩ := hown7.form
        obtain ⟨g, h1, h2, _⟩ := hg (fun e => by rw [e] at h0; simp at h0)
        exact ⟨g, by injection e with e1; rw [e1]; exact h1, h2⟩
      have t7 := u1.trans_nil hu7
      have hT7 := hT.upd_nil hu7
      have Hsha := Lib.hid hsha
      have HLl := Lib.hid hLl
      have hz8 : ∀ w : World, (zeroValue 63).run Tryd.prog w = .ok (.agg (wrow 8 fun _ => 0).toArray) w := fun w => by kernel_rfl
      have hz64 : ∀ w : World, (zeroValue 64).run Tryd.prog w = .ok (.agg (wrow 64 fun _ => 0).toArray) w := fun w => by kernel_rfl
      have hW7 := hu7.size
      have hNl := hT7.lt
      have hNs : N < W1.heap.size := hT.lt
      clear hown7 hall hsha hLl hLL hzm hT hu7 hln6
      go_upto_region 10 with (first
        | (refine wpList_store_rowTo rfl _ _ _ rfl rfl (w8.heap.size + 1) (wrow 64 K0).toArray rfl rfl _ (wrow 64 fun _ => 0).toArray hR3 (info64 _) (size64 _ _) (one64 _) ?_)
        | (refine wpList_store_rowTo rfl _ _ _ rfl rfl w8.heap.size (wrow 8 H0).toArray rfl rfl _ (wrow 8 fun _ => 0).toArray hS2 (info8 _) (size8 _ _) (one8 _) ?_; have hR3 := hR2.upd ((Upd.refl [w8.heap.size] _).setRow (b := w8.heap.size) (Or.inl (by simp)) (wrow 8 H0).toArray) (by simp))
        | (go_at_call 33; refine (rrows _).mono ?_; rintro e w8 ⟨rfl, u8⟩; have hS2 := (Blk.new w8 (wrow 8 fun _ => 0).toArray 63).alloc (.cells (wrow 64 fun _ => 0).toArray 64); have hR2 : Blk ((w8.alloc (.cells (wrow 8 fun _ => 0).toArray 63)).alloc (.cells (wrow 64 fun _ => 0).toArray 64)) (w8.heap.size + 1) (wrow 64 fun _ => 0) 64 := Blk.new_at (by simp) rfl))
      have v9 := ((((Upd.refl [] w8).alloc (.cells (wrow 8 fun _ => 0).toArray 63)).alloc (.cells (wrow 64 fun _ => 0).toArray 64)).setRow (b := w8.heap.size) (Or.inr (Nat.le_refl _)) (wrow 8 H0).toArray).setRow (b := w8.heap.size + 1) (Or.inr (Nat.le_succ _)) (wrow 64 K0).toArray
      have hS9 := (hS2.setRow (wrow 8 H0).toArray).upd ((Upd.refl [w8.heap.size + 1] _).setRow (b := w8.heap.size + 1) (Or.inl (by simp)) (wrow 64 K0).toArray) (by simp)
      have hR9 := hR3.setRow (wrow 64 K0).toArray
      have t9 := (t7.trans_nil u8).trans_nil v9
      have hat9 := (hat7.upd_nil u8).upd_nil v9
      have hT9 := (hT7.upd_nil u8).upd_nil v9
      have hsw : w.heap.size ≤ w8.heap.size := (t7.trans_nil u8).size
      have hsN : N ≠ w8.heap.size := by have := u8.size; omega
      have hsg : ∀ b o, p7 = some ⟨b, o, none⟩ → 0 < L.length → b ≠ w8.heap.size ∧ b < (W1.heap.size + w7.heap.size) := fun b o e h0 => by
        subst e
        have := hat7.lt h0
        have := u8.size
        exact ⟨by omega, by omega⟩
      have hrs : w8.heap.size + 1 ≠ w8.heap.size := by omega
      clear hS2 hR2 hR3 v9 u8 hat7 hT7 t7 hz8 hz64 hW7 hNs hNl
      generalize (((w8.alloc (.cells (wrow 8 fun _ => 0).toArray 63)).alloc (.cells (wrow 64 fun _ => 0).toArray 64)).setRow w8.heap.size (wrow 8 H0).toArray).setRow (w8.heap.size + 1) (wrow 64 K0).toArray = W9 at *
      generalize w8.heap.size + 1 = rb at *
      generalize w8.heap.size = sb at *
      have hS9 : Blk W9 sb (wrow 8 (comp H0 L 0)) 63 := hS9
      have hR9 : Blk W9 rb (wrow 64 K0) 64 := hR9
      go_upto_block 4 with fail
      go_cut [8] (fun _ wx => Blk wx sb (wrow 8 (comp H0 L (LL / 64))) 63 ∧ Blk wx N (row32 fun _ => 0) 24 ∧ Upd [] w wx)
      case first =>
        go_wp2_with fail
        go_loopw [8] (fun iv wr => ∃ m ap : Nat, ap = 64 * m ∧ ap ≤ LL ∧ iv = .int .i64 ap ∧ Blk wr sb (wrow 8 (comp H0 L m)) 63 ∧ Blk wr rb (wrow 64 K0) 64 ∧ ByAt wr p7 L ∧ Blk wr N (row32 fun _ => 0) 24 ∧ Upd [] w wr) (fun iv _ => LL - (intOf iv).toNat)
        case atStart => exact ⟨0, 0, rfl, by omega, rfl, hS9, hR9, hat9, hT9, t9⟩
        case round =>
          clear hS9 hR9 hat9 hT9 t9
          obtain ⟨m, ap, hap, hapL, rfl, hS8, hR, hat, hTN, hu⟩ := hrel
          obtain ⟨wo, rfl⟩ : ∃ wo, wo = wr := ⟨_, rfl⟩
          by_cases hlt : ap < LL
          · have hL0 : 0 < L.length := by rw [HLl.out]; omega
            obtain ⟨g, rfl, hg1⟩ := hgp hL0
            have hgs := (hsg g 0 rfl hL0).1
            have hLen := HLl.out
            have hB : ∀ i, i < 64 → wo.cell? ⟨g, ap + i, none⟩ = some (.int .u8 (byteF L m i)) := fun i hi => by
              have := hat.cell (ap + i) (by rw [hLen]; omega)
              rw [Nat.zero_add] at this
              rw [this, hap]
              rfl
            have hbb : ∀ i, 0 ≤ byteF L m i ∧ byteF L m i < 256 := fun i => hLr.getD _
            have hsb2 := comp_bd L m
            have hnext : tieW K0 (wExt (wIn (byteF L m) 64) 48) (comp H0 L m) = comp H0 L (m + 1) := rfl
            have hfw : ∀ j, 0 ≤ wExt (wIn (byteF L m) 64) 48 j ∧ wExt (wIn (byteF L m) 64) 48 j < 4294967296 := fun j => wExt_bd _ (fun j => wIn_bd _ 64 j) 48 j
            have hgl := lt_of_cell (hB 0 (by decide))
            have hwords : ∀ W, Upd [sb] wo W → Calls Tryd.prog 35 #[.slice (some ⟨g, ap, none⟩) 64 (c7 - ap)] W fun e w' => e = .returned (.agg (wrow 64 (wExt (wIn (byteF L m) 64) 48)).toArray) ∧ Upd [] W w' := fun W u =>
              rwords g ap 64 (c7 - ap) (byteF L m) W (fun i hi => (u.cell (a := ⟨g, ap + i, none⟩) hgl (by simpa using hgs)).trans (hB i hi)) hbb (by decide) (by decide)
            have htie := fun W => rtie K0 (wExt (wIn (byteF L m) 64) 48) (comp H0 L m) W K0_bd hfw hsb2
            rw [hnext] at htie
            generalize wExt (wIn (byteF L m) 64) 48 = fw at *
            obtain ⟨s', hs'⟩ : ∃ s', comp H0 L (m + 1) = s' := ⟨_, rfl⟩
            rw [hs'] at htie
            have Hs' := Lib.hid hs'
            clear hs'
            generalize comp H0 L m = s at *
            have hRr : ∀ W, Upd [sb] wo W → W.heap[rb]? = some (.cells (wrow 64 K0).toArray 64 (0, 0)) := fun W u => by
              have := hR.upd u (by simpa using hrs)
              unfold Blk at this
              exact this
            obtain ⟨ae, hae⟩ : ∃ ae, ap + 64 = ae := ⟨_, rfl⟩
            obtain ⟨ca, hca⟩ : ∃ ca, c7 - ap = ca := ⟨_, rfl⟩
            rw [hca] at hwords
            have Hae : Hid (IntKind.i64.wrap ((ap : Int) + 64) = (ae : Int)) := Lib.hid (by rw [IntKind.wrap_i64]; omega)
            have H64 : Hid (ae - ap = 64) := Lib.hid (by omega)
            have Hca := Lib.hid hca
            have g1 : (0 : Int) ≤ ap := by omega
            have g2 : (ap : Int) ≤ ae := by omega
            have g3 : (ae : Int) ≤ c7 := by omega
            have g4 : ¬ c7 = ap := by omega
            have g5 : ae ≤ c7 := by omega
            have g6 : ap ≤ ae := by omega
            have Hap := Lib.hid hap
            have Hae2 := Lib.hid hae
            clear hB hbb hsb2 hnext hfw hgl hca hap hae hLen
            go_upto_region 13 with fail
            refine wp_region_blk [(.eq (.agg (wrow 8 s).toArray)), (.eq (.slice (some ⟨g, 0, none⟩) LL c7)), (.eq (.int .i64 (ap : Int))), (.eq (.int .i64 (ap : Int))), (.eq (.int .i64 (ae : Int))), (.eq (.slice (some ⟨g, ap, none⟩) 64 ca)), (.eq (.agg (wrow 64 fw).toArray)), (.eq (.agg (wrow 64 K0).toArray)), (.eq (.agg (wrow 8 s').toArray)), .any] [⟨9, (sb), (wrow 8 s), (wrow 8 s'), (63)⟩] (by kernel_rfl) (by kernel_rfl) rfl ?ne ?pre ?step ?fin
            case ne => intro x hx y hy hxy; simp only [List.mem_cons, List.not_mem_nil, or_false] at hx hy; rcases hx with rfl <;> rcases hy with rfl <;> first | (exact absurd rfl hxy) | (dsimp only; omega)
            case pre => intro x hx; simp only [List.mem_cons, List.not_mem_nil, or_false] at hx; rcases hx with rfl <;> assumption
            case step =>
              intro i o ho a w' hS hold hneed hun K' hK
              match i, ho with
              | 0, ho =>
                obtain rfl := Option.some.inj ho
                have q9 := hun 9 (.inr (by kernel_rfl))
                replace hneed := fun j hj => (hneed j hj).2
                replace hK := fun v w1 h u => hK v w1 h trivial u
                clear hun
                have d6 := hold 6 _ (by kernel_rfl) rfl
                clear hold hneed ho
                (rw [if_pos (by simp [Region.wanted])]; exact wp_load_row 63 (.tmp 6) rfl sb (by simp [Act.eval, *]) 63 _ (0, 0) _ q9 Tryd.underlying63 rfl (info8 _) (hK _ _ rfl (Upd.refl [] _)))
              | 1, ho =>
                obtain rfl := Option.some.inj ho
                have q9 := hun 9 (.inr (by kernel_rfl))
                replace hneed := fun j hj => (hneed j hj).2
                replace hK := fun v w1 h u => hK v w1 h trivial u
                clear hun
                have d3 := hold 3 _ (by kernel_rfl) rfl
                clear hold hneed ho
                (go_simp; exact hK _ _ rfl (Upd.refl [] _))
              | 2, ho =>
                obtain rfl := Option.some.inj ho
                have q9 := hun 9 (.inr (by kernel_rfl))
                replace hneed := fun j hj => (hneed j hj).2
                replace hK := fun v w1 h u => hK v w1 h trivial u
                clear hun
                have d8 := hold 8 _ (by kernel_rfl) rfl
                clear hold hneed ho
                (go_simp; exact hK _ _ rfl (Upd.refl [] _))
              | 3, ho =>
                obtain rfl := Option.some.inj ho
                have q9 := hun 9 (.inr (by kernel_rfl))
                replace hneed := fun j hj => (hneed j hj).2
                replace hK := fun v w1 h u => hK v w1 h trivial u
                clear hun
                have d8 := hold 8 _ (by kernel_rfl) rfl
                clear hold hneed ho
                (go_simp; exact hK _ _ rfl (Upd.refl [] _))
              | 4, ho =>
                obtain rfl := Option.some.inj ho
                have q9 := hun 9 (.inr (by kernel_rfl))
                replace hneed := fun j hj => (hneed j hj).2
                replace hK := fun v w1 h u => hK v w1 h trivial u
                clear hun
                have d51 := get_of_at (hneed 3 (of_decide_eq_true (by kernel_rfl)) 51 rfl) (by simp [undef])
                clear hold hneed ho
                (go_simp; rw [Hae.out]; exact hK _ _ rfl (Upd.refl [] _))
              | 5, ho =>
                obtain rfl := Option.some.inj ho
                have q9 := hun 9 (.inr (by kernel_rfl))
                replace hneed := fun j hj => (hneed j hj).2
                replace hK := fun v w1 h u => hK v w1 h trivial u
                clear hun
                have d49 := get_of_at (hneed 1 (of_decide_eq_true (by kernel_rfl)) 49 rfl) (by simp [undef])
                have d50 := get_of_at (hneed 2 (of_decide_eq_true (by kernel_rfl)) 50 rfl) (by simp [undef])
                have d52 := get_of_at (hneed 4 (of_decide_eq_true (by kernel_rfl)) 52 rfl) (by simp [undef])
                clear hold hneed ho
                (go_simp; rw [H64.out, Hca.out]; exact hK _ _ rfl (Upd.refl [] _))
              | 6, ho =>
                obtain rfl := Option.some.inj ho
                have q9 := hun 9 (.inr (by kernel_rfl))
                replace hneed := fun j hj => (hneed j hj).2
                replace hK := fun v w1 h u => hK v w1 h trivial u
                clear hun
                have d53 := get_of_at (hneed 5 (of_decide_eq_true (by kernel_rfl)) 53 rfl) (by simp [undef])
                clear hold hneed ho
                (go_simp; refine (hwords _ hS).mono ?_; rintro e w3 ⟨rfl, hu3⟩; exact hK _ _ rfl hu3)
              | 7, ho =>
                obtain rfl := Option.some.inj ho
                have q9 := hun 9 (.inr (by kernel_rfl))
                replace hneed := fun j hj => (hneed j hj).2
                replace hK := fun v w1 h u => hK v w1 h trivial u
                clear hun
                have d7 := hold 7 _ (by kernel_rfl) rfl
                clear hold hneed ho
                (rw [if_pos (by simp [Region.wanted])]; exact wp_load_row 64 (.tmp 7) rfl rb (by simp [Act.eval, *]) 64 _ (0, 0) _ (hRr _ hS) Tryd.underlying64 rfl (info64 _) (hK _ _ rfl (Upd.refl [] _)))
              | 8, ho =>
                obtain rfl := Option.some.inj ho
                have q9 := hun 9 (.inr (by kernel_rfl))
                replace hneed := fun j hj => (hneed j hj).2
                replace hK := fun v w1 h u => hK v w1 h trivial u
                clear hun
                have d48 := get_of_at (hneed 0 (of_decide_eq_true (by kernel_rfl)) 48 rfl) (by simp [undef])
                have d54 := get_of_at (hneed 6 (of_decide_eq_true (by kernel_rfl)) 54 rfl) (by simp [undef])
                have d55 := get_of_at (hneed 7 (of_decide_eq_true (by kernel_rfl)) 55 rfl) (by simp [undef])
                clear hold hneed ho
                (go_simp; refine (htie w').mono ?_; rintro e w3 ⟨rfl, hu3⟩; exact hK _ _ rfl hu3)
              | 9, ho =>
                obtain rfl := Option.some.inj ho
                have q9 := hun 9 (.inl rfl)
                change Blk _ _ _ _ at q9
                replace hneed := fun j hj => (hneed j hj).2
                clear hun
                have d6 := hold 6 _ (by kernel_rfl) rfl
                have d56 := get_of_at (hneed 8 (of_decide_eq_true (by kernel_rfl)) 56 rfl) (by simp [undef])
                clear hold hneed ho
                (rw [if_pos (by simp [Region.wanted])]; refine wp_store_row 63 (.tmp 6) (.tmp 56) rfl sb (wrow 8 s').toArray (by simp [Act.eval, *]) (by simp [Act.eval, *]) 63 _ q9 (info8 _) (size8 _ _) (one8 _) ?_; exact hK undef _ trivial (q9.setRow _) ((Upd.refl _ _).setRow (Or.inl (by simp [effOf, BE.eff])) _))
              | _ + 10, ho => exact absurd ho (by simp)
            case fin =>
              intro a w' hS hsz hdf hold hvals hposts
              have hP9 : Blk w' (sb) (wrow 8 s') (63) := hposts 9 (of_decide_eq_true (by kernel_rfl))
              have ha := act_lit hsz hdf (RowIs.cons (at_of_get (hold 0 _ (by kernel_rfl) rfl)) (RowIs.cons (at_of_get (hold 1 _ (by kernel_rfl) rfl)) (RowIs.cons (at_of_get (hold 2 _ (by kernel_rfl) rfl)) (RowIs.cons (at_of_get (hold 3 _ (by kernel_rfl) rfl)) (RowIs.cons (at_of_get (hold 4 _ (by kernel_rfl) rfl)) (RowIs.cons (at_of_get (hold 5 _ (by kernel_rfl) rfl)) (RowIs.cons (at_of_get (hold 6 _ (by kernel_rfl) rfl)) (RowIs.cons (at_of_get (hold 7 _ (by kernel_rfl) rfl)) (RowIs.cons (at_of_get (hold 8 _ (by kernel_rfl) rfl)) (RowIs.cons (at_of_get (hold 9 _ (by kernel_rfl) rfl)) (RowIs.cons (at_of_get (hold 10 _ (by kernel_rfl) rfl)) (RowIs.cons (at_of_get (hold 11 _ (by kernel_rfl) rfl)) (RowIs.cons (at_of_get (hold 12 _ (by kernel_rfl) rfl)) (RowIs.cons (at_of_get (hold 13 _ (by kernel_rfl) rfl)) (RowIs.cons (at_of_get (hold 14 _ (by kernel_rfl) rfl)) (RowIs.cons (at_of_get (hold 15 _ (by kernel_rfl) rfl)) (RowIs.cons (at_of_get (hold 16 _ (by kernel_rfl) rfl)) (RowIs.cons (at_of_get (hold 17 _ (by kernel_rfl) rfl)) (RowIs.cons (at_of_get (hold 18 _ (by kernel_rfl) rfl)) (RowIs.cons (at_of_get (hold 19 _ (by kernel_rfl) rfl)) (RowIs.cons (at_of_get (hold 20 _ (by kernel_rfl) rfl)) (RowIs.cons (at_of_get (hold 21 _ (by kernel_rfl) rfl)) (RowIs.cons (at_of_get (hold 22 _ (by kernel_rfl) rfl)) (RowIs.cons (at_of_get (hold 23 _ (by kernel_rfl) rfl)) (RowIs.cons (at_of_get (hold 24 _ (by kernel_rfl) rfl)) (RowIs.cons (at_of_get (hold 25 _ (by kernel_rfl) rfl)) (RowIs.cons (at_of_get (hold 26 _ (by kernel_rfl) rfl)) (RowIs.cons (at_of_get (hold 27 _ (by kernel_rfl) rfl)) (RowIs.cons (at_of_get (hold 28 _ (by kernel_rfl) rfl)) (RowIs.cons (at_of_get (hold 29 _ (by kernel_rfl) rfl)) (RowIs.cons (at_of_get (hold 30 _ (by kernel_rfl) rfl)) (RowIs.cons (at_of_get (hold 31 _ (by kernel_rfl) rfl)) (RowIs.cons (at_of_get (hold 32 _ (by kernel_rfl) rfl)) (RowIs.cons (at_of_get (hold 33 _ (by kernel_rfl) rfl)) (RowIs.cons (at_of_get (hold 34 _ (by kernel_rfl) rfl)) (RowIs.cons (at_of_get (hold 35 _ (by kernel_rfl) rfl)) (RowIs.cons (at_of_get (hold 36 _ (by kernel_rfl) rfl)) (RowIs.cons (at_of_get (hold 37 _ (by kernel_rfl) rfl)) (RowIs.cons (at_of_get (hold 38 _ (by kernel_rfl) rfl)) (RowIs.cons (at_of_get (hold 39 _ (by kernel_rfl) rfl)) (RowIs.cons (at_of_get (hold 40 _ (by kernel_rfl) rfl)) (RowIs.cons (at_of_get (hold 41 _ (by kernel_rfl) rfl)) (RowIs.cons (at_of_get (hold 42 _ (by kernel_rfl) rfl)) (RowIs.cons (at_of_get (hold 43 _ (by kernel_rfl) rfl)) (RowIs.cons (at_of_get (hold 44 _ (by kernel_rfl) rfl)) (RowIs.cons (at_of_get (hold 45 _ (by kernel_rfl) rfl)) (RowIs.cons (at_of_get (hold 46 _ (by kernel_rfl) rfl)) (RowIs.cons (at_of_get (hold 47 _ (by kernel_rfl) rfl)) (RowIs.cons (hvals 0 48 rfl) (RowIs.cons (hvals 1 49 rfl) (RowIs.cons (hvals 2 50 rfl) (RowIs.cons (hvals 3 51 rfl) (RowIs.cons (hvals 4 52 rfl) (RowIs.cons (hvals 5 53 rfl) (RowIs.cons (hvals 6 54 rfl) (RowIs.cons (hvals 7 55 rfl) (RowIs.cons (hvals 8 56 rfl) (RowIs.cons (at_of_get (hold 57 _ (by kernel_rfl) rfl)) (RowIs.cons (at_of_get (hold 58 _ (by kernel_rfl) rfl)) (RowIs.cons (at_of_get (hold 59 _ (by kernel_rfl) rfl)) (RowIs.cons (at_of_get (hold 60 _ (by kernel_rfl) rfl)) (RowIs.cons (at_of_get (hold 61 _ (by kernel_rfl) rfl)) (RowIs.cons (at_of_get (hold 62 _ (by kernel_rfl) rfl)) (RowIs.cons (at_of_get (hold 63 _ (by kernel_rfl) rfl)) (RowIs.cons (at_of_get (hold 64 _ (by kernel_rfl) rfl)) (RowIs.cons (at_of_get (hold 65 _ (by kernel_rfl) rfl)) (RowIs.cons (at_of_get (hold 66 _ (by kernel_rfl) rfl)) (RowIs.cons (at_of_get (hold 67 _ (by kernel_rfl) rfl)) (RowIs.cons (at_of_get (hold 68 _ (by kernel_rfl) rfl)) (RowIs.cons (at_of_get (hold 69 _ (by kernel_rfl) rfl)) (RowIs.cons (at_of_get (hold 70 _ (by kernel_rfl) rfl)) (RowIs.cons (at_of_get (hold 71 _ (by kernel_rfl) rfl)) (RowIs.cons (at_of_get (hold 72 _ (by kernel_rfl) rfl)) (RowIs.cons (at_of_get (hold 73 _ (by kernel_rfl) rfl)) (RowIs.nil _ _))))))))))))))))))))))))))))))))))))))))))))))))))))))))))))))))))))))))))) rfl
              clear hsz hdf hold hvals hposts
              subst ha
              try simp only [List.getElem_toArray, List.getElem_cons_succ, List.getElem_cons_zero]
              have hS2 := hP9
              rw [← Hs'.out] at hS2
              have hR2 := hR.upd hS (by simpa using hrs)
              have hat2 := hat.upd hS (fun b o e => by cases e; simpa using hgs)
              have hTN2 := hTN.upd hS (by simpa using hsN)
              have hu2 := hu.trans_nil' hS (by simpa using hsw)
              clear hS hP9 hR hat hTN hu hwords htie hRr
              go_wp2_with fail
              exact ⟨⟨m + 1, ae, by have := Hap.out; have := Hae2.out; omega, by have := Hap.out; have := Hae2.out; omega, congrArg (Value.int .i64) (by have := Hae2.out; omega), hS2, hR2, hat2, hTN2, hu2⟩, by simp [intOf]; have := Hae2.out; omega⟩
          · go_wp2_with fail
            go_meet
            exact ⟨by rw [show LL / 64 = m by omega]; exact hS8, hTN, hu⟩
      case rest =>
        obtain ⟨hS10, hT10, u10⟩ := hcut
        clear hS9 hR9 hat9 hT9 t9
        obtain ⟨w10, rfl⟩ : ∃ w10, w10 = wc := ⟨_, rfl⟩
        have hsbd := comp_bd L (LL / 64)
        have hend : ∀ i, digB (comp H0 L (LL / 64)) i = sha xs i := fun i => by rw [Hsha.out]
        have Hend := Lib.hid hend
        clear hend
        generalize comp H0 L (LL / 64) = s at *
        go_upto_region 15 with fail
        have uO := u10.alloc (.cells (row32 fun _ => 0).toArray 24)
        have hO := Blk.new w10 (row32 fun _ => 0).toArray 24
        have hS11 := hS10.alloc (.cells (row32 fun _ => 0).toArray 24)
        have hT11 := hT10.alloc (.cells (row32 fun _ => 0).toArray 24)
        have hOs : sb ≠ w10.heap.size := by have := hS10.lt; omega
        have hON : N ≠ w10.heap.size := by have := hT10.lt; omega
        have hOw : w.heap.size ≤ w10.heap.size := u10.size
        clear hS10 hT10 u10 hz
        simp only [List.toList_toArray] at hO
        generalize w10.alloc (.cells (row32 fun _ => 0).toArray 24) = W10 at *
        generalize w10.heap.size = OB at *
        go_wp2_with fail
        go_loopw [10] (fun iv wr => ∃ i : Nat, i ≤ 32 ∧ iv = .int .i64 i ∧ Blk wr OB (row32 fun j => if j < i then sha xs j else 0) 24 ∧ Blk wr sb (wrow 8 s) 63 ∧ Blk wr N (row32 fun _ => 0) 24 ∧ Upd [] w wr) (fun iv _ => 32 - (intOf iv).toNat)
        case atStart => exact ⟨0, by omega, rfl, by simpa using hO, hS11, hT11, uO⟩
        case round =>
          obtain ⟨i, hi, rfl, hOi, hSi, hTi, hu⟩ := hrel
          clear hO hS11 hT11 uO
          obtain ⟨wo, rfl⟩ : ∃ wo, wo = wr := ⟨_, rfl⟩
          by_cases hlt : i < 32
          · have c1 := hSi.cell (i / 4) (wrow_get s (by omega))
            have cN := hOi.cell i (v := .int .u8 (if i < i then sha xs i else 0)) (row_get _ hlt)
            have fN := hOi.free i
            obtain ⟨b1, b2⟩ := hsbd (i / 4)
            go_wp2_with fail
            have hv : s (i / 4) / 2 ^ (8 * (3 - i % 4)) % 256 = sha xs i := Hend.out i
            rw [hv]
            have hN2 := hOi.set i (.int .u8 (sha xs i))
            rw [row32_step] at hN2
            exact ⟨⟨i + 1, by omega, by go_num, hN2, hSi.set_ne _ hOs _, hTi.set_ne _ hON _, hu.setCell (Or.inr hOw) _⟩, by simp [intOf]; omega⟩
          · obtain rfl : i = 32 := by omega
            rw [row32_all] at hOi
            go_wp2_with (first
              | (refine wpList_load_row rfl _ _ rfl OB rfl _ (row32 (sha xs)).toArray _ _ hOi Tryd.underlying24 rfl (info32' _) ?_)
              | (refine wpList_store_rowTo rfl _ _ _ rfl rfl N (row32 (sha xs)).toArray rfl rfl _ (row32 fun _ => 0).toArray hTi (info32' _) (size32' _ _) (one32' _) ?_))
            have hT2 := hTi.setRow (row32 (sha xs)).toArray
            exact bodyPost_ret (v := agg32 (sha xs)) (results_cell_row rfl _ _ N _ _ _ _ rfl hT2 Tryd.underlying24 rfl (info32' _)) rfl ⟨rfl, hu.setRow (Or.inr hNw) _⟩

end Go.Proofs.YtclfmgkomkmbjaaDoor
