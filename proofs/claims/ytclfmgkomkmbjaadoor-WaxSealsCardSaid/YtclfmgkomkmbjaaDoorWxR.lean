/- The document's MAC: the walk of muslinref05.Of. -/
import Derived.Test.YtclfmgkomkmbjaaDoorWxB
import Derived.Test.YtclfmgkomkmbjaaDoorRfH
import Derived.Test.YtclfmgkomkmbjaaDoorCpy
import Derived.Test.YtclfmgkomkmbjaaDoorKnR
namespace Go.Proofs.YtclfmgkomkmbjaaDoor
open Go.RowKit

theorem rows32i (f : Nat → Int) : (Tryd.prog.info? 24).map (·.size) = some (row32 f).toArray.size := by kernel_rfl
theorem padKey_zeros' (ks : List Int) (n : Nat) (add : Int) : padKey (ks ++ List.replicate n 0) add = padKey ks add := padKey_zeros ks n add
/-- The first i bytes of a turned key. -/
def padUp (ks : List Int) (add : Int) (i : Nat) : List Int := (List.range i).map (keyB ks add)
theorem padUp_len (ks : List Int) (add : Int) (i : Nat) : (padUp ks add i).length = i := by simp [padUp]
theorem padUp_step (ks : List Int) (add : Int) (i : Nat) : padUp ks add i ++ [keyB ks add i] = padUp ks add (i + 1) := by simp [padUp, List.range_succ]
theorem padUp_all (ks : List Int) (add : Int) : padUp ks add 64 = padKey ks add := rfl

/-- Two rows of the call's own that grow, beside a third one. -/
structure Three (w : World) (base : Nat) (av bv kv : Value) (la lb lk : List Int) : Prop where
  bs : base ≤ w.heap.size
  a : OwnB w base av la
  b : OwnB w base bv lb
  k : OwnB w base kv lk
  ab : ∀ g, av.ownBlock = some g → bv.ownBlock ≠ some g
  ak : ∀ g, av.ownBlock = some g → kv.ownBlock ≠ some g
  bk : ∀ g, bv.ownBlock = some g → kv.ownBlock ≠ some g

theorem Three.swap {w : World} {base : Nat} {av bv kv : Value} {la lb lk : List Int} (h : Three w base av bv kv la lb lk) : Three w base bv av kv lb la lk :=
  ⟨h.bs, h.b, h.a, h.k, fun g e k => h.ab g k e, h.bk, h.ak⟩
theorem Three.upd_nil {w w' : World} {base : Nat} {av bv kv : Value} {la lb lk : List Int} (h : Three w base av bv kv la lb lk) (u : Upd [] w w') : Three w' base av bv kv la lb lk :=
  ⟨Nat.le_trans h.bs u.size, h.a.upd_nil u, h.b.upd_nil u, h.k.upd_nil u, h.ab, h.ak, h.bk⟩
theorem Three.app {w w' : World} {base : Nat} {av bv kv v' : Value} {la lb lk lz : List Int} (h : Three w base av bv kv la lb lk) (ho : OwnB w' base v' lz) (hg : w.grownBy w' av.ownBlock)
    (hn : ∀ g, v'.ownBlock = some g → av.ownBlock = some g ∨ w.heap.size ≤ g) : Three w' base v' bv kv lz lb lk := by
  have hh : ∀ b, b < w.heap.size → av.ownBlock ≠ some b → w'.heap[b]? = w.heap[b]? := fun b hb hn => hg.block b hb (fun e => hn e.symm)
  refine ⟨Nat.le_trans h.bs hg.size, ho, h.b.of_heap (fun g e => hh g (h.b.lt g e).2 (fun e2 => h.ab g e2 e)), h.k.of_heap (fun g e => hh g (h.k.lt g e).2 (fun e2 => h.ak g e2 e)), fun g e e2 => ?_, fun g e e2 => ?_, h.bk⟩
  · rcases hn g e with k | k
    · exact h.ab g k e2
    · have := (h.b.lt g e2).2; omega
  · rcases hn g e with k | k
    · exact h.ak g k e2
    · have := (h.k.lt g e2).2; omega

set_option maxRecDepth 100000 in
set_option maxHeartbeats 8000000 in
theorem rmac (w : World) (p : Option Addr) (ks : List Int) (c : Nat) (hx : ByAt w p ks) (hr : Rng ks) (hl : ks.length ≤ 1000000) (q : Option Addr) (bs : List Int) (d : Nat) (hb : ByAt w q bs) (hrb : Rng bs) (hbl : bs.length ≤ 1000000) :
    Calls Tryd.prog 13 #[.slice p ks.length c, .slice q bs.length d] w fun e w' => e = .returned (agg32 (mac ks bs)) ∧ Upd [] w w' := by
  have hz : ∀ w : World, (zeroValue 24).run Tryd.prog w = .ok (.agg (row32 fun _ => 0).toArray) w := fun w => by kernel_rfl
  go_enter Tryd.func13, Tryd.ntmps13
  go_upto_region 1 with fail
  have u1 := (Upd.refl [] w).alloc (.cells (row32 fun _ => 0).toArray 24)
  have hT := Blk.new w (row32 fun _ => 0).toArray 24
  have hx1 := hx.upd_nil u1
  generalize w.alloc (.cells (row32 fun _ => 0).toArray 24) = W1 at *
  obtain ⟨R, hR⟩ : ∃ R, w.heap.size = R := ⟨_, rfl⟩
  rw [hR] at hT ⊢
  have hRw : w.heap.size ≤ R := by omega
  have HR := Lib.hid hR
  clear hR hx
  simp only [List.toList_toArray] at hT
  obtain ⟨n, hn⟩ : ∃ n, ks.length = n := ⟨_, rfl⟩
  have Hn := Lib.hid hn
  have HMac : Hid (mac ks bs = sha (padKey (keyOf ks) 92 ++ dig (padKey (keyOf ks) 54 ++ bs))) := Lib.hid rfl
  have hKl := keyOf_len ks
  have hKr := keyOf_rng hr
  rw [hn] at hl ⊢
  go_upto_region 2 with (at_builtin; refine app_bytes rfl _ _ rfl W1.heap.size _ [] rfl (OwnB.nil _ _) p n c ks rfl Hn.out.symm hx1 (by rw [Hn.out]; simp; omega) (Nat.le_refl _) ?_; rintro p2 c2 w2 hown2 hgrow2; simp only [List.nil_append, List.length_nil, Nat.zero_add, Hn.out] at hown2 ⊢)
  have u2 : Upd [] W1 w2 := (Upd.refl [] W1).grown hgrow2 (fun k hk => nomatch hk)
  have hT2 := hT.upd_nil u2
  clear hgrow2 hx1
  by_cases hl64 : 64 < n
  case' pos =>
    have HK : Hid (keyOf ks = dig ks) := Lib.hid (by unfold keyOf; rw [if_pos (by omega)])
    have hof := rof w2 p2 ks c2 hown2.at_ hr (by omega)
    rw [hn] at hof
    clear hn
    have hdl := dig_len ks
    have hdr := dig_rng ks
    have Hdd : Hid (dig ks = (List.range 32).map (sha ks)) := Lib.hid rfl
    rw [HK.out] at hKl hKr
    generalize sha ks = F0 at *
    generalize dig ks = K at *
    have hdl2 : Hid (K.length = 32) := Lib.hid hdl
    clear hdl
    go_upto_region 4 with (first
      | (refine wpList_store_rowTo rfl _ _ _ rfl rfl w3.heap.size (row32 F0).toArray rfl rfl _ (row32 fun _ => 0).toArray hD (rows32i _) (size32' _ _) (one32' _) ?_)
      | (go_at_call 22; refine hof.mono ?_; rintro e w3 ⟨rfl, u3⟩; have hD := Blk.new w3 (row32 fun _ => 0).toArray 24))
    have uD := ((Upd.refl [] w3).alloc (.cells (row32 fun _ => 0).toArray 24)).setRow (b := w3.heap.size) (Or.inr (Nat.le_refl _)) (row32 F0).toArray
    have hD3 := row32_bytes (hD.setRow (row32 F0).toArray)
    rw [← Hdd.out] at hD3
    have hT4 := (hT2.upd_nil u3).upd_nil uD
    have u4 := (u2.trans_nil u3).trans_nil uD
    clear hD uD u3 hof hT2 u2 hown2
    generalize (w3.alloc (.cells (row32 fun _ => 0).toArray 24)).setRow w3.heap.size (row32 F0).toArray = W4 at *
    generalize w3.heap.size = D at *
    go_upto_block 0 with (at_builtin; refine app_bytes rfl _ _ rfl W1.heap.size _ [] rfl (OwnB.nil _ _) (some ⟨D, 0, none⟩) 32 32 K rfl hdl2.out.symm hD3 (by rw [hdl2.out]; simp) u4.size ?_; rintro p5 c5 w5 hown5 hgrow5; simp only [List.nil_append, List.length_nil, Nat.zero_add, hdl2.out] at hown5 ⊢)
    have t5 : Upd [] W1 w5 := u4.grown hgrow5 (fun k hk => nomatch hk)
    clear hT4 hD3 hgrow5 u4
    go_cut [5] (fun s5 wx => ∃ p c z, K.length + z = 64 ∧ s5 = .slice p 64 c ∧ OwnB wx W1.heap.size (.slice p 64 c) (K ++ List.replicate z 0) ∧ Upd [] W1 wx)
    case first =>
      go_wp2_with fail
      go_loopw [5] (fun v wr => ∃ (z kz : Nat) (p' : Option Addr) (c' : Nat), K.length + z = kz ∧ kz ≤ 64 ∧ v = .slice p' kz c' ∧ OwnB wr W1.heap.size (.slice p' kz c') (K ++ List.replicate z 0) ∧ Upd [] W1 wr) (fun v _ => 64 - lenOf v)
      case atStart => exact ⟨0, _, p5, c5, hdl2.out, by omega, rfl, by simpa using hown5, t5⟩
      case round =>
        clear hown5 t5
        obtain ⟨z, kz, p4, c4, hkz, hk64, rfl, hown, hu⟩ := hrel
        by_cases hlt : kz < 64
        · have hln : (K ++ List.replicate z 0).length = kz := by rw [List.length_append, List.length_replicate]; exact hkz
          have hsz := hu.size
          have Hkz := Lib.hid hkz
          clear hkz
          go_wp2_with (at_builtin; refine app_bytes3 rfl _ _ rfl W1.heap.size (.slice p4 kz c4) (K ++ List.replicate z 0) kz hln rfl (hown.alloc _) (some ⟨wr.heap.size, 0, none⟩) 1 1 [0] rfl rfl (ByAt.one wr 0 _) (by omega) (by simp; omega) ?_; rintro p6 c6 w6 hown6 hgrow6 _)
          rw [List.append_assoc, ← List.replicate_succ'] at hown6
          exact ⟨⟨z + 1, kz + 1, p6, c6, by have := Hkz.out; omega, by omega, rfl, hown6, (hu.alloc _).grown hgrow6 (fun k hk => .inr (hown.lt k hk).1)⟩, by simp [lenOf]; omega⟩
        · obtain rfl : kz = 64 := by omega
          go_wp2_with fail
          go_meet
          exact ⟨p4, c4, z, hkz, rfl, hown, hu⟩
    case' rest =>
      obtain ⟨p6, c6, z6, hz6, rfl, hown6, u6⟩ := hcut
      clear hown5 t5
  case' neg =>
    have HK : Hid (keyOf ks = ks) := Lib.hid (by unfold keyOf; rw [if_neg (by omega)])
    rw [HK.out] at hKl hKr
    have hl65 : n ≤ 64 := by omega
    clear hT2
    obtain ⟨K, hKK⟩ : ∃ K, K = ks := ⟨_, rfl⟩
    rw [← hKK] at hown2 hKl hKr hn
    have HK : Hid (keyOf ks = K) := Lib.hid (by rw [hKK]; exact HK.out)
    have hdl2 : Hid (K.length = n) := Lib.hid hn
    have hown5 := hown2
    have t5 := u2
    obtain ⟨p5, hp5⟩ : ∃ x, x = p2 := ⟨_, rfl⟩
    obtain ⟨c5, hc5⟩ : ∃ x, x = c2 := ⟨_, rfl⟩
    subst hp5 hc5
    clear hKK hn hown2 u2
    go_upto_block 0 with fail
    go_cut [5] (fun s5 wx => ∃ p c z, K.length + z = 64 ∧ s5 = .slice p 64 c ∧ OwnB wx W1.heap.size (.slice p 64 c) (K ++ List.replicate z 0) ∧ Upd [] W1 wx)
    case first =>
      go_wp2_with fail
      go_loopw [5] (fun v wr => ∃ (z kz : Nat) (p' : Option Addr) (c' : Nat), K.length + z = kz ∧ kz ≤ 64 ∧ v = .slice p' kz c' ∧ OwnB wr W1.heap.size (.slice p' kz c') (K ++ List.replicate z 0) ∧ Upd [] W1 wr) (fun v _ => 64 - lenOf v)
      case atStart => exact ⟨0, _, p5, c5, hdl2.out, by omega, rfl, by simpa using hown5, t5⟩
      case round =>
        clear hown5 t5
        obtain ⟨z, kz, p4, c4, hkz, hk64, rfl, hown, hu⟩ := hrel
        by_cases hlt : kz < 64
        · have hln : (K ++ List.replicate z 0).length = kz := by rw [List.length_append, List.length_replicate]; exact hkz
          have hsz := hu.size
          have Hkz := Lib.hid hkz
          clear hkz
          go_wp2_with (at_builtin; refine app_bytes3 rfl _ _ rfl W1.heap.size (.slice p4 kz c4) (K ++ List.replicate z 0) kz hln rfl (hown.alloc _) (some ⟨wr.heap.size, 0, none⟩) 1 1 [0] rfl rfl (ByAt.one wr 0 _) (by omega) (by simp; omega) ?_; rintro p6 c6 w6 hown6 hgrow6 _)
          rw [List.append_assoc, ← List.replicate_succ'] at hown6
          exact ⟨⟨z + 1, kz + 1, p6, c6, by have := Hkz.out; omega, by omega, rfl, hown6, (hu.alloc _).grown hgrow6 (fun k hk => .inr (hown.lt k hk).1)⟩, by simp [lenOf]; omega⟩
        · obtain rfl : kz = 64 := by omega
          go_wp2_with fail
          go_meet
          exact ⟨p4, c4, z, hkz, rfl, hown, hu⟩
    case' rest =>
      obtain ⟨p6, c6, z6, hz6, rfl, hown6, u6⟩ := hcut
      clear hown5 t5
  all_goals (
    have HPad : ∀ add, Hid (padKey (keyOf ks) add = padKey (K ++ List.replicate z6 0) add) := fun add => Lib.hid (by rw [HK.out, padKey_zeros])
    have hKl6 : (K ++ List.replicate z6 0).length = 64 := by rw [List.length_append, List.length_replicate]; exact hz6
    have hKr6 : Rng (K ++ List.replicate z6 0) := hKr.app (fun x hx => by rw [(List.mem_replicate.1 hx).2]; omega)
    have H5 : Hid (mac ks bs = sha (padKey (K ++ List.replicate z6 0) 92 ++ dig (padKey (K ++ List.replicate z6 0) 54 ++ bs))) := Lib.hid (by rw [HMac.out, (HPad 92).out, (HPad 54).out])
    clear HPad HMac hKl hKr hz6 hl
    generalize K ++ List.replicate z6 0 = K6 at *
    obtain ⟨w6, rfl⟩ : ∃ w6, w6 = wc := ⟨_, rfl⟩
    have hb6 : ∀ W, Upd [] W1 W → ByAt W q bs := fun W u => hb.upd_nil (u1.trans_nil u)
    have h3 : Three w6 W1.heap.size (.slice none 0 0) (.slice none 0 0) (.slice p6 64 c6) (padUp K6 54 0) (padUp K6 92 0) K6 := ⟨u6.size, OwnB.nil _ _, OwnB.nil _ _, hown6, nofun, nofun, nofun⟩
    clear hown6
    go_wp2_with fail
    go_loopw [7, 8, 9] (fun av bv iv wr => ∃ (i c7 c8 : Nat) (p7 p8 : Option Addr), i ≤ 64 ∧ av = .slice p7 i c7 ∧ bv = .slice p8 i c8 ∧ iv = .int .i64 i ∧ Three wr W1.heap.size (.slice p7 i c7) (.slice p8 i c8) (.slice p6 64 c6) (padUp K6 54 i) (padUp K6 92 i) K6 ∧ Upd [] W1 wr) (fun _ _ iv _ => 64 - (intOf iv).toNat)
    case atStart => exact ⟨0, 0, 0, none, none, by omega, rfl, rfl, rfl, h3, u6⟩
    case round =>
      clear h3 u6
      obtain ⟨ni, c7, c8, p7, p8, hi, rfl, rfl, rfl, h3, hu⟩ := hrel
      obtain ⟨wo, rfl⟩ : ∃ wo, wo = wr := ⟨_, rfl⟩
      by_cases hlt : ni < 64
      · obtain ⟨g, rfl, hg1, hg2, -, q0, -, -⟩ := h3.k.spot ni (by omega)
        have hkb := hKr6.getD ni
        have e1 : bits BinOp.xor IntKind.u8 (K6.getD ni 0) 54 = keyB K6 54 ni := rfl
        have e2 : bits BinOp.xor IntKind.u8 (K6.getD ni 0) 92 = keyB K6 92 ni := rfl
        have P1 := Lib.hid (padUp_step K6 54 ni)
        have P2 := Lib.hid (padUp_step K6 92 ni)
        have L1 := Lib.hid (padUp_len K6 54 ni)
        have L2 := Lib.hid (padUp_len K6 92 ni)
        have hkc : ∀ W, Upd [] wo W → True := fun _ _ => trivial
        generalize keyB K6 54 ni = y1 at *
        generalize keyB K6 92 ni = y2 at *
        generalize hxk : K6.getD ni 0 = xk at *
        have Hxk := Lib.hid hxk
        have g1 : (0 : Int) ≤ ni := by omega
        have g2 : (ni : Int) < 64 := by omega
        clear hxk hkc
        have hA := h3.upd_nil ((Upd.refl [] wo).alloc (.cells #[.int .u8 y1] 5))
        have uA := hu.alloc (.cells #[.int .u8 y1] 5)
        go_upto_region 12 with (at_builtin; refine app_bytes3 rfl _ _ rfl W1.heap.size (.slice p7 ni c7) (padUp K6 54 ni) ni L1.out rfl hA.a (some ⟨wo.heap.size, 0, none⟩) 1 1 [y1] rfl rfl (ByAt.one wo y1 _) (by omega) hA.bs ?_; rintro p9 c9 w9 ho9 hg9 hn9)
        have h9 := hA.app ho9 hg9 hn9
        have u9 : Upd [] W1 w9 := uA.grown hg9 (fun k hk => .inr (hA.a.lt k hk).1)
        rw [P1.out] at h9
        clear hA uA ho9 hg9 hn9 h3 hu q0 e1
        obtain ⟨g', hg', -, -, -, q0, -, -⟩ := h9.k.spot ni (by omega)
        obtain rfl : g' = g := by injection hg' with hg'; injection hg' with hg'; exact hg'.symm
        rw [Hxk.out] at q0
        have hB := h9.upd_nil ((Upd.refl [] w9).alloc (.cells #[.int .u8 y2] 5))
        have uB := u9.alloc (.cells #[.int .u8 y2] 5)
        go_wp2_with (at_builtin; refine app_bytes3 rfl _ _ rfl W1.heap.size (.slice p8 ni c8) (padUp K6 92 ni) ni L2.out rfl hB.b (some ⟨w9.heap.size, 0, none⟩) 1 1 [y2] rfl rfl (ByAt.one w9 y2 _) (by omega) hB.bs ?_; rintro p10 c10 w10 ho10 hg10 hn10)
        have h10 := (hB.swap.app ho10 hg10 hn10).swap
        have u10 : Upd [] W1 w10 := uB.grown hg10 (fun k hk => .inr (hB.b.lt k hk).1)
        rw [P2.out] at h10
        exact ⟨⟨ni + 1, c9, c10, p9, p10, by omega, rfl, rfl, by go_num, h10, u10⟩, by simp [intOf]; omega⟩
      · obtain rfl : ni = 64 := by omega
        rw [padUp_all, padUp_all] at h3
        have l54 := padKey_len K6 54
        have l92 := padKey_len K6 92
        have r54 := padKey_rng K6 54
        have r92 := padKey_rng K6 92
        generalize padKey K6 54 = L54 at *
        generalize padKey K6 92 = L92 at *
        have L1 := Lib.hid l54
        have L2 := Lib.hid l92
        clear l54 l92
        obtain ⟨m, hm⟩ : ∃ m, bs.length = m := ⟨_, rfl⟩
        have Hm := Lib.hid hm
        rw [hm] at hbl ⊢
        clear hm
        have hof1 : ∀ W p c, ByAt W p (L54 ++ bs) → Calls Tryd.prog 22 #[.slice p (64 + m) c] W fun e w' => e = .returned (agg32 (sha (L54 ++ bs))) ∧ Upd [] W w' := fun W p c hB => by
          have := rof W p (L54 ++ bs) c hB (r54.app hrb) (by rw [List.length_append, L1.out, Hm.out]; omega)
          rw [List.length_append, L1.out, Hm.out] at this
          exact this
        have hdl := dig_len (L54 ++ bs)
        have hdr := dig_rng (L54 ++ bs)
        have Hdd : Hid (dig (L54 ++ bs) = (List.range 32).map (sha (L54 ++ bs))) := Lib.hid rfl
        generalize sha (L54 ++ bs) = F1 at *
        generalize dig (L54 ++ bs) = D1 at *
        have Hdl := Lib.hid hdl
        clear hdl
        go_upto_region 14 with (first
          | (refine wpList_store_rowTo rfl _ _ _ rfl rfl w12.heap.size (row32 F1).toArray rfl rfl _ (row32 fun _ => 0).toArray hD (rows32i _) (size32' _ _) (one32' _) ?_)
          | (go_at_call 22; refine (hof1 _ _ _ ho11.at_).mono ?_; rintro e w12 ⟨rfl, u12⟩; have hD := Blk.new w12 (row32 fun _ => 0).toArray 24)
          | (at_builtin; refine app_bytes3 rfl _ _ rfl W1.heap.size (.slice p7 64 c7) L54 64 L1.out rfl h3.a q m d bs rfl Hm.out.symm (hb6 _ hu) (by omega) h3.bs ?_; rintro p11 c11 w11 ho11 hg11 hn11))
        have h11 := h3.app ho11 hg11 hn11
        have u11 : Upd [] W1 w11 := hu.grown hg11 (fun k hk => .inr (h3.a.lt k hk).1)
        have uD := ((Upd.refl [] w12).alloc (.cells (row32 fun _ => 0).toArray 24)).setRow (b := w12.heap.size) (Or.inr (Nat.le_refl _)) (row32 F1).toArray
        have hD3 := row32_bytes (hD.setRow (row32 F1).toArray)
        rw [← Hdd.out] at hD3
        have h13 := (h11.upd_nil u12).upd_nil uD
        have u13 := (u11.trans_nil u12).trans_nil uD
        clear hD uD u12 hof1 h3 hu ho11 hg11 hn11 h11 u11
        generalize (w12.alloc (.cells (row32 fun _ => 0).toArray 24)).setRow w12.heap.size (row32 F1).toArray = W13 at *
        generalize w12.heap.size = D at *
        have hof2 : ∀ W p c, ByAt W p (L92 ++ D1) → Calls Tryd.prog 22 #[.slice p (64 + 32) c] W fun e w' => e = .returned (agg32 (sha (L92 ++ D1))) ∧ Upd [] W w' := fun W p c hB => by
          have := rof W p (L92 ++ D1) c hB (r92.app hdr) (by rw [List.length_append, L2.out, Hdl.out]; omega)
          rw [List.length_append, L2.out, Hdl.out] at this
          exact this
        have hTW : ∀ W, Upd [] W1 W → Blk W R (row32 fun _ => 0) 24 := fun W u => hT.upd_nil u
        obtain ⟨F2, hF2⟩ : ∃ F2, sha (L92 ++ D1) = F2 := ⟨_, rfl⟩
        rw [hF2] at hof2
        have HF2 : Hid (mac ks bs = F2) := Lib.hid (by rw [H5.out, hF2])
        clear hF2 hT
        go_wp2_with (first
          | (refine wpList_store_rowTo rfl _ _ _ rfl rfl R (row32 F2).toArray rfl rfl _ (row32 fun _ => 0).toArray (hTW _ u15) (rows32i _) (size32' _ _) (one32' _) ?_)
          | (go_at_call 22; refine (hof2 _ _ _ ho14.at_).mono ?_; rintro e w15 ⟨rfl, v15⟩; have u15 : Upd [] W1 w15 := (u13.grown hg14 (fun k hk => .inr (h13.b.lt k hk).1)).trans_nil v15)
          | (at_builtin; refine app_bytes3 rfl _ _ rfl W1.heap.size (.slice p8 64 c8) L92 64 L2.out rfl h13.b (some ⟨D, 0, none⟩) 32 32 D1 rfl Hdl.out.symm hD3 (by omega) h13.bs ?_; rintro p14 c14 w14 ho14 hg14 hn14))
        have hT2 := (hTW _ u15).setRow (row32 F2).toArray
        exact bodyPost_ret (v := agg32 F2) (results_cell_row rfl _ _ R _ _ _ _ rfl hT2 Tryd.underlying24 rfl (rows32i _)) rfl ⟨by rw [HF2.out], (u1.trans_nil u15).setRow (Or.inr hRw) _⟩)

end Go.Proofs.YtclfmgkomkmbjaaDoor
