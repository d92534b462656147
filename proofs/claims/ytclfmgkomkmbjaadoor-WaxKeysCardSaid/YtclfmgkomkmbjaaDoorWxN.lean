/- WaxKeys: the walk. -/
import Derived.Test.YtclfmgkomkmbjaaDoorWxF
import Derived.Test.YtclfmgkomkmbjaaDoorReg2
import Derived.Test.YtclfmgkomkmbjaaDoorReg3
import Derived.Test.YtclfmgkomkmbjaaDoorZer
import Derived.Test.YtclfmgkomkmbjaaDoorKnG
namespace Go.Proofs.YtclfmgkomkmbjaaDoor
open Go.RowKit

theorem own_of {w : World} {base n : Nat} {v : Value} {xs : List Int} (hn : xs.length = n) (h : w.ownsRow base 5 1 v n (u8s xs)) : OwnB w base v xs := by
  subst hn; exact h
theorem own_to {w : World} {base n : Nat} {v : Value} {xs : List Int} (hn : xs.length = n) (h : OwnB w base v xs) : w.ownsRow base 5 1 v n (u8s xs) := by
  subst hn; exact h

/-- What stands where an own row of bytes grows. -/
def KeepOwn (N n : Nat) (K : List Int) (w w' : World) : Prop :=
  (∀ b cs, Blk w b cs 22 → Blk w' b cs 22) ∧ ∀ u, w.ownsRow N 5 1 u n (u8s K) → w'.ownsRow N 5 1 u n (u8s K)

theorem keys_app {W0 w w1 : World} {N n m km : Nat} {v : Value} {p p' : Option Addr} {c c' : Nat} {K : List Int} (hn : K.length = n) (hkm : n + m = km) (h1 : OwnB w1 N (.slice p' (K.length + m) c') (K ++ List.replicate m 0))
    (e : v = .slice p n c) (O : w.ownsRow N 5 1 v n (u8s K)) (h2 : w.grownBy w1 v.ownBlock) (h3 : ∀ u, OwnB w N u K → OwnB w1 N u K) (hS : Upd [] W0 w) (hN : W0.heap.size = N) :
    ((∃ p c, Value.slice p' (K.length + m) c' = .slice p km c) ∧ w1.ownsRow N 5 1 (.slice p' (K.length + m) c') km (u8s (K ++ List.replicate m 0))) ∧ (Upd [] W0 w1 ∧ KeepOwn N n K w w1) := by
  subst hn hkm
  refine ⟨⟨⟨p', c', rfl⟩, own_to (by simp) h1⟩, hS.grown h2 (fun k hk => .inr (by have := (O.lt k hk).1; omega)), fun b cs hb => ?_, fun u hu => own_to rfl (h3 u (own_of rfl hu))⟩
  have hne : some b ≠ v.ownBlock := by
    intro hb2
    rcases O.2 with ⟨rfl, _⟩ | ⟨g, cap, cur, rfl, _, hg, _⟩
    · simp [Value.ownBlock] at hb2
    · simp only [Value.ownBlock, Option.some.injEq] at hb2
      subst hb2
      unfold Blk at hb
      rw [hb] at hg
      simp only [Option.some.injEq, Obj.cells.injEq] at hg
      exact absurd hg.2.1 (by decide)
  unfold Blk
  rw [h2.block b hb.lt hne]
  exact hb

set_option maxRecDepth 100000 in
set_option maxHeartbeats 8000000 in
theorem keys_walk (w : World) (p : Option Addr) (ks : List Int) (c : Nat) (hk : ByAt w p ks) (hrk : Rng ks) (hkl : ks.length ≤ 9223372036854775807) (hkc : ks.length ≤ c) (q : Option Addr) (bs : List Int) (d : Nat) (hb : ByAt w q bs) (hrb : Rng bs) (hbl : bs.length ≤ 9223372036854775807) (hbc : bs.length ≤ d)
    (z : Int) (hz1 : -9223372036854775808 ≤ z) (hz2 : z ≤ 9223372036854775807) (hdb : w.cell? ⟨3, 15, none⟩ = some (.int .u8 4)) :
    Calls Tryd.prog 3 #[.slice p ks.length c, .slice q bs.length d, .int .i64 z] w fun e w' => e = .returned (.bool true) ∧ Upd [] w w' := by
  go_enter Tryd.func3, Tryd.ntmps3
  go_upto_region 3 with (go_at_call 8; refine (works_walk _ hdb).mono ?_; rintro e w1 ⟨rfl, t1⟩)
  obtain ⟨kn, hkn⟩ : ∃ kn : Nat, min (ks.length : Int) 500 = kn := ⟨min ks.length 500, by omega⟩
  obtain ⟨bn, hbn⟩ : ∃ bn : Nat, min (bs.length : Int) 500 = bn := ⟨min bs.length 500, by omega⟩
  have hK : ByAt w p (ks.take 500) := hk.take 500
  have hB : ByAt w q (bs.take 500) := hb.take 500
  have hKr : Rng (ks.take 500) := hrk.take 500
  have hBr : Rng (bs.take 500) := hrb.take 500
  have hKl : (ks.take 500).length = kn := by rw [List.length_take]; omega
  have hBl : (bs.take 500).length = bn := by rw [List.length_take]; omega
  have Hkn := Lib.hid hkn
  have Hbn := Lib.hid hbn
  have k1 : (kn : Int) ≤ c := by omega
  have k2 : (bn : Int) ≤ d := by omega
  have k3 : (0 : Int) ≤ kn := by omega
  have k4 : (0 : Int) ≤ bn := by omega
  have k5 : kn ≤ 500 := by omega
  have k6 : bn ≤ 500 := by omega
  have k7 : kn ≤ c := by omega
  have k8 : bn ≤ d := by omega
  clear hkn hbn hk hb hdb
  generalize ks.take 500 = K at *
  generalize bs.take 500 = B at *
  have HKl := Lib.hid hKl
  have HBl := Lib.hid hBl
  clear hKl hBl
  refine wp_region_spec2 [(.eq (.slice p ks.length c)), (.eq (.slice p ks.length c)), (.eq (.int .i64 (ks.length : Int))), (.eq (.int .i64 (kn : Int))), (.eq (.slice p kn c)), (.eq (.slice q bs.length d)), (.eq (.slice q bs.length d)), (.eq (.int .i64 (bs.length : Int))), (.eq (.int .i64 (bn : Int))), (.eq (.slice q bn d)), (.eq (.slice p kn c)), (.eq (.slice q bn d))] (by kernel_rfl) (by kernel_rfl) rfl ?step ?fin
  case step =>
    intro i o ho a w' hS hold hneed K' hK
    match i, ho with
    | 0, ho =>
      obtain rfl := Option.some.inj ho
      have d0 := hold 0 _ (by kernel_rfl) rfl
      clear hold hneed ho
      (go_simp; exact hK _ _ rfl (Upd.refl [] _))
    | 1, ho =>
      obtain rfl := Option.some.inj ho
      have d0 := hold 0 _ (by kernel_rfl) rfl
      clear hold hneed ho
      (go_simp; exact hK _ _ rfl (Upd.refl [] _))
    | 2, ho =>
      obtain rfl := Option.some.inj ho
      have d12 := get_of_at (hneed 1 (of_decide_eq_true (by kernel_rfl)) 12 rfl) (by simp [undef])
      clear hold hneed ho
      (go_simp; exact hK _ _ rfl (Upd.refl [] _))
    | 3, ho =>
      obtain rfl := Option.some.inj ho
      have d13 := get_of_at (hneed 2 (of_decide_eq_true (by kernel_rfl)) 13 rfl) (by simp [undef])
      clear hold hneed ho
      (go_simp; rw [Hkn.out]; exact hK _ _ rfl (Upd.refl [] _))
    | 4, ho =>
      obtain rfl := Option.some.inj ho
      have d11 := get_of_at (hneed 0 (of_decide_eq_true (by kernel_rfl)) 11 rfl) (by simp [undef])
      have d14 := get_of_at (hneed 3 (of_decide_eq_true (by kernel_rfl)) 14 rfl) (by simp [undef])
      clear hold hneed ho
      (go_simp; exact hK _ _ rfl (Upd.refl [] _))
    | 5, ho =>
      obtain rfl := Option.some.inj ho
      have d1 := hold 1 _ (by kernel_rfl) rfl
      clear hold hneed ho
      (go_simp; exact hK _ _ rfl (Upd.refl [] _))
    | 6, ho =>
      obtain rfl := Option.some.inj ho
      have d1 := hold 1 _ (by kernel_rfl) rfl
      clear hold hneed ho
      (go_simp; exact hK _ _ rfl (Upd.refl [] _))
    | 7, ho =>
      obtain rfl := Option.some.inj ho
      have d17 := get_of_at (hneed 6 (of_decide_eq_true (by kernel_rfl)) 17 rfl) (by simp [undef])
      clear hold hneed ho
      (go_simp; exact hK _ _ rfl (Upd.refl [] _))
    | 8, ho =>
      obtain rfl := Option.some.inj ho
      have d18 := get_of_at (hneed 7 (of_decide_eq_true (by kernel_rfl)) 18 rfl) (by simp [undef])
      clear hold hneed ho
      (go_simp; rw [Hbn.out]; exact hK _ _ rfl (Upd.refl [] _))
    | 9, ho =>
      obtain rfl := Option.some.inj ho
      have d16 := get_of_at (hneed 5 (of_decide_eq_true (by kernel_rfl)) 16 rfl) (by simp [undef])
      have d19 := get_of_at (hneed 8 (of_decide_eq_true (by kernel_rfl)) 19 rfl) (by simp [undef])
      clear hold hneed ho
      (go_simp; exact hK _ _ rfl (Upd.refl [] _))
    | 10, ho =>
      obtain rfl := Option.some.inj ho
      have d15 := get_of_at (hneed 4 (of_decide_eq_true (by kernel_rfl)) 15 rfl) (by simp [undef])
      clear hold hneed ho
      (go_simp; exact hK _ _ rfl (Upd.refl [] _))
    | 11, ho =>
      obtain rfl := Option.some.inj ho
      have d20 := get_of_at (hneed 9 (of_decide_eq_true (by kernel_rfl)) 20 rfl) (by simp [undef])
      clear hold hneed ho
      (go_simp; exact hK _ _ rfl (Upd.refl [] _))
    | _ + 12, ho => exact absurd ho (by simp)
  case fin =>
    intro a w' hS hsz hdf hold hvals
    have ha := act_lit hsz hdf (RowIs.cons (hvals 10 0 rfl) (RowIs.cons (hvals 11 1 rfl) (RowIs.cons (at_of_get (hold 2 _ (by kernel_rfl) rfl)) (RowIs.cons (at_of_get (hold 3 _ (by kernel_rfl) rfl)) (RowIs.cons (at_of_get (hold 4 _ (by kernel_rfl) rfl)) (RowIs.cons (at_of_get (hold 5 _ (by kernel_rfl) rfl)) (RowIs.cons (at_of_get (hold 6 _ (by kernel_rfl) rfl)) (RowIs.cons (at_of_get (hold 7 _ (by kernel_rfl) rfl)) (RowIs.cons (at_of_get (hold 8 _ (by kernel_rfl) rfl)) (RowIs.cons (at_of_get (hold 9 _ (by kernel_rfl) rfl)) (RowIs.cons (at_of_get (hold 10 _ (by kernel_rfl) rfl)) (RowIs.cons (hvals 0 11 rfl) (RowIs.cons (hvals 1 12 rfl) (RowIs.cons (hvals 2 13 rfl) (RowIs.cons (hvals 3 14 rfl) (RowIs.cons (hvals 4 15 rfl) (RowIs.cons (hvals 5 16 rfl) (RowIs.cons (hvals 6 17 rfl) (RowIs.cons (hvals 7 18 rfl) (RowIs.cons (hvals 8 19 rfl) (RowIs.cons (hvals 9 20 rfl) (RowIs.cons (at_of_get (hold 21 _ (by kernel_rfl) rfl)) (RowIs.cons (at_of_get (hold 22 _ (by kernel_rfl) rfl)) (RowIs.cons (at_of_get (hold 23 _ (by kernel_rfl) rfl)) (RowIs.cons (at_of_get (hold 24 _ (by kernel_rfl) rfl)) (RowIs.cons (at_of_get (hold 25 _ (by kernel_rfl) rfl)) (RowIs.cons (at_of_get (hold 26 _ (by kernel_rfl) rfl)) (RowIs.cons (at_of_get (hold 27 _ (by kernel_rfl) rfl)) (RowIs.cons (at_of_get (hold 28 _ (by kernel_rfl) rfl)) (RowIs.cons (at_of_get (hold 29 _ (by kernel_rfl) rfl)) (RowIs.cons (at_of_get (hold 30 _ (by kernel_rfl) rfl)) (RowIs.cons (at_of_get (hold 31 _ (by kernel_rfl) rfl)) (RowIs.cons (at_of_get (hold 32 _ (by kernel_rfl) rfl)) (RowIs.cons (at_of_get (hold 33 _ (by kernel_rfl) rfl)) (RowIs.cons (at_of_get (hold 34 _ (by kernel_rfl) rfl)) (RowIs.cons (at_of_get (hold 35 _ (by kernel_rfl) rfl)) (RowIs.cons (at_of_get (hold 36 _ (by kernel_rfl) rfl)) (RowIs.cons (at_of_get (hold 37 _ (by kernel_rfl) rfl)) (RowIs.cons (at_of_get (hold 38 _ (by kernel_rfl) rfl)) (RowIs.cons (at_of_get (hold 39 _ (by kernel_rfl) rfl)) (RowIs.cons (at_of_get (hold 40 _ (by kernel_rfl) rfl)) (RowIs.cons (at_of_get (hold 41 _ (by kernel_rfl) rfl)) (RowIs.cons (at_of_get (hold 42 _ (by kernel_rfl) rfl)) (RowIs.cons (at_of_get (hold 43 _ (by kernel_rfl) rfl)) (RowIs.cons (at_of_get (hold 44 _ (by kernel_rfl) rfl)) (RowIs.cons (at_of_get (hold 45 _ (by kernel_rfl) rfl)) (RowIs.cons (at_of_get (hold 46 _ (by kernel_rfl) rfl)) (RowIs.cons (at_of_get (hold 47 _ (by kernel_rfl) rfl)) (RowIs.cons (at_of_get (hold 48 _ (by kernel_rfl) rfl)) (RowIs.nil _ _)))))))))))))))))))))))))))))))))))))))))))))))))) rfl
    clear hsz hdf hold hvals
    subst ha
    try simp only [List.getElem_toArray, List.getElem_cons_succ, List.getElem_cons_zero]
    have t2 := t1.trans_nil hS
    clear t1 hS
    obtain ⟨w2, rfl⟩ : ∃ w2, w2 = w' := ⟨_, rfl⟩
    have hBl := Blk.new w2 #[.slice q bn d] 22
    have uB := (Upd.refl [] w2).alloc (.cells #[.slice q bn d] 22)
    have tB := t2.trans_nil uB
    have hKB : ∀ W, Upd [] w W → ByAt W p K ∧ ByAt W q B := fun W u => ⟨hK.upd_nil u, hB.upd_nil u⟩
    have hBrow : RowsAt (w2.alloc (.cells #[.slice q bn d] 22)) (some ⟨w2.heap.size, 0, none⟩) [B] := rows1 (p1 := q) (xs := B) (c1 := d) (by rw [HBl.out]; exact hBl) (hKB _ tB).2 hBr (by rw [HBl.out]; exact k8)
    have hw1 := mac_walk _ p K c (hKB _ tB).1 hKr (by rw [HKl.out]; omega) (some ⟨w2.heap.size, 0, none⟩) [B] 1 hBrow (by simp) (by simp only [List.flatten_cons, List.flatten_nil, List.append_nil, HBl.out]; omega)
    rw [HKl.out] at hw1
    simp only [List.flatten_cons, List.flatten_nil, List.append_nil, List.length_singleton] at hw1
    obtain ⟨F, hF⟩ : ∃ F, mac K B = F := ⟨_, rfl⟩
    rw [hF] at hw1
    have HF := Lib.hid hF
    clear hF hrk hrb hkl hkc hbl hbc
    have hz : ∀ w : World, (zeroValue 24).run Tryd.prog w = .ok (.agg (row32 fun _ => 0).toArray) w := fun w => by kernel_rfl
    go_upto_region 5 with (first
      | (go_at_call 9; refine hw1.mono ?_; rintro e w5 ⟨rfl, u5⟩; have hR := Blk.new w5 (row32 fun _ => 0).toArray 24)
      | (refine wpList_store_rowTo rfl _ _ _ rfl rfl _ (row32 F).toArray rfl rfl _ (row32 fun _ => 0).toArray hR (info32 _) (size32 _ _) (one32 _) ?_))
    have uR := ((Upd.refl [] w5).alloc (.cells (row32 fun _ => 0).toArray 24)).setRow (b := w5.heap.size) (Or.inr (Nat.le_refl _)) (row32 F).toArray
    have hR5 := hR.setRow (row32 F).toArray
    have t5 := (tB.trans_nil u5).trans_nil uR
    clear hR uR u5 tB hw1 hBrow hBl uB t2
    generalize (w5.alloc (.cells (row32 fun _ => 0).toArray 24)).setRow w5.heap.size (row32 F).toArray = W5 at *
    generalize w5.heap.size = R at *
    have hRr : ∀ W, Upd [] W5 W → W.heap[R]? = some (.cells (row32 F).toArray 24 (0, 0)) := fun W u => by
      have := hR5.upd_nil u
      unfold Blk at this
      exact this
    rcases Nat.lt_or_ge 64 kn with h64 | h64
    · have hof := of_walk W5 p K c (hKB _ t5).1 hKr (by rw [HKl.out]; omega)
      rw [HKl.out] at hof
      obtain ⟨G, hG⟩ : ∃ G, sha K = G := ⟨_, rfl⟩
      rw [hG] at hof
      have HG := Lib.hid hG
      clear hG
      go_upto_region 7 with (first
        | (go_at_call 10; refine hof.mono ?_; rintro e w6 ⟨rfl, u6⟩; have hD := Blk.new w6 (row32 fun _ => 0).toArray 24)
        | (refine wpList_store_rowTo rfl _ _ _ rfl rfl _ (row32 G).toArray rfl rfl _ (row32 fun _ => 0).toArray hD (info32 _) (size32 _ _) (one32 _) ?_))
      have uD := ((Upd.refl [] w6).alloc (.cells (row32 fun _ => 0).toArray 24)).setRow (b := w6.heap.size) (Or.inr (Nat.le_refl _)) (row32 G).toArray
      have hD5 := hD.setRow (row32 G).toArray
      have v7 := u6.trans_nil uD
      have t7 := t5.trans_nil v7
      replace hRr := fun (W : World) u => hRr W (v7.trans_nil u)
      clear hof hD uD u6 hR5 v7 hz
      generalize (w6.alloc (.cells (row32 fun _ => 0).toArray 24)).setRow w6.heap.size (row32 G).toArray = W7 at *
      generalize w6.heap.size = D at *
      have hCd : ∀ W g, Upd [] W7 W → Blk W g [.slice q bn d] 22 → Calls Tryd.prog 9 #[.slice (some ⟨D, 0, none⟩) 32 32, .slice (some ⟨g, 0, none⟩) 1 1] W fun e w' => e = .returned (.agg (row32 F).toArray) ∧ Upd [] W w' := fun W g u hg => by
        have hw := hKB W (t7.trans_nil u)
        have hrow := rows1 (xs := B) (c1 := d) (p1 := q) (by rw [HBl.out]; exact hg) hw.2 hBr (by rw [HBl.out]; omega)
        have hcut : [B].flatten = B := by simp
        have hd := row32_bytes (hD5.upd_nil u)
        rw [← HG.out] at hd
        have := mac_walk W (some ⟨D, 0, none⟩) (dig K) 32 hd (dig_rng K) (by rw [dig_len]; omega) (some ⟨g, 0, none⟩) _ 1 hrow (by simp) (by rw [hcut, HBl.out]; omega)
        rw [dig_len, hcut, mac_dig (by rw [HKl.out]; exact h64), HF.out] at this
        exact this
      clear hD5 hKB
      refine wp_region_spec [(.eq (.slice (some ⟨D, 0, none⟩) 32 32)), (.eq (.slice q bn d)), (.sl 1 1 [.slice q bn d] 22), (.eq (.agg (row32 F).toArray)), (.eq (.agg (row32 F).toArray)), (.eq (.bool true)), (.eq (.bool true))] (by kernel_rfl) (by kernel_rfl) rfl ?step ?fin
      case step =>
        intro i o ho a w' hS hold hneed K' hK
        match i, ho with
        | 0, ho =>
          obtain rfl := Option.some.inj ho
          have d8 := hold 8 _ (by kernel_rfl) rfl
          clear hold hneed ho
          (go_simp; exact hK _ _ rfl (Upd.refl [] _))
        | 1, ho =>
          obtain rfl := Option.some.inj ho
          have d1 := hold 1 _ (by kernel_rfl) rfl
          clear hold hneed ho
          (go_simp; exact hK _ _ rfl (Upd.refl [] _))
        | 2, ho =>
          obtain rfl := Option.some.inj ho
          have d31 := get_of_at (hneed 1 (of_decide_eq_true (by kernel_rfl)) 31 rfl) (by simp [undef])
          clear hold hneed ho
          (go_simp; exact hK _ _ ⟨_, rfl, Blk.new _ _ _⟩ ((Upd.refl [] _).alloc _))
        | 3, ho =>
          obtain rfl := Option.some.inj ho
          have d30 := get_of_at (hneed 0 (of_decide_eq_true (by kernel_rfl)) 30 rfl) (by simp [undef])
          obtain ⟨b32, e32, hB32⟩ := hneed 2 (of_decide_eq_true (by kernel_rfl)) 32 rfl
          have d32 := get_of_at e32 (by simp [undef])
          clear hold hneed ho
          (go_simp; refine (hCd _ _ hS hB32).mono ?_; rintro e w3 ⟨rfl, hu3⟩; exact hK _ _ rfl hu3)
        | 4, ho =>
          obtain rfl := Option.some.inj ho
          have d7 := hold 7 _ (by kernel_rfl) rfl
          clear hold hneed ho
          (rw [if_pos (by simp [Region.wanted, yielded, *])]; exact wp_load_row 24 (.tmp 7) rfl R (by simp [Act.eval, *]) 24 _ (0, 0) _ (hRr _ hS) Tryd.underlying24 rfl (info32 _) (hK _ _ rfl (Upd.refl [] _)))
        | 5, ho =>
          obtain rfl := Option.some.inj ho
          have d33 := get_of_at (hneed 3 (of_decide_eq_true (by kernel_rfl)) 33 rfl) (by simp [undef])
          have d34 := get_of_at (hneed 4 (of_decide_eq_true (by kernel_rfl)) 34 rfl) (by simp [undef])
          clear hold hneed ho
          (go_simp; rw [eq_same]; go_simp; exact hK _ _ rfl (Upd.refl [] _))
        | 6, ho =>
          obtain rfl := Option.some.inj ho
          have d35 := get_of_at (hneed 5 (of_decide_eq_true (by kernel_rfl)) 35 rfl) (by simp [undef])
          clear hold hneed ho
          (go_simp; exact hK _ _ rfl (Upd.refl [] _))
        | _ + 7, ho => exact absurd ho (by simp)
      case fin =>
        intro a w' hS hsz hdf hold hvals
        obtain ⟨b32, hv32, hB32⟩ := hvals 2 32 rfl
        have ha := act_lit hsz hdf (RowIs.cons (at_of_get (hold 0 _ (by kernel_rfl) rfl)) (RowIs.cons (at_of_get (hold 1 _ (by kernel_rfl) rfl)) (RowIs.cons (at_of_get (hold 2 _ (by kernel_rfl) rfl)) (RowIs.cons (at_of_get (hold 3 _ (by kernel_rfl) rfl)) (RowIs.cons (at_of_get (hold 4 _ (by kernel_rfl) rfl)) (RowIs.cons (at_of_get (hold 5 _ (by kernel_rfl) rfl)) (RowIs.cons (hvals 6 6 rfl) (RowIs.cons (at_of_get (hold 7 _ (by kernel_rfl) rfl)) (RowIs.cons (at_of_get (hold 8 _ (by kernel_rfl) rfl)) (RowIs.cons (at_of_get (hold 9 _ (by kernel_rfl) rfl)) (RowIs.cons (at_of_get (hold 10 _ (by kernel_rfl) rfl)) (RowIs.cons (at_of_get (hold 11 _ (by kernel_rfl) rfl)) (RowIs.cons (at_of_get (hold 12 _ (by kernel_rfl) rfl)) (RowIs.cons (at_of_get (hold 13 _ (by kernel_rfl) rfl)) (RowIs.cons (at_of_get (hold 14 _ (by kernel_rfl) rfl)) (RowIs.cons (at_of_get (hold 15 _ (by kernel_rfl) rfl)) (RowIs.cons (at_of_get (hold 16 _ (by kernel_rfl) rfl)) (RowIs.cons (at_of_get (hold 17 _ (by kernel_rfl) rfl)) (RowIs.cons (at_of_get (hold 18 _ (by kernel_rfl) rfl)) (RowIs.cons (at_of_get (hold 19 _ (by kernel_rfl) rfl)) (RowIs.cons (at_of_get (hold 20 _ (by kernel_rfl) rfl)) (RowIs.cons (at_of_get (hold 21 _ (by kernel_rfl) rfl)) (RowIs.cons (at_of_get (hold 22 _ (by kernel_rfl) rfl)) (RowIs.cons (at_of_get (hold 23 _ (by kernel_rfl) rfl)) (RowIs.cons (at_of_get (hold 24 _ (by kernel_rfl) rfl)) (RowIs.cons (at_of_get (hold 25 _ (by kernel_rfl) rfl)) (RowIs.cons (at_of_get (hold 26 _ (by kernel_rfl) rfl)) (RowIs.cons (at_of_get (hold 27 _ (by kernel_rfl) rfl)) (RowIs.cons (at_of_get (hold 28 _ (by kernel_rfl) rfl)) (RowIs.cons (at_of_get (hold 29 _ (by kernel_rfl) rfl)) (RowIs.cons (hvals 0 30 rfl) (RowIs.cons (hvals 1 31 rfl) (RowIs.cons hv32 (RowIs.cons (hvals 3 33 rfl) (RowIs.cons (hvals 4 34 rfl) (RowIs.cons (hvals 5 35 rfl) (RowIs.cons (at_of_get (hold 36 _ (by kernel_rfl) rfl)) (RowIs.cons (at_of_get (hold 37 _ (by kernel_rfl) rfl)) (RowIs.cons (at_of_get (hold 38 _ (by kernel_rfl) rfl)) (RowIs.cons (at_of_get (hold 39 _ (by kernel_rfl) rfl)) (RowIs.cons (at_of_get (hold 40 _ (by kernel_rfl) rfl)) (RowIs.cons (at_of_get (hold 41 _ (by kernel_rfl) rfl)) (RowIs.cons (at_of_get (hold 42 _ (by kernel_rfl) rfl)) (RowIs.cons (at_of_get (hold 43 _ (by kernel_rfl) rfl)) (RowIs.cons (at_of_get (hold 44 _ (by kernel_rfl) rfl)) (RowIs.cons (at_of_get (hold 45 _ (by kernel_rfl) rfl)) (RowIs.cons (at_of_get (hold 46 _ (by kernel_rfl) rfl)) (RowIs.cons (at_of_get (hold 47 _ (by kernel_rfl) rfl)) (RowIs.cons (at_of_get (hold 48 _ (by kernel_rfl) rfl)) (RowIs.nil _ _)))))))))))))))))))))))))))))))))))))))))))))))))) rfl
        clear hsz hdf hold hvals
        subst ha
        try simp only [List.getElem_toArray, List.getElem_cons_succ, List.getElem_cons_zero]
        have t8 := t7.trans_nil hS
        go_wp2_with fail
        go_ret
        exact ⟨rfl, t8⟩
    · obtain ⟨m, hm, hml⟩ : ∃ m : Nat, z % (65 - (kn : Int)) = m ∧ m ≤ 64 - kn := by
        obtain ⟨h1, h2⟩ := bring_bd z (65 - (kn : Int)) (by omega)
        exact ⟨(z % (65 - (kn : Int))).toNat, by omega, by omega⟩
      have hCb := fun W => bring_any z (65 - (kn : Int)) W (by omega) (by omega) hz1 hz2
      rw [hm] at hCb
      clear hm
      obtain ⟨N, hN⟩ : ∃ N, W5.heap.size = N := ⟨_, rfl⟩
      obtain ⟨km, hkm⟩ : ∃ km, kn + m = km := ⟨_, rfl⟩
      have hlm : K.length + m ≤ 140737488355328 := by rw [HKl.out]; omega
      have hkx : K.length + m = km := by rw [HKl.out]; exact hkm
      have H65 : Hid (IntKind.i64.wrap (65 - (kn : Int)) = 65 - (kn : Int)) := Lib.hid (by rw [IntKind.wrap_i64]; omega)
      have HN := Lib.hid hN
      have Hkm := Lib.hid hkm
      have Hkx := Lib.hid hkx
      have hCc : ∀ W, Upd [] W5 W → Calls Tryd.prog 11 #[.slice p kn c] W fun e w' => ∃ p' c', e = .returned (.slice p' kn c') ∧ w'.ownsRow N 5 1 (.slice p' kn c') kn (u8s K) ∧ Upd [] W w' := fun W u => by
        have := copy_walk W p K c (hKB _ (t5.trans_nil u)).1 (by rw [HKl.out]; omega)
        rw [HKl.out] at this
        refine this.mono ?_
        rintro e w' ⟨p', c', rfl, o, u'⟩
        exact ⟨p', c', rfl, own_to HKl.out (o.mono (by rw [← hN]; exact u.size)), u'⟩
      have hCz : ∀ W pz cz g, Upd [] W5 W → W.ownsRow N 5 1 (.slice pz km cz) km (u8s (K ++ List.replicate m 0)) → Blk W g [.slice q bn d] 22 → Calls Tryd.prog 9 #[.slice pz km cz, .slice (some ⟨g, 0, none⟩) 1 1] W fun e w' => e = .returned (.agg (row32 F).toArray) ∧ Upd [] W w' := fun W pz cz g u ho hg => by
        have hw := hKB W (t5.trans_nil u)
        have hrow := rows1 (xs := B) (c1 := d) (p1 := q) (by rw [HBl.out]; exact hg) hw.2 hBr (by rw [HBl.out]; omega)
        have hcut : [B].flatten = B := by simp
        have hxl : (K ++ List.replicate m 0).length = km := by rw [List.length_append, List.length_replicate]; exact hkx
        have hxr : Rng (K ++ List.replicate m 0) := hKr.app (fun x hx => by rw [List.eq_of_mem_replicate hx]; omega)
        have := mac_walk W pz (K ++ List.replicate m 0) cz (own_of hxl ho).at_ hxr (by rw [hxl]; omega) (some ⟨g, 0, none⟩) _ 1 hrow (by simp) (by rw [hcut, HBl.out]; omega)
        rw [hxl, hcut, mac_zeros (by rw [HKl.out]; omega), HF.out] at this
        exact this
      clear hkx hkm hN hKB hR5 hz
      go_upto_region 8 with fail
      refine wp_region_own [(.s (.eq (.slice p kn c))), (.own N 5 kn (u8s K)), (.s (.eq (.int .i64 z))), (.s (.eq (.slice p kn c))), (.s (.eq (.int .i64 (kn : Int)))), (.s (.eq (.int .i64 (65 - (kn : Int))))), (.s (.eq (.int .i64 (m : Int)))), (.own N 5 km (u8s (K ++ List.replicate m 0))), (.s (.eq (.slice q bn d))), (.s (.sl 1 1 [.slice q bn d] 22)), (.s (.eq (.agg (row32 F).toArray))), (.s (.eq (.agg (row32 F).toArray))), (.s (.eq (.bool true))), (.s (.eq (.bool true)))] 7 (KeepOwn N kn K) (by kernel_rfl) (by kernel_rfl) rfl ?kp ?step ?fin
      case kp => intro k hk v wa wb h kp; (match k, hk, h with | 1, _, h => exact ⟨h.1, kp.2 _ h.2⟩ | 9, _, h => exact h.elim fun b hb => ⟨b, hb.1, kp.1 _ _ hb.2⟩ | 7, hk, _ => exact absurd rfl hk | 0, _, h => exact h | 2, _, h => exact h | 3, _, h => exact h | 4, _, h => exact h | 5, _, h => exact h | 6, _, h => exact h | 8, _, h => exact h | 10, _, h => exact h | 11, _, h => exact h | 12, _, h => exact h | 13, _, h => exact h | _ + 14, _, _ => trivial)
      case step =>
        intro i o ho a w' hS hold hneed K' hK
        match i, ho with
        | 0, ho =>
          obtain rfl := Option.some.inj ho
          have d0 := hold 0 _ (by kernel_rfl) rfl
          clear hold hneed ho
          (go_simp; exact hK _ _ rfl (Upd.refl [] _))
        | 1, ho =>
          obtain rfl := Option.some.inj ho
          have d36 := get_of_at (hneed 0 (of_decide_eq_true (by kernel_rfl)) 36 rfl) (by simp [undef])
          clear hold hneed ho
          (go_simp; refine (hCc _ hS).mono ?_; rintro e w3 ⟨p3, c3, rfl, o3, hu3⟩; exact hK _ _ ⟨⟨_, _, rfl⟩, o3⟩ hu3)
        | 2, ho =>
          obtain rfl := Option.some.inj ho
          have d2 := hold 2 _ (by kernel_rfl) rfl
          clear hold hneed ho
          (go_simp; exact hK _ _ rfl (Upd.refl [] _))
        | 3, ho =>
          obtain rfl := Option.some.inj ho
          have d0 := hold 0 _ (by kernel_rfl) rfl
          clear hold hneed ho
          (go_simp; exact hK _ _ rfl (Upd.refl [] _))
        | 4, ho =>
          obtain rfl := Option.some.inj ho
          have d39 := get_of_at (hneed 3 (of_decide_eq_true (by kernel_rfl)) 39 rfl) (by simp [undef])
          clear hold hneed ho
          (go_simp; exact hK _ _ rfl (Upd.refl [] _))
        | 5, ho =>
          obtain rfl := Option.some.inj ho
          have d40 := get_of_at (hneed 4 (of_decide_eq_true (by kernel_rfl)) 40 rfl) (by simp [undef])
          clear hold hneed ho
          (go_simp; first | exact hK _ _ rfl (Upd.refl [] _) | (rw [H65.out]; exact hK _ _ rfl (Upd.refl [] _)))
        | 6, ho =>
          obtain rfl := Option.some.inj ho
          have d38 := get_of_at (hneed 2 (of_decide_eq_true (by kernel_rfl)) 38 rfl) (by simp [undef])
          have d41 := get_of_at (hneed 5 (of_decide_eq_true (by kernel_rfl)) 41 rfl) (by simp [undef])
          clear hold hneed ho
          (go_simp; refine (hCb _).mono ?_; rintro e w3 ⟨rfl, rfl⟩; exact hK _ _ rfl (Upd.refl [] _))
        | 7, ho =>
          obtain rfl := Option.some.inj ho
          obtain ⟨⟨p37, c37, e37⟩, O37⟩ := hneed 1 (of_decide_eq_true (by kernel_rfl)) 37 rfl
          have d37 := get_of_at e37 (by simp [undef])
          have d42 := get_of_at (hneed 6 (of_decide_eq_true (by kernel_rfl)) 42 rfl) (by simp [undef])
          clear hold hneed ho
          (rw [if_pos (by simp [Region.wanted])]; refine wp_app_zeros (.tmp 37) (.tmp 42) rfl N _ K (by simp [Act.eval, *]) (own_of HKl.out O37) m (by simp [Act.eval, *]) hlm (by rw [← HN.out]; exact hS.size) ?_; intro p' c' w1 h1 h2 h3; have hf := keys_app HKl.out Hkm.out h1 e37 O37 h2 h3 hS HN.out; rw [Hkx.out] at hf ⊢; exact hK _ _ hf.1 hf.2)
        | 8, ho =>
          obtain rfl := Option.some.inj ho
          have d1 := hold 1 _ (by kernel_rfl) rfl
          clear hold hneed ho
          (go_simp; exact hK _ _ rfl (Upd.refl [] _))
        | 9, ho =>
          obtain rfl := Option.some.inj ho
          have d44 := get_of_at (hneed 8 (of_decide_eq_true (by kernel_rfl)) 44 rfl) (by simp [undef])
          clear hold hneed ho
          (go_simp; exact hK _ _ ⟨_, rfl, Blk.new _ _ _⟩ ((Upd.refl [] _).alloc _))
        | 10, ho =>
          obtain rfl := Option.some.inj ho
          obtain ⟨⟨p43, c43, e43⟩, O43⟩ := hneed 7 (of_decide_eq_true (by kernel_rfl)) 43 rfl
          have d43 := get_of_at e43 (by simp [undef])
          obtain ⟨b45, e45, hB45⟩ := hneed 9 (of_decide_eq_true (by kernel_rfl)) 45 rfl
          have d45 := get_of_at e45 (by simp [undef])
          clear hold hneed ho
          (rw [e43] at O43; go_simp; refine (hCz _ _ _ _ hS O43 hB45).mono ?_; rintro e w3 ⟨rfl, hu3⟩; exact hK _ _ rfl hu3)
        | 11, ho =>
          obtain rfl := Option.some.inj ho
          have d7 := hold 7 _ (by kernel_rfl) rfl
          clear hold hneed ho
          (rw [if_pos (by simp [Region.wanted, yielded, *])]; exact wp_load_row 24 (.tmp 7) rfl R (by simp [Act.eval, *]) 24 _ (0, 0) _ (hRr _ hS) Tryd.underlying24 rfl (info32 _) (hK _ _ rfl (Upd.refl [] _)))
        | 12, ho =>
          obtain rfl := Option.some.inj ho
          have d46 := get_of_at (hneed 10 (of_decide_eq_true (by kernel_rfl)) 46 rfl) (by simp [undef])
          have d47 := get_of_at (hneed 11 (of_decide_eq_true (by kernel_rfl)) 47 rfl) (by simp [undef])
          clear hold hneed ho
          (go_simp; rw [eq_same]; go_simp; exact hK _ _ rfl (Upd.refl [] _))
        | 13, ho =>
          obtain rfl := Option.some.inj ho
          have d48 := get_of_at (hneed 12 (of_decide_eq_true (by kernel_rfl)) 48 rfl) (by simp [undef])
          clear hold hneed ho
          (go_simp; exact hK _ _ rfl (Upd.refl [] _))
        | _ + 14, ho => exact absurd ho (by simp)
      case fin =>
        intro a w' hS hsz hdf hold hvals
        obtain ⟨⟨p37, c37, hv37⟩, O37⟩ := hvals 1 37 rfl
        obtain ⟨⟨p43, c43, hv43⟩, O43⟩ := hvals 7 43 rfl
        obtain ⟨b45, hv45, hB45⟩ := hvals 9 45 rfl
        have ha := act_lit hsz hdf (RowIs.cons (at_of_get (hold 0 _ (by kernel_rfl) rfl)) (RowIs.cons (at_of_get (hold 1 _ (by kernel_rfl) rfl)) (RowIs.cons (at_of_get (hold 2 _ (by kernel_rfl) rfl)) (RowIs.cons (at_of_get (hold 3 _ (by kernel_rfl) rfl)) (RowIs.cons (at_of_get (hold 4 _ (by kernel_rfl) rfl)) (RowIs.cons (at_of_get (hold 5 _ (by kernel_rfl) rfl)) (RowIs.cons (hvals 13 6 rfl) (RowIs.cons (at_of_get (hold 7 _ (by kernel_rfl) rfl)) (RowIs.cons (at_of_get (hold 8 _ (by kernel_rfl) rfl)) (RowIs.cons (at_of_get (hold 9 _ (by kernel_rfl) rfl)) (RowIs.cons (at_of_get (hold 10 _ (by kernel_rfl) rfl)) (RowIs.cons (at_of_get (hold 11 _ (by kernel_rfl) rfl)) (RowIs.cons (at_of_get (hold 12 _ (by kernel_rfl) rfl)) (RowIs.cons (at_of_get (hold 13 _ (by kernel_rfl) rfl)) (RowIs.cons (at_of_get (hold 14 _ (by kernel_rfl) rfl)) (RowIs.cons (at_of_get (hold 15 _ (by kernel_rfl) rfl)) (RowIs.cons (at_of_get (hold 16 _ (by kernel_rfl) rfl)) (RowIs.cons (at_of_get (hold 17 _ (by kernel_rfl) rfl)) (RowIs.cons (at_of_get (hold 18 _ (by kernel_rfl) rfl)) (RowIs.cons (at_of_get (hold 19 _ (by kernel_rfl) rfl)) (RowIs.cons (at_of_get (hold 20 _ (by kernel_rfl) rfl)) (RowIs.cons (at_of_get (hold 21 _ (by kernel_rfl) rfl)) (RowIs.cons (at_of_get (hold 22 _ (by kernel_rfl) rfl)) (RowIs.cons (at_of_get (hold 23 _ (by kernel_rfl) rfl)) (RowIs.cons (at_of_get (hold 24 _ (by kernel_rfl) rfl)) (RowIs.cons (at_of_get (hold 25 _ (by kernel_rfl) rfl)) (RowIs.cons (at_of_get (hold 26 _ (by kernel_rfl) rfl)) (RowIs.cons (at_of_get (hold 27 _ (by kernel_rfl) rfl)) (RowIs.cons (at_of_get (hold 28 _ (by kernel_rfl) rfl)) (RowIs.cons (at_of_get (hold 29 _ (by kernel_rfl) rfl)) (RowIs.cons (at_of_get (hold 30 _ (by kernel_rfl) rfl)) (RowIs.cons (at_of_get (hold 31 _ (by kernel_rfl) rfl)) (RowIs.cons (at_of_get (hold 32 _ (by kernel_rfl) rfl)) (RowIs.cons (at_of_get (hold 33 _ (by kernel_rfl) rfl)) (RowIs.cons (at_of_get (hold 34 _ (by kernel_rfl) rfl)) (RowIs.cons (at_of_get (hold 35 _ (by kernel_rfl) rfl)) (RowIs.cons (hvals 0 36 rfl) (RowIs.cons hv37 (RowIs.cons (hvals 2 38 rfl) (RowIs.cons (hvals 3 39 rfl) (RowIs.cons (hvals 4 40 rfl) (RowIs.cons (hvals 5 41 rfl) (RowIs.cons (hvals 6 42 rfl) (RowIs.cons hv43 (RowIs.cons (hvals 8 44 rfl) (RowIs.cons hv45 (RowIs.cons (hvals 10 46 rfl) (RowIs.cons (hvals 11 47 rfl) (RowIs.cons (hvals 12 48 rfl) (RowIs.nil _ _)))))))))))))))))))))))))))))))))))))))))))))))))) rfl
        clear hsz hdf hold hvals
        subst ha
        try simp only [List.getElem_toArray, List.getElem_cons_succ, List.getElem_cons_zero]
        have t8 := t5.trans_nil hS
        go_wp2_with fail
        go_ret
        exact ⟨rfl, t8⟩

end Go.Proofs.YtclfmgkomkmbjaaDoor
