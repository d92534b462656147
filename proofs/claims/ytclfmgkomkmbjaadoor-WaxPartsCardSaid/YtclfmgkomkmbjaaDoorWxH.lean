/- WaxParts: the walk. -/
import Derived.Test.YtclfmgkomkmbjaaDoorWxF
import Derived.Test.YtclfmgkomkmbjaaDoorReg2
import Derived.Test.YtclfmgkomkmbjaaDoorKnG
namespace Go.Proofs.YtclfmgkomkmbjaaDoor
open Go.RowKit

theorem rows3 {w : World} {b : Nat} {T : TypeId} {p1 p2 p3 : Option Addr} {xs ys zs : List Int} {n1 n2 n3 c1 c2 c3 : Nat} (h : Blk w b [.slice p1 n1 c1, .slice p2 n2 c2, .slice p3 n3 c3] T) (e1 : n1 = xs.length) (e2 : n2 = ys.length) (e3 : n3 = zs.length)
    (h1 : ByAt w p1 xs) (r1 : Rng xs) (l1 : xs.length ≤ c1) (h2 : ByAt w p2 ys) (r2 : Rng ys) (l2 : ys.length ≤ c2) (h3 : ByAt w p3 zs) (r3 : Rng zs) (l3 : zs.length ≤ c3) :
    RowsAt w (some ⟨b, 0, none⟩) [xs, ys, zs] := fun i us hz => by
  subst e1 e2 e3
  match i, hz with
  | 0, hz => obtain rfl : xs = us := by simpa using hz
             exact ⟨b, 0, p1, c1, rfl, h.lt, h.cell 0 rfl, r1, h1, l1⟩
  | 1, hz => obtain rfl : ys = us := by simpa using hz
             exact ⟨b, 0, p2, c2, rfl, h.lt, h.cell 1 rfl, r2, h2, l2⟩
  | 2, hz => obtain rfl : zs = us := by simpa using hz
             exact ⟨b, 0, p3, c3, rfl, h.lt, h.cell 2 rfl, r3, h3, l3⟩
  | i + 3, hz => simp at hz

theorem byAdv {w : World} {p : Option Addr} {xs : List Int} (h : ByAt w p xs) (k c : Nat) (hc : xs.length ≤ c) : ByAt w (if c = k then p else p.map (·.add k)) (xs.drop k) := by
  by_cases hk : c = k
  · rw [if_pos hk, List.drop_of_length_le (by omega)]; exact ByAt.nil _ _
  · rw [if_neg hk]
    by_cases h0 : xs.length = 0
    · rw [List.drop_of_length_le (by omega)]; exact ByAt.nil _ _
    · obtain ⟨b, o, rfl⟩ := h.form (by omega)
      have e : Option.map (fun x : Addr => x.add k) (some ⟨b, o, none⟩) = some ⟨b, o + k, none⟩ := by
        show some ((⟨b, o, none⟩ : Addr).add k) = _
        unfold Addr.add
        split <;> simp_all
      rw [e]
      exact h.drop k

theorem cut3 (B : List Int) (n1 n2 : Nat) (h : n1 ≤ n2) : [B.take n1, (B.take n2).drop n1, B.drop n2].flatten = B := by
  have h1 := List.take_append_drop n1 (B.take n2)
  rw [List.take_take, Nat.min_eq_left h] at h1
  simp only [List.flatten_cons, List.flatten_nil, List.append_nil]
  rw [← List.append_assoc, h1, List.take_append_drop]

set_option maxRecDepth 100000 in
set_option maxHeartbeats 8000000 in
theorem parts_walk (w : World) (p : Option Addr) (ks : List Int) (c : Nat) (hk : ByAt w p ks) (hrk : Rng ks) (hkl : ks.length ≤ 9223372036854775807) (hkc : ks.length ≤ c) (q : Option Addr) (bs : List Int) (d : Nat) (hb : ByAt w q bs) (hrb : Rng bs) (hbl : bs.length ≤ 9223372036854775807) (hbc : bs.length ≤ d)
    (a1 a2 : Int) (ha1 : -9223372036854775808 ≤ a1 ∧ a1 ≤ 9223372036854775807) (ha2 : -9223372036854775808 ≤ a2 ∧ a2 ≤ 9223372036854775807) (hdb : w.cell? ⟨3, 15, none⟩ = some (.int .u8 4)) :
    Calls Tryd.prog 4 #[.slice p ks.length c, .slice q bs.length d, .agg #[.int .i64 a1, .int .i64 a2]] w fun e w' => e = .returned (.bool true) ∧ Upd [] w w' := by
  have hdl : 3 < w.heap.size := lt_of_cell hdb
  go_enter Tryd.func4, Tryd.ntmps4
  go_upto_region 1 with fail
  have uA := (Upd.refl [] w).alloc (.cells #[.int .i64 a1, .int .i64 a2] 30)
  have hbx := Blk.new w #[.int .i64 a1, .int .i64 a2] 30
  have hdb2 := (uA.cell hdl (by simp)).trans hdb
  generalize w.alloc (.cells #[.int .i64 a1, .int .i64 a2] 30) = WA at *
  generalize hbxn : w.heap.size = bx at hbx ⊢
  have HBX := Lib.hid hbxn
  clear hbxn hdb
  go_upto_region 3 with (go_at_call 8; refine (works_walk _ hdb2).mono ?_; rintro e w1 ⟨rfl, u1⟩)
  have t1 := uA.trans_nil u1
  have hbx1 := hbx.upd_nil u1
  obtain ⟨kn, hkn⟩ : ∃ kn : Nat, min (ks.length : Int) 500 = kn := ⟨min ks.length 500, by omega⟩
  obtain ⟨bn, hbn⟩ : ∃ bn : Nat, min (bs.length : Int) 500 = bn := ⟨min bs.length 500, by omega⟩
  have hK : ByAt w p (ks.take 500) := hk.take 500
  have hB : ByAt w q (bs.take 500) := hb.take 500
  have hKr : Rng (ks.take 500) := hrk.take 500
  have hBr : Rng (bs.take 500) := hrb.take 500
  have hKl : (ks.take 500).length = kn := by rw [List.length_take]; omega
  have hBl : (bs.take 500).length = bn := by rw [List.length_take]; omega
  have Hkn := Lib.hid hkn
  have Hbn := Lib.hid hbn
  have k1 : (kn : Int) ≤ c := by omega
  have k2 : (bn : Int) ≤ d := by omega
  have k3 : (0 : Int) ≤ kn := by omega
  have k4 : (0 : Int) ≤ bn := by omega
  have k5 : kn ≤ 500 := by omega
  have k6 : bn ≤ 500 := by omega
  have k7 : kn ≤ c := by omega
  have k8 : bn ≤ d := by omega
  clear hkn hbn hk hb uA u1 hbx hdb2
  generalize ks.take 500 = K at *
  generalize bs.take 500 = B at *
  have HKl := Lib.hid hKl
  have HBl := Lib.hid hBl
  clear hKl hBl
  refine wp_region_spec2 [(.eq (.slice p ks.length c)), (.eq (.slice p ks.length c)), (.eq (.int .i64 (ks.length : Int))), (.eq (.int .i64 (kn : Int))), (.eq (.slice p kn c)), (.eq (.slice q bs.length d)), (.eq (.slice q bs.length d)), (.eq (.int .i64 (bs.length : Int))), (.eq (.int .i64 (bn : Int))), (.eq (.slice q bn d)), (.eq (.slice p kn c)), (.eq (.slice q bn d))] (by kernel_rfl) (by kernel_rfl) rfl ?step ?fin
  case step =>
    intro i o ho a w' hS hold hneed K' hK
    match i, ho with
    | 0, ho =>
      obtain rfl := Option.some.inj ho
      have d0 := hold 0 _ (by kernel_rfl) rfl
      clear hold hneed ho
      (go_simp; exact hK _ _ rfl (Upd.refl [] _))
    | 1, ho =>
      obtain rfl := Option.some.inj ho
      have d0 := hold 0 _ (by kernel_rfl) rfl
      clear hold hneed ho
      (go_simp; exact hK _ _ rfl (Upd.refl [] _))
    | 2, ho =>
      obtain rfl := Option.some.inj ho
      have d13 := get_of_at (hneed 1 (of_decide_eq_true (by kernel_rfl)) 13 rfl) (by simp [undef])
      clear hold hneed ho
      (go_simp; exact hK _ _ rfl (Upd.refl [] _))
    | 3, ho =>
      obtain rfl := Option.some.inj ho
      have d14 := get_of_at (hneed 2 (of_decide_eq_true (by kernel_rfl)) 14 rfl) (by simp [undef])
      clear hold hneed ho
      (go_simp; rw [Hkn.out]; exact hK _ _ rfl (Upd.refl [] _))
    | 4, ho =>
      obtain rfl := Option.some.inj ho
      have d12 := get_of_at (hneed 0 (of_decide_eq_true (by kernel_rfl)) 12 rfl) (by simp [undef])
      have d15 := get_of_at (hneed 3 (of_decide_eq_true (by kernel_rfl)) 15 rfl) (by simp [undef])
      clear hold hneed ho
      (go_simp; exact hK _ _ rfl (Upd.refl [] _))
    | 5, ho =>
      obtain rfl := Option.some.inj ho
      have d1 := hold 1 _ (by kernel_rfl) rfl
      clear hold hneed ho
      (go_simp; exact hK _ _ rfl (Upd.refl [] _))
    | 6, ho =>
      obtain rfl := Option.some.inj ho
      have d1 := hold 1 _ (by kernel_rfl) rfl
      clear hold hneed ho
      (go_simp; exact hK _ _ rfl (Upd.refl [] _))
    | 7, ho =>
      obtain rfl := Option.some.inj ho
      have d18 := get_of_at (hneed 6 (of_decide_eq_true (by kernel_rfl)) 18 rfl) (by simp [undef])
      clear hold hneed ho
      (go_simp; exact hK _ _ rfl (Upd.refl [] _))
    | 8, ho =>
      obtain rfl := Option.some.inj ho
      have d19 := get_of_at (hneed 7 (of_decide_eq_true (by kernel_rfl)) 19 rfl) (by simp [undef])
      clear hold hneed ho
      (go_simp; rw [Hbn.out]; exact hK _ _ rfl (Upd.refl [] _))
    | 9, ho =>
      obtain rfl := Option.some.inj ho
      have d17 := get_of_at (hneed 5 (of_decide_eq_true (by kernel_rfl)) 17 rfl) (by simp [undef])
      have d20 := get_of_at (hneed 8 (of_decide_eq_true (by kernel_rfl)) 20 rfl) (by simp [undef])
      clear hold hneed ho
      (go_simp; exact hK _ _ rfl (Upd.refl [] _))
    | 10, ho =>
      obtain rfl := Option.some.inj ho
      have d16 := get_of_at (hneed 4 (of_decide_eq_true (by kernel_rfl)) 16 rfl) (by simp [undef])
      clear hold hneed ho
      (go_simp; exact hK _ _ rfl (Upd.refl [] _))
    | 11, ho =>
      obtain rfl := Option.some.inj ho
      have d21 := get_of_at (hneed 9 (of_decide_eq_true (by kernel_rfl)) 21 rfl) (by simp [undef])
      clear hold hneed ho
      (go_simp; exact hK _ _ rfl (Upd.refl [] _))
    | _ + 12, ho => exact absurd ho (by simp)
  case fin =>
    intro a w' hS hsz hdf hold hvals
    have ha := act_lit hsz hdf (RowIs.cons (hvals 10 0 rfl) (RowIs.cons (hvals 11 1 rfl) (RowIs.cons (at_of_get (hold 2 _ (by kernel_rfl) rfl)) (RowIs.cons (at_of_get (hold 3 _ (by kernel_rfl) rfl)) (RowIs.cons (at_of_get (hold 4 _ (by kernel_rfl) rfl)) (RowIs.cons (at_of_get (hold 5 _ (by kernel_rfl) rfl)) (RowIs.cons (at_of_get (hold 6 _ (by kernel_rfl) rfl)) (RowIs.cons (at_of_get (hold 7 _ (by kernel_rfl) rfl)) (RowIs.cons (at_of_get (hold 8 _ (by kernel_rfl) rfl)) (RowIs.cons (at_of_get (hold 9 _ (by kernel_rfl) rfl)) (RowIs.cons (at_of_get (hold 10 _ (by kernel_rfl) rfl)) (RowIs.cons (at_of_get (hold 11 _ (by kernel_rfl) rfl)) (RowIs.cons (hvals 0 12 rfl) (RowIs.cons (hvals 1 13 rfl) (RowIs.cons (hvals 2 14 rfl) (RowIs.cons (hvals 3 15 rfl) (RowIs.cons (hvals 4 16 rfl) (RowIs.cons (hvals 5 17 rfl) (RowIs.cons (hvals 6 18 rfl) (RowIs.cons (hvals 7 19 rfl) (RowIs.cons (hvals 8 20 rfl) (RowIs.cons (hvals 9 21 rfl) (RowIs.cons (at_of_get (hold 22 _ (by kernel_rfl) rfl)) (RowIs.cons (at_of_get (hold 23 _ (by kernel_rfl) rfl)) (RowIs.cons (at_of_get (hold 24 _ (by kernel_rfl) rfl)) (RowIs.cons (at_of_get (hold 25 _ (by kernel_rfl) rfl)) (RowIs.cons (at_of_get (hold 26 _ (by kernel_rfl) rfl)) (RowIs.cons (at_of_get (hold 27 _ (by kernel_rfl) rfl)) (RowIs.cons (at_of_get (hold 28 _ (by kernel_rfl) rfl)) (RowIs.cons (at_of_get (hold 29 _ (by kernel_rfl) rfl)) (RowIs.cons (at_of_get (hold 30 _ (by kernel_rfl) rfl)) (RowIs.cons (at_of_get (hold 31 _ (by kernel_rfl) rfl)) (RowIs.cons (at_of_get (hold 32 _ (by kernel_rfl) rfl)) (RowIs.cons (at_of_get (hold 33 _ (by kernel_rfl) rfl)) (RowIs.cons (at_of_get (hold 34 _ (by kernel_rfl) rfl)) (RowIs.cons (at_of_get (hold 35 _ (by kernel_rfl) rfl)) (RowIs.cons (at_of_get (hold 36 _ (by kernel_rfl) rfl)) (RowIs.cons (at_of_get (hold 37 _ (by kernel_rfl) rfl)) (RowIs.cons (at_of_get (hold 38 _ (by kernel_rfl) rfl)) (RowIs.cons (at_of_get (hold 39 _ (by kernel_rfl) rfl)) (RowIs.cons (at_of_get (hold 40 _ (by kernel_rfl) rfl)) (RowIs.cons (at_of_get (hold 41 _ (by kernel_rfl) rfl)) (RowIs.cons (at_of_get (hold 42 _ (by kernel_rfl) rfl)) (RowIs.cons (at_of_get (hold 43 _ (by kernel_rfl) rfl)) (RowIs.cons (at_of_get (hold 44 _ (by kernel_rfl) rfl)) (RowIs.cons (at_of_get (hold 45 _ (by kernel_rfl) rfl)) (RowIs.cons (at_of_get (hold 46 _ (by kernel_rfl) rfl)) (RowIs.cons (at_of_get (hold 47 _ (by kernel_rfl) rfl)) (RowIs.cons (at_of_get (hold 48 _ (by kernel_rfl) rfl)) (RowIs.cons (at_of_get (hold 49 _ (by kernel_rfl) rfl)) (RowIs.cons (at_of_get (hold 50 _ (by kernel_rfl) rfl)) (RowIs.cons (at_of_get (hold 51 _ (by kernel_rfl) rfl)) (RowIs.cons (at_of_get (hold 52 _ (by kernel_rfl) rfl)) (RowIs.cons (at_of_get (hold 53 _ (by kernel_rfl) rfl)) (RowIs.cons (at_of_get (hold 54 _ (by kernel_rfl) rfl)) (RowIs.cons (at_of_get (hold 55 _ (by kernel_rfl) rfl)) (RowIs.cons (at_of_get (hold 56 _ (by kernel_rfl) rfl)) (RowIs.cons (at_of_get (hold 57 _ (by kernel_rfl) rfl)) (RowIs.cons (at_of_get (hold 58 _ (by kernel_rfl) rfl)) (RowIs.cons (at_of_get (hold 59 _ (by kernel_rfl) rfl)) (RowIs.cons (at_of_get (hold 60 _ (by kernel_rfl) rfl)) (RowIs.cons (at_of_get (hold 61 _ (by kernel_rfl) rfl)) (RowIs.cons (at_of_get (hold 62 _ (by kernel_rfl) rfl)) (RowIs.cons (at_of_get (hold 63 _ (by kernel_rfl) rfl)) (RowIs.cons (at_of_get (hold 64 _ (by kernel_rfl) rfl)) (RowIs.cons (at_of_get (hold 65 _ (by kernel_rfl) rfl)) (RowIs.cons (at_of_get (hold 66 _ (by kernel_rfl) rfl)) (RowIs.cons (at_of_get (hold 67 _ (by kernel_rfl) rfl)) (RowIs.cons (at_of_get (hold 68 _ (by kernel_rfl) rfl)) (RowIs.cons (at_of_get (hold 69 _ (by kernel_rfl) rfl)) (RowIs.cons (at_of_get (hold 70 _ (by kernel_rfl) rfl)) (RowIs.cons (at_of_get (hold 71 _ (by kernel_rfl) rfl)) (RowIs.cons (at_of_get (hold 72 _ (by kernel_rfl) rfl)) (RowIs.nil _ _)))))))))))))))))))))))))))))))))))))))))))))))))))))))))))))))))))))))))) rfl
    clear hsz hdf hold hvals
    subst ha
    try simp only [List.getElem_toArray, List.getElem_cons_succ, List.getElem_cons_zero]
    have t2 := t1.trans_nil hS
    have hbx2 := hbx1.upd_nil hS
    clear t1 hS hbx1
    obtain ⟨w2, rfl⟩ : ∃ w2, w2 = w' := ⟨_, rfl⟩
    have cx0 := hbx2.cell 0 rfl
    have cx1 := hbx2.cell 1 rfl
    obtain ⟨n1, hn1, hn1l⟩ : ∃ n1 : Nat, a1 % ((bn : Int) + 1) = n1 ∧ n1 ≤ bn := by
      obtain ⟨h1, h2⟩ := bring_bd a1 ((bn : Int) + 1) (by omega)
      exact ⟨(a1 % ((bn : Int) + 1)).toNat, by omega, by omega⟩
    have hbr1 := bring_any a1 ((bn : Int) + 1) w2 (by omega) (by omega) ha1.1 ha1.2
    rw [hn1] at hbr1
    obtain ⟨m, hm, hml⟩ : ∃ m : Nat, a2 % ((bn : Int) - (n1 : Int) + 1) = m ∧ m ≤ bn - n1 := by
      obtain ⟨h1, h2⟩ := bring_bd a2 ((bn : Int) - (n1 : Int) + 1) (by omega)
      exact ⟨(a2 % ((bn : Int) - (n1 : Int) + 1)).toNat, by omega, by omega⟩
    have hbr2 := bring_any a2 ((bn : Int) - (n1 : Int) + 1) w2 (by omega) (by omega) ha2.1 ha2.2
    rw [hm] at hbr2
    clear hn1 hm
    have j1 : (0 : Int) ≤ n1 := by omega
    have j2 : (n1 : Int) ≤ bn := by omega
    have j3 : (0 : Int) ≤ m := by omega
    have j4 : (m : Int) ≤ bn := by omega
    go_upto_region 5 with (go_at_call 12; refine hbr1.mono ?_; rintro e w3 ⟨rfl, rfl⟩)
    go_upto_region 6 with (go_at_call 12; refine hbr2.mono ?_; rintro e w4 ⟨rfl, rfl⟩)
    obtain ⟨n2, hn2⟩ : ∃ n2 : Nat, (n1 : Int) + (m : Int) = n2 := ⟨n1 + m, by omega⟩
    rw [hn2]
    have j5 : (0 : Int) ≤ n2 := by omega
    have j6 : (n2 : Int) ≤ bn := by omega
    have j7 : (n1 : Int) ≤ n2 := by omega
    have j8 : (n1 : Int) ≤ d := by omega
    have j9 : (n2 : Int) ≤ d := by omega
    clear hn2 hbr1 hbr2 cx0 cx1 hml
    have hBl := Blk.new w2 #[.slice q bn d] 22
    have uB := (Upd.refl [] w2).alloc (.cells #[.slice q bn d] 22)
    have tB := t2.trans_nil uB
    have hKB : ∀ W, Upd [] w W → ByAt W p K ∧ ByAt W q B := fun W u => ⟨hK.upd_nil u, hB.upd_nil u⟩
    have hBrow : RowsAt (w2.alloc (.cells #[.slice q bn d] 22)) (some ⟨w2.heap.size, 0, none⟩) [B] := rows1 (p1 := q) (xs := B) (c1 := d) (by rw [HBl.out]; exact hBl) (hKB _ tB).2 hBr (by rw [HBl.out]; exact k8)
    have hw1 := mac_walk _ p K c (hKB _ tB).1 hKr (by rw [HKl.out]; omega) (some ⟨w2.heap.size, 0, none⟩) [B] 1 hBrow (by simp) (by simp only [List.flatten_cons, List.flatten_nil, List.append_nil, HBl.out]; omega)
    rw [HKl.out] at hw1
    simp only [List.flatten_cons, List.flatten_nil, List.append_nil, List.length_singleton] at hw1
    obtain ⟨F, hF⟩ : ∃ F, mac K B = F := ⟨_, rfl⟩
    obtain ⟨G, hG⟩ : ∃ G, mac K [] = G := ⟨_, rfl⟩
    rw [hF] at hw1
    have HF := Lib.hid hF
    have HG := Lib.hid hG
    clear hF hG hrk hrb hkl hkc hbl hbc
    have hz : ∀ w : World, (zeroValue 24).run Tryd.prog w = .ok (.agg (row32 fun _ => 0).toArray) w := fun w => by kernel_rfl
    go_upto_region 7 with (first
      | (go_at_call 9; refine hw1.mono ?_; rintro e w5 ⟨rfl, u5⟩; have hR := Blk.new w5 (row32 fun _ => 0).toArray 24)
      | (refine wpList_store_rowTo rfl _ _ _ rfl rfl _ (row32 F).toArray rfl rfl _ (row32 fun _ => 0).toArray hR (info32 _) (size32 _ _) (one32 _) ?_))
    have uR := ((Upd.refl [] w5).alloc (.cells (row32 fun _ => 0).toArray 24)).setRow (b := w5.heap.size) (Or.inr (Nat.le_refl _)) (row32 F).toArray
    have hR5 := hR.setRow (row32 F).toArray
    have t5 := (tB.trans_nil u5).trans_nil uR
    clear hR uR u5 tB hw1 hBrow hBl uB t2 hbx2 hz
    generalize (w5.alloc (.cells (row32 fun _ => 0).toArray 24)).setRow w5.heap.size (row32 F).toArray = W5 at *
    generalize w5.heap.size = R at *
    have hRr : ∀ W, Upd [] W5 W → W.heap[R]? = some (.cells (row32 F).toArray 24 (0, 0)) := fun W u => by
      have := hR5.upd_nil u
      unfold Blk at this
      exact this
    obtain ⟨m1, hm1⟩ : ∃ m1, n2 - n1 = m1 := ⟨_, rfl⟩
    obtain ⟨m2, hm2⟩ : ∃ m2, bn - n2 = m2 := ⟨_, rfl⟩
    obtain ⟨c1, hc1⟩ : ∃ c1, d - n1 = c1 := ⟨_, rfl⟩
    obtain ⟨c2, hc2⟩ : ∃ c2, d - n2 = c2 := ⟨_, rfl⟩
    obtain ⟨q1, hq1⟩ : ∃ q1, (if d = n1 then q else q.map (·.add n1)) = q1 := ⟨_, rfl⟩
    obtain ⟨q2, hq2⟩ : ∃ q2, (if d = n2 then q else q.map (·.add n2)) = q2 := ⟨_, rfl⟩
    have hC3 : ∀ W g, Upd [] W5 W → Blk W g [.slice q n1 d, .slice q1 m1 c1, .slice q2 m2 c2] 22 → Calls Tryd.prog 9 #[.slice p kn c, .slice (some ⟨g, 0, none⟩) 3 3] W fun e w' => e = .returned (.agg (row32 F).toArray) ∧ Upd [] W w' := fun W g u hg => by
      have hw := hKB W (t5.trans_nil u)
      have e1 : ((B.take n2).drop n1).length = m1 := by rw [List.length_drop, List.length_take, HBl.out]; omega
      have e2 : (B.drop n2).length = m2 := by rw [List.length_drop, HBl.out]; omega
      have e3 : (B.take n1).length = n1 := by rw [List.length_take, HBl.out]; omega
      have b1 := byAdv (hw.2.take n2) n1 d (by rw [List.length_take, HBl.out]; omega)
      have b2 := byAdv hw.2 n2 d (by rw [HBl.out]; omega)
      rw [hq1] at b1
      rw [hq2] at b2
      have hrow := rows3 hg e3.symm e1.symm e2.symm (hw.2.take n1) (hBr.take n1) (by rw [e3]; omega) b1 ((hBr.take n2).drop n1) (by rw [e1]; omega) b2 (hBr.drop n2) (by rw [e2]; omega)
      have hcut := cut3 B n1 n2 (by omega)
      have := mac_walk W p K c hw.1 hKr (by rw [HKl.out]; omega) (some ⟨g, 0, none⟩) _ 3 hrow (by simp) (by rw [hcut, HBl.out]; omega)
      rw [HKl.out, hcut, HF.out] at this
      exact this
    have hC2 : ∀ W g, Upd [] W5 W → Blk W g [.slice none 0 0, .slice q bn d] 22 → Calls Tryd.prog 9 #[.slice p kn c, .slice (some ⟨g, 0, none⟩) 2 2] W fun e w' => e = .returned (.agg (row32 F).toArray) ∧ Upd [] W w' := fun W g u hg => by
      have hw := hKB W (t5.trans_nil u)
      have hrow := rows2 (xs := []) (ys := B) (c1 := 0) (c2 := d) (p1 := none) (p2 := q) (by rw [HBl.out]; exact hg) (ByAt.nil _ _) Rng.nil (by simp) hw.2 hBr (by rw [HBl.out]; omega)
      have hcut : [[], B].flatten = B := by simp
      have := mac_walk W p K c hw.1 hKr (by rw [HKl.out]; omega) (some ⟨g, 0, none⟩) _ 2 hrow (by simp) (by rw [hcut, HBl.out]; omega)
      rw [HKl.out, hcut, HF.out] at this
      exact this
    have hC1 : ∀ W g, Upd [] W5 W → Blk W g [.slice none 0 0] 22 → Calls Tryd.prog 9 #[.slice p kn c, .slice (some ⟨g, 0, none⟩) 1 1] W fun e w' => e = .returned (.agg (row32 G).toArray) ∧ Upd [] W w' := fun W g u hg => by
      have hw := hKB W (t5.trans_nil u)
      have hrow := rows1 (xs := []) (c1 := 0) (p1 := none) hg (ByAt.nil _ _) Rng.nil (by simp)
      have hcut : [([] : List Int)].flatten = [] := by simp
      have := mac_walk W p K c hw.1 hKr (by rw [HKl.out]; omega) (some ⟨g, 0, none⟩) _ 1 hrow (by simp) (by rw [hcut]; simp)
      rw [HKl.out, hcut, HG.out] at this
      exact this
    have hC0 : ∀ W, Upd [] W5 W → Calls Tryd.prog 9 #[.slice p kn c, .slice none 0 0] W fun e w' => e = .returned (.agg (row32 G).toArray) ∧ Upd [] W w' := fun W u => by
      have hw := hKB W (t5.trans_nil u)
      have := mac_walk W p K c hw.1 hKr (by rw [HKl.out]; omega) none [] 0 (RowsAt.nil _ _) (by simp) (by simp)
      rw [HKl.out, show ([] : List (List Int)).flatten = [] from rfl, HG.out] at this
      exact this
    have Hs1 := Lib.hid hq1
    have Hs2 := Lib.hid hq2
    have Hm1 := Lib.hid hm1
    have Hm2 := Lib.hid hm2
    have Hc1 := Lib.hid hc1
    have Hc2 := Lib.hid hc2
    clear hq1 hq2 hm1 hm2 hc1 hc2 hR5 hKB
    have j10 : n1 ≤ n2 := by omega
    have j11 : n2 ≤ d := by omega
    have j12 : n1 ≤ d := by omega
    have j13 : n2 ≤ bn := by omega
    refine wp_region_spec [(.eq (.slice p kn c)), (.eq (.slice q bn d)), (.eq (.int .i64 (n1 : Int))), (.eq (.slice q n1 d)), (.eq (.slice q bn d)), (.eq (.int .i64 (n1 : Int))), (.eq (.int .i64 (n2 : Int))), (.eq (.slice q1 m1 c1)), (.eq (.slice q bn d)), (.eq (.int .i64 (n2 : Int))), (.eq (.slice q2 m2 c2)), (.sl 3 3 [.slice q n1 d, .slice q1 m1 c1, .slice q2 m2 c2] 22), (.eq (.agg (row32 F).toArray)), (.eq (.agg (row32 F).toArray)), (.eq (.bool true)), (.eq (.bool true)), (.eq (.slice p kn c)), (.eq (.slice q bn d)), (.sl 2 2 [.slice none 0 0, .slice q bn d] 22), (.eq (.agg (row32 F).toArray)), (.eq (.agg (row32 F).toArray)), (.eq (.bool true)), (.eq (.bool true)), (.eq (.bool true)), (.eq (.slice p kn c)), (.eq (.agg (row32 G).toArray)), (.eq (.slice p kn c)), (.sl 1 1 [.slice none 0 0] 22), (.eq (.agg (row32 G).toArray)), (.eq (.bool true)), (.eq (.bool true)), (.eq (.bool true))] (by kernel_rfl) (by kernel_rfl) rfl ?step ?fin
    case step =>
      intro i o ho a w' hS hold hneed K' hK
      match i, ho with
      | 0, ho =>
        obtain rfl := Option.some.inj ho
        have d0 := hold 0 _ (by kernel_rfl) rfl
        clear hold hneed ho
        (go_simp; exact hK _ _ rfl (Upd.refl [] _))
      | 1, ho =>
        obtain rfl := Option.some.inj ho
        have d1 := hold 1 _ (by kernel_rfl) rfl
        clear hold hneed ho
        (go_simp; exact hK _ _ rfl (Upd.refl [] _))
      | 2, ho =>
        obtain rfl := Option.some.inj ho
        have d7 := hold 7 _ (by kernel_rfl) rfl
        clear hold hneed ho
        (go_simp; exact hK _ _ rfl (Upd.refl [] _))
      | 3, ho =>
        obtain rfl := Option.some.inj ho
        have d43 := get_of_at (hneed 1 (of_decide_eq_true (by kernel_rfl)) 43 rfl) (by simp [undef])
        have d44 := get_of_at (hneed 2 (of_decide_eq_true (by kernel_rfl)) 44 rfl) (by simp [undef])
        clear hold hneed ho
        (go_simp; exact hK _ _ rfl (Upd.refl [] _))
      | 4, ho =>
        obtain rfl := Option.some.inj ho
        have d1 := hold 1 _ (by kernel_rfl) rfl
        clear hold hneed ho
        (go_simp; exact hK _ _ rfl (Upd.refl [] _))
      | 5, ho =>
        obtain rfl := Option.some.inj ho
        have d7 := hold 7 _ (by kernel_rfl) rfl
        clear hold hneed ho
        (go_simp; exact hK _ _ rfl (Upd.refl [] _))
      | 6, ho =>
        obtain rfl := Option.some.inj ho
        have d8 := hold 8 _ (by kernel_rfl) rfl
        clear hold hneed ho
        (go_simp; exact hK _ _ rfl (Upd.refl [] _))
      | 7, ho =>
        obtain rfl := Option.some.inj ho
        have d46 := get_of_at (hneed 4 (of_decide_eq_true (by kernel_rfl)) 46 rfl) (by simp [undef])
        have d47 := get_of_at (hneed 5 (of_decide_eq_true (by kernel_rfl)) 47 rfl) (by simp [undef])
        have d48 := get_of_at (hneed 6 (of_decide_eq_true (by kernel_rfl)) 48 rfl) (by simp [undef])
        clear hold hneed ho
        (go_simp; rw [Hs1.out, Hm1.out, Hc1.out]; exact hK _ _ rfl (Upd.refl [] _))
      | 8, ho =>
        obtain rfl := Option.some.inj ho
        have d1 := hold 1 _ (by kernel_rfl) rfl
        clear hold hneed ho
        (go_simp; exact hK _ _ rfl (Upd.refl [] _))
      | 9, ho =>
        obtain rfl := Option.some.inj ho
        have d8 := hold 8 _ (by kernel_rfl) rfl
        clear hold hneed ho
        (go_simp; exact hK _ _ rfl (Upd.refl [] _))
      | 10, ho =>
        obtain rfl := Option.some.inj ho
        have d50 := get_of_at (hneed 8 (of_decide_eq_true (by kernel_rfl)) 50 rfl) (by simp [undef])
        have d51 := get_of_at (hneed 9 (of_decide_eq_true (by kernel_rfl)) 51 rfl) (by simp [undef])
        clear hold hneed ho
        (go_simp; rw [Hs2.out, Hm2.out, Hc2.out]; exact hK _ _ rfl (Upd.refl [] _))
      | 11, ho =>
        obtain rfl := Option.some.inj ho
        have d45 := get_of_at (hneed 3 (of_decide_eq_true (by kernel_rfl)) 45 rfl) (by simp [undef])
        have d49 := get_of_at (hneed 7 (of_decide_eq_true (by kernel_rfl)) 49 rfl) (by simp [undef])
        have d52 := get_of_at (hneed 10 (of_decide_eq_true (by kernel_rfl)) 52 rfl) (by simp [undef])
        clear hold hneed ho
        (go_simp; exact hK _ _ ⟨_, rfl, Blk.new _ _ _⟩ ((Upd.refl [] _).alloc _))
      | 12, ho =>
        obtain rfl := Option.some.inj ho
        have d42 := get_of_at (hneed 0 (of_decide_eq_true (by kernel_rfl)) 42 rfl) (by simp [undef])
        obtain ⟨b53, e53, hB53⟩ := hneed 11 (of_decide_eq_true (by kernel_rfl)) 53 rfl
        have d53 := get_of_at e53 (by simp [undef])
        clear hold hneed ho
        (go_simp; refine (hC3 _ _ hS hB53).mono ?_; rintro e w3 ⟨rfl, hu3⟩; exact hK _ _ rfl hu3)
      | 13, ho =>
        obtain rfl := Option.some.inj ho
        have d9 := hold 9 _ (by kernel_rfl) rfl
        clear hold hneed ho
        (rw [if_pos (by simp [Region.wanted, yielded, *])]; exact wp_load_row 24 (.tmp 9) rfl R (by simp [Act.eval, *]) 24 _ (0, 0) _ (hRr _ hS) Tryd.underlying24 rfl (info32 _) (hK _ _ rfl (Upd.refl [] _)))
      | 14, ho =>
        obtain rfl := Option.some.inj ho
        have d54 := get_of_at (hneed 12 (of_decide_eq_true (by kernel_rfl)) 54 rfl) (by simp [undef])
        have d55 := get_of_at (hneed 13 (of_decide_eq_true (by kernel_rfl)) 55 rfl) (by simp [undef])
        clear hold hneed ho
        (go_simp; rw [eq_same]; go_simp; exact hK _ _ rfl (Upd.refl [] _))
      | 15, ho =>
        obtain rfl := Option.some.inj ho
        have d56 := get_of_at (hneed 14 (of_decide_eq_true (by kernel_rfl)) 56 rfl) (by simp [undef])
        clear hold hneed ho
        (go_simp; exact hK _ _ rfl (Upd.refl [] _))
      | 16, ho =>
        obtain rfl := Option.some.inj ho
        have d0 := hold 0 _ (by kernel_rfl) rfl
        have d57 := get_of_at (hneed 15 (of_decide_eq_true (by kernel_rfl)) 57 rfl) (by simp [undef])
        clear hold hneed ho
        (go_simp; exact hK _ _ rfl (Upd.refl [] _))
      | 17, ho =>
        obtain rfl := Option.some.inj ho
        have d1 := hold 1 _ (by kernel_rfl) rfl
        have d57 := get_of_at (hneed 15 (of_decide_eq_true (by kernel_rfl)) 57 rfl) (by simp [undef])
        clear hold hneed ho
        (go_simp; exact hK _ _ rfl (Upd.refl [] _))
      | 18, ho =>
        obtain rfl := Option.some.inj ho
        have d59 := get_of_at (hneed 17 (of_decide_eq_true (by kernel_rfl)) 59 rfl) (by simp [undef])
        have d57 := get_of_at (hneed 15 (of_decide_eq_true (by kernel_rfl)) 57 rfl) (by simp [undef])
        clear hold hneed ho
        (go_simp; exact hK _ _ ⟨_, rfl, Blk.new _ _ _⟩ ((Upd.refl [] _).alloc _))
      | 19, ho =>
        obtain rfl := Option.some.inj ho
        have d58 := get_of_at (hneed 16 (of_decide_eq_true (by kernel_rfl)) 58 rfl) (by simp [undef])
        obtain ⟨b60, e60, hB60⟩ := hneed 18 (of_decide_eq_true (by kernel_rfl)) 60 rfl
        have d60 := get_of_at e60 (by simp [undef])
        have d57 := get_of_at (hneed 15 (of_decide_eq_true (by kernel_rfl)) 57 rfl) (by simp [undef])
        clear hold hneed ho
        (go_simp; refine (hC2 _ _ hS hB60).mono ?_; rintro e w3 ⟨rfl, hu3⟩; exact hK _ _ rfl hu3)
      | 20, ho =>
        obtain rfl := Option.some.inj ho
        have d9 := hold 9 _ (by kernel_rfl) rfl
        have d57 := get_of_at (hneed 15 (of_decide_eq_true (by kernel_rfl)) 57 rfl) (by simp [undef])
        clear hold hneed ho
        (rw [if_pos (by simp [Region.wanted, yielded, *])]; exact wp_load_row 24 (.tmp 9) rfl R (by simp [Act.eval, *]) 24 _ (0, 0) _ (hRr _ hS) Tryd.underlying24 rfl (info32 _) (hK _ _ rfl (Upd.refl [] _)))
      | 21, ho =>
        obtain rfl := Option.some.inj ho
        have d61 := get_of_at (hneed 19 (of_decide_eq_true (by kernel_rfl)) 61 rfl) (by simp [undef])
        have d62 := get_of_at (hneed 20 (of_decide_eq_true (by kernel_rfl)) 62 rfl) (by simp [undef])
        have d57 := get_of_at (hneed 15 (of_decide_eq_true (by kernel_rfl)) 57 rfl) (by simp [undef])
        clear hold hneed ho
        (go_simp; rw [eq_same]; go_simp; exact hK _ _ rfl (Upd.refl [] _))
      | 22, ho =>
        obtain rfl := Option.some.inj ho
        have d57 := get_of_at (hneed 15 (of_decide_eq_true (by kernel_rfl)) 57 rfl) (by simp [undef])
        have d63 := get_of_at (hneed 21 (of_decide_eq_true (by kernel_rfl)) 63 rfl) (by simp [undef])
        clear hold hneed ho
        (go_simp; exact hK _ _ rfl (Upd.refl [] _))
      | 23, ho =>
        obtain rfl := Option.some.inj ho
        have d64 := get_of_at (hneed 22 (of_decide_eq_true (by kernel_rfl)) 64 rfl) (by simp [undef])
        clear hold hneed ho
        (go_simp; exact hK _ _ rfl (Upd.refl [] _))
      | 24, ho =>
        obtain rfl := Option.some.inj ho
        have d0 := hold 0 _ (by kernel_rfl) rfl
        have d65 := get_of_at (hneed 23 (of_decide_eq_true (by kernel_rfl)) 65 rfl) (by simp [undef])
        clear hold hneed ho
        (go_simp; exact hK _ _ rfl (Upd.refl [] _))
      | 25, ho =>
        obtain rfl := Option.some.inj ho
        have d66 := get_of_at (hneed 24 (of_decide_eq_true (by kernel_rfl)) 66 rfl) (by simp [undef])
        have d65 := get_of_at (hneed 23 (of_decide_eq_true (by kernel_rfl)) 65 rfl) (by simp [undef])
        clear hold hneed ho
        (go_simp; refine (hC0 _ hS).mono ?_; rintro e w3 ⟨rfl, hu3⟩; exact hK _ _ rfl hu3)
      | 26, ho =>
        obtain rfl := Option.some.inj ho
        have d0 := hold 0 _ (by kernel_rfl) rfl
        have d65 := get_of_at (hneed 23 (of_decide_eq_true (by kernel_rfl)) 65 rfl) (by simp [undef])
        clear hold hneed ho
        (go_simp; exact hK _ _ rfl (Upd.refl [] _))
      | 27, ho =>
        obtain rfl := Option.some.inj ho
        have d65 := get_of_at (hneed 23 (of_decide_eq_true (by kernel_rfl)) 65 rfl) (by simp [undef])
        clear hold hneed ho
        (go_simp; exact hK _ _ ⟨_, rfl, Blk.new _ _ _⟩ ((Upd.refl [] _).alloc _))
      | 28, ho =>
        obtain rfl := Option.some.inj ho
        have d68 := get_of_at (hneed 26 (of_decide_eq_true (by kernel_rfl)) 68 rfl) (by simp [undef])
        obtain ⟨b69, e69, hB69⟩ := hneed 27 (of_decide_eq_true (by kernel_rfl)) 69 rfl
        have d69 := get_of_at e69 (by simp [undef])
        have d65 := get_of_at (hneed 23 (of_decide_eq_true (by kernel_rfl)) 65 rfl) (by simp [undef])
        clear hold hneed ho
        (go_simp; refine (hC1 _ _ hS hB69).mono ?_; rintro e w3 ⟨rfl, hu3⟩; exact hK _ _ rfl hu3)
      | 29, ho =>
        obtain rfl := Option.some.inj ho
        have d67 := get_of_at (hneed 25 (of_decide_eq_true (by kernel_rfl)) 67 rfl) (by simp [undef])
        have d70 := get_of_at (hneed 28 (of_decide_eq_true (by kernel_rfl)) 70 rfl) (by simp [undef])
        have d65 := get_of_at (hneed 23 (of_decide_eq_true (by kernel_rfl)) 65 rfl) (by simp [undef])
        clear hold hneed ho
        (go_simp; rw [eq_same]; go_simp; exact hK _ _ rfl (Upd.refl [] _))
      | 30, ho =>
        obtain rfl := Option.some.inj ho
        have d65 := get_of_at (hneed 23 (of_decide_eq_true (by kernel_rfl)) 65 rfl) (by simp [undef])
        have d71 := get_of_at (hneed 29 (of_decide_eq_true (by kernel_rfl)) 71 rfl) (by simp [undef])
        clear hold hneed ho
        (go_simp; exact hK _ _ rfl (Upd.refl [] _))
      | 31, ho =>
        obtain rfl := Option.some.inj ho
        have d72 := get_of_at (hneed 30 (of_decide_eq_true (by kernel_rfl)) 72 rfl) (by simp [undef])
        clear hold hneed ho
        (go_simp; exact hK _ _ rfl (Upd.refl [] _))
      | _ + 32, ho => exact absurd ho (by simp)
    case fin =>
      intro a w' hS hsz hdf hold hvals
      obtain ⟨b53, hv53, hB53⟩ := hvals 11 53 rfl
      obtain ⟨b60, hv60, hB60⟩ := hvals 18 60 rfl
      obtain ⟨b69, hv69, hB69⟩ := hvals 27 69 rfl
      have ha := act_lit hsz hdf (RowIs.cons (at_of_get (hold 0 _ (by kernel_rfl) rfl)) (RowIs.cons (at_of_get (hold 1 _ (by kernel_rfl) rfl)) (RowIs.cons (at_of_get (hold 2 _ (by kernel_rfl) rfl)) (RowIs.cons (at_of_get (hold 3 _ (by kernel_rfl) rfl)) (RowIs.cons (at_of_get (hold 4 _ (by kernel_rfl) rfl)) (RowIs.cons (at_of_get (hold 5 _ (by kernel_rfl) rfl)) (RowIs.cons (hvals 31 6 rfl) (RowIs.cons (at_of_get (hold 7 _ (by kernel_rfl) rfl)) (RowIs.cons (at_of_get (hold 8 _ (by kernel_rfl) rfl)) (RowIs.cons (at_of_get (hold 9 _ (by kernel_rfl) rfl)) (RowIs.cons (at_of_get (hold 10 _ (by kernel_rfl) rfl)) (RowIs.cons (at_of_get (hold 11 _ (by kernel_rfl) rfl)) (RowIs.cons (at_of_get (hold 12 _ (by kernel_rfl) rfl)) (RowIs.cons (at_of_get (hold 13 _ (by kernel_rfl) rfl)) (RowIs.cons (at_of_get (hold 14 _ (by kernel_rfl) rfl)) (RowIs.cons (at_of_get (hold 15 _ (by kernel_rfl) rfl)) (RowIs.cons (at_of_get (hold 16 _ (by kernel_rfl) rfl)) (RowIs.cons (at_of_get (hold 17 _ (by kernel_rfl) rfl)) (RowIs.cons (at_of_get (hold 18 _ (by kernel_rfl) rfl)) (RowIs.cons (at_of_get (hold 19 _ (by kernel_rfl) rfl)) (RowIs.cons (at_of_get (hold 20 _ (by kernel_rfl) rfl)) (RowIs.cons (at_of_get (hold 21 _ (by kernel_rfl) rfl)) (RowIs.cons (at_of_get (hold 22 _ (by kernel_rfl) rfl)) (RowIs.cons (at_of_get (hold 23 _ (by kernel_rfl) rfl)) (RowIs.cons (at_of_get (hold 24 _ (by kernel_rfl) rfl)) (RowIs.cons (at_of_get (hold 25 _ (by kernel_rfl) rfl)) (RowIs.cons (at_of_get (hold 26 _ (by kernel_rfl) rfl)) (RowIs.cons (at_of_get (hold 27 _ (by kernel_rfl) rfl)) (RowIs.cons (at_of_get (hold 28 _ (by kernel_rfl) rfl)) (RowIs.cons (at_of_get (hold 29 _ (by kernel_rfl) rfl)) (RowIs.cons (at_of_get (hold 30 _ (by kernel_rfl) rfl)) (RowIs.cons (at_of_get (hold 31 _ (by kernel_rfl) rfl)) (RowIs.cons (at_of_get (hold 32 _ (by kernel_rfl) rfl)) (RowIs.cons (at_of_get (hold 33 _ (by kernel_rfl) rfl)) (RowIs.cons (at_of_get (hold 34 _ (by kernel_rfl) rfl)) (RowIs.cons (at_of_get (hold 35 _ (by kernel_rfl) rfl)) (RowIs.cons (at_of_get (hold 36 _ (by kernel_rfl) rfl)) (RowIs.cons (at_of_get (hold 37 _ (by kernel_rfl) rfl)) (RowIs.cons (at_of_get (hold 38 _ (by kernel_rfl) rfl)) (RowIs.cons (at_of_get (hold 39 _ (by kernel_rfl) rfl)) (RowIs.cons (at_of_get (hold 40 _ (by kernel_rfl) rfl)) (RowIs.cons (at_of_get (hold 41 _ (by kernel_rfl) rfl)) (RowIs.cons (hvals 0 42 rfl) (RowIs.cons (hvals 1 43 rfl) (RowIs.cons (hvals 2 44 rfl) (RowIs.cons (hvals 3 45 rfl) (RowIs.cons (hvals 4 46 rfl) (RowIs.cons (hvals 5 47 rfl) (RowIs.cons (hvals 6 48 rfl) (RowIs.cons (hvals 7 49 rfl) (RowIs.cons (hvals 8 50 rfl) (RowIs.cons (hvals 9 51 rfl) (RowIs.cons (hvals 10 52 rfl) (RowIs.cons hv53 (RowIs.cons (hvals 12 54 rfl) (RowIs.cons (hvals 13 55 rfl) (RowIs.cons (hvals 14 56 rfl) (RowIs.cons (hvals 15 57 rfl) (RowIs.cons (hvals 16 58 rfl) (RowIs.cons (hvals 17 59 rfl) (RowIs.cons hv60 (RowIs.cons (hvals 19 61 rfl) (RowIs.cons (hvals 20 62 rfl) (RowIs.cons (hvals 21 63 rfl) (RowIs.cons (hvals 22 64 rfl) (RowIs.cons (hvals 23 65 rfl) (RowIs.cons (hvals 24 66 rfl) (RowIs.cons (hvals 25 67 rfl) (RowIs.cons (hvals 26 68 rfl) (RowIs.cons hv69 (RowIs.cons (hvals 28 70 rfl) (RowIs.cons (hvals 29 71 rfl) (RowIs.cons (hvals 30 72 rfl) (RowIs.nil _ _)))))))))))))))))))))))))))))))))))))))))))))))))))))))))))))))))))))))))) rfl
      clear hsz hdf hold hvals
      subst ha
      try simp only [List.getElem_toArray, List.getElem_cons_succ, List.getElem_cons_zero]
      have t6 := t5.trans_nil hS
      go_wp2_with fail
      go_ret
      exact ⟨rfl, t6⟩

end Go.Proofs.YtclfmgkomkmbjaaDoor
