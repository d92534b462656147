/- WaxSeals: the walk. -/
import Derived.Test.YtclfmgkomkmbjaaDoorWxS
import Derived.Test.YtclfmgkomkmbjaaDoorWxTc
namespace Go.Proofs.YtclfmgkomkmbjaaDoor
open Go.RowKit

set_option maxRecDepth 100000 in
set_option maxHeartbeats 8000000 in
theorem seals_walk (w : World) (p : Option Addr) (ks : List Int) (c : Nat) (hk : ByAt w p ks) (hrk : Rng ks) (hkl : ks.length ≤ 9223372036854775807) (hkc : ks.length ≤ c)
    (q : Option Addr) (es : List Int) (d : Nat) (ha : ByAt w q es) (hra : Rng es) (hal : es.length ≤ 9223372036854775807) (hac : es.length ≤ d)
    (r : Option Addr) (bs : List Int) (f : Nat) (hb : ByAt w r bs) (hrb : Rng bs) (hbl : bs.length ≤ 9223372036854775807) (hbc : bs.length ≤ f)
    (hdb : w.cell? ⟨3, 15, none⟩ = some (.int .u8 4)) :
    Calls Tryd.prog 5 #[.slice p ks.length c, .slice q es.length d, .slice r bs.length f] w fun e w' => e = .returned (.bool true) ∧ Upd [] w w' := by
  have hdl : 3 < w.heap.size := lt_of_cell hdb
  have hdb2 : ∀ W, Upd [] w W → W.cell? ⟨3, 15, none⟩ = some (.int .u8 4) := fun W u => (u.cell hdl (by simp)).trans hdb
  obtain ⟨kn, hkn⟩ : ∃ kn : Nat, min (ks.length : Int) 500 = kn := ⟨min ks.length 500, by omega⟩
  obtain ⟨an, han⟩ : ∃ n : Nat, min (es.length : Int) 500 = n := ⟨min es.length 500, by omega⟩
  obtain ⟨bn, hbn⟩ : ∃ n : Nat, min (bs.length : Int) 500 = n := ⟨min bs.length 500, by omega⟩
  have hK : ByAt w p (ks.take 500) := hk.take 500
  have hA : ByAt w q (es.take 500) := ha.take 500
  have hB : ByAt w r (bs.take 500) := hb.take 500
  have hKr : Rng (ks.take 500) := hrk.take 500
  have hAr : Rng (es.take 500) := hra.take 500
  have hBr : Rng (bs.take 500) := hrb.take 500
  have HKl : Hid ((ks.take 500).length = kn) := Lib.hid (by rw [List.length_take]; omega)
  have HAl : Hid ((es.take 500).length = an) := Lib.hid (by rw [List.length_take]; omega)
  have HBl : Hid ((bs.take 500).length = bn) := Lib.hid (by rw [List.length_take]; omega)
  have Hkn := Lib.hid hkn
  have Han := Lib.hid han
  have Hbn := Lib.hid hbn
  have i1 : (kn : Int) ≤ c := by omega
  have i2 : (an : Int) ≤ d := by omega
  have i3 : (bn : Int) ≤ f := by omega
  have i4 : (0 : Int) ≤ kn := by omega
  have i5 : (0 : Int) ≤ an := by omega
  have i6 : (0 : Int) ≤ bn := by omega
  have k1 : kn ≤ 500 := by omega
  have k2 : an ≤ 500 := by omega
  have k3 : bn ≤ 500 := by omega
  have k4 : kn ≤ c := by omega
  have k5 : an ≤ d := by omega
  have k6 : bn ≤ f := by omega
  clear hkn han hbn hk ha hb hrk hra hrb
  generalize ks.take 500 = K at *
  generalize es.take 500 = A at *
  generalize bs.take 500 = B at *
  go_enter Tryd.func5, Tryd.ntmps5
  go_upto_region 1 with fail
  refine wp_region_spec2 [(.eq (.slice p ks.length c)), (.eq (.slice p ks.length c)), (.eq (.int .i64 (ks.length : Int))), (.eq (.int .i64 (kn : Int))), (.eq (.slice p kn c)), (.eq (.slice q es.length d)), (.eq (.slice q es.length d)), (.eq (.int .i64 (es.length : Int))), (.eq (.int .i64 (an : Int))), (.eq (.slice q an d)), (.eq (.slice r bs.length f)), (.eq (.slice r bs.length f)), (.eq (.int .i64 (bs.length : Int))), (.eq (.int .i64 (bn : Int))), (.eq (.slice r bn f)), (.eq (.slice p kn c)), (.eq (.slice q an d)), (.eq (.slice r bn f))] (by kernel_rfl) (by kernel_rfl) rfl ?step ?fin
  case step =>
    intro i o ho a w' hS hold hneed K' hK
    match i, ho with
    | 0, ho =>
      obtain rfl := Option.some.inj ho
      have d0 := hold 0 _ (by kernel_rfl) rfl
      clear hold hneed ho
      (go_simp; exact hK _ _ rfl (Upd.refl [] _))
    | 1, ho =>
      obtain rfl := Option.some.inj ho
      have d0 := hold 0 _ (by kernel_rfl) rfl
      clear hold hneed ho
      (go_simp; exact hK _ _ rfl (Upd.refl [] _))
    | 2, ho =>
      obtain rfl := Option.some.inj ho
      have d12 := get_of_at (hneed 1 (of_decide_eq_true (by kernel_rfl)) 12 rfl) (by simp [undef])
      clear hold hneed ho
      (go_simp; exact hK _ _ rfl (Upd.refl [] _))
    | 3, ho =>
      obtain rfl := Option.some.inj ho
      have d13 := get_of_at (hneed 2 (of_decide_eq_true (by kernel_rfl)) 13 rfl) (by simp [undef])
      clear hold hneed ho
      (go_simp; rw [Hkn.out]; exact hK _ _ rfl (Upd.refl [] _))
    | 4, ho =>
      obtain rfl := Option.some.inj ho
      have d11 := get_of_at (hneed 0 (of_decide_eq_true (by kernel_rfl)) 11 rfl) (by simp [undef])
      have d14 := get_of_at (hneed 3 (of_decide_eq_true (by kernel_rfl)) 14 rfl) (by simp [undef])
      clear hold hneed ho
      (go_simp; exact hK _ _ rfl (Upd.refl [] _))
    | 5, ho =>
      obtain rfl := Option.some.inj ho
      have d1 := hold 1 _ (by kernel_rfl) rfl
      clear hold hneed ho
      (go_simp; exact hK _ _ rfl (Upd.refl [] _))
    | 6, ho =>
      obtain rfl := Option.some.inj ho
      have d1 := hold 1 _ (by kernel_rfl) rfl
      clear hold hneed ho
      (go_simp; exact hK _ _ rfl (Upd.refl [] _))
    | 7, ho =>
      obtain rfl := Option.some.inj ho
      have d17 := get_of_at (hneed 6 (of_decide_eq_true (by kernel_rfl)) 17 rfl) (by simp [undef])
      clear hold hneed ho
      (go_simp; exact hK _ _ rfl (Upd.refl [] _))
    | 8, ho =>
      obtain rfl := Option.some.inj ho
      have d18 := get_of_at (hneed 7 (of_decide_eq_true (by kernel_rfl)) 18 rfl) (by simp [undef])
      clear hold hneed ho
      (go_simp; rw [Han.out]; exact hK _ _ rfl (Upd.refl [] _))
    | 9, ho =>
      obtain rfl := Option.some.inj ho
      have d16 := get_of_at (hneed 5 (of_decide_eq_true (by kernel_rfl)) 16 rfl) (by simp [undef])
      have d19 := get_of_at (hneed 8 (of_decide_eq_true (by kernel_rfl)) 19 rfl) (by simp [undef])
      clear hold hneed ho
      (go_simp; exact hK _ _ rfl (Upd.refl [] _))
    | 10, ho =>
      obtain rfl := Option.some.inj ho
      have d2 := hold 2 _ (by kernel_rfl) rfl
      clear hold hneed ho
      (go_simp; exact hK _ _ rfl (Upd.refl [] _))
    | 11, ho =>
      obtain rfl := Option.some.inj ho
      have d2 := hold 2 _ (by kernel_rfl) rfl
      clear hold hneed ho
      (go_simp; exact hK _ _ rfl (Upd.refl [] _))
    | 12, ho =>
      obtain rfl := Option.some.inj ho
      have d22 := get_of_at (hneed 11 (of_decide_eq_true (by kernel_rfl)) 22 rfl) (by simp [undef])
      clear hold hneed ho
      (go_simp; exact hK _ _ rfl (Upd.refl [] _))
    | 13, ho =>
      obtain rfl := Option.some.inj ho
      have d23 := get_of_at (hneed 12 (of_decide_eq_true (by kernel_rfl)) 23 rfl) (by simp [undef])
      clear hold hneed ho
      (go_simp; rw [Hbn.out]; exact hK _ _ rfl (Upd.refl [] _))
    | 14, ho =>
      obtain rfl := Option.some.inj ho
      have d21 := get_of_at (hneed 10 (of_decide_eq_true (by kernel_rfl)) 21 rfl) (by simp [undef])
      have d24 := get_of_at (hneed 13 (of_decide_eq_true (by kernel_rfl)) 24 rfl) (by simp [undef])
      clear hold hneed ho
      (go_simp; exact hK _ _ rfl (Upd.refl [] _))
    | 15, ho =>
      obtain rfl := Option.some.inj ho
      have d15 := get_of_at (hneed 4 (of_decide_eq_true (by kernel_rfl)) 15 rfl) (by simp [undef])
      clear hold hneed ho
      (go_simp; exact hK _ _ rfl (Upd.refl [] _))
    | 16, ho =>
      obtain rfl := Option.some.inj ho
      have d20 := get_of_at (hneed 9 (of_decide_eq_true (by kernel_rfl)) 20 rfl) (by simp [undef])
      clear hold hneed ho
      (go_simp; exact hK _ _ rfl (Upd.refl [] _))
    | 17, ho =>
      obtain rfl := Option.some.inj ho
      have d25 := get_of_at (hneed 14 (of_decide_eq_true (by kernel_rfl)) 25 rfl) (by simp [undef])
      clear hold hneed ho
      (go_simp; exact hK _ _ rfl (Upd.refl [] _))
    | _ + 18, ho => exact absurd ho (by simp)
  case fin =>
    intro a w' hS hsz hdf hold hvals
    have ha := act_lit hsz hdf (RowIs.cons (hvals 15 0 rfl) (RowIs.cons (hvals 16 1 rfl) (RowIs.cons (hvals 17 2 rfl) (RowIs.cons (at_of_get (hold 3 _ (by kernel_rfl) rfl)) (RowIs.cons (at_of_get (hold 4 _ (by kernel_rfl) rfl)) (RowIs.cons (at_of_get (hold 5 _ (by kernel_rfl) rfl)) (RowIs.cons (at_of_get (hold 6 _ (by kernel_rfl) rfl)) (RowIs.cons (at_of_get (hold 7 _ (by kernel_rfl) rfl)) (RowIs.cons (at_of_get (hold 8 _ (by kernel_rfl) rfl)) (RowIs.cons (at_of_get (hold 9 _ (by kernel_rfl) rfl)) (RowIs.cons (at_of_get (hold 10 _ (by kernel_rfl) rfl)) (RowIs.cons (hvals 0 11 rfl) (RowIs.cons (hvals 1 12 rfl) (RowIs.cons (hvals 2 13 rfl) (RowIs.cons (hvals 3 14 rfl) (RowIs.cons (hvals 4 15 rfl) (RowIs.cons (hvals 5 16 rfl) (RowIs.cons (hvals 6 17 rfl) (RowIs.cons (hvals 7 18 rfl) (RowIs.cons (hvals 8 19 rfl) (RowIs.cons (hvals 9 20 rfl) (RowIs.cons (hvals 10 21 rfl) (RowIs.cons (hvals 11 22 rfl) (RowIs.cons (hvals 12 23 rfl) (RowIs.cons (hvals 13 24 rfl) (RowIs.cons (hvals 14 25 rfl) (RowIs.cons (at_of_get (hold 26 _ (by kernel_rfl) rfl)) (RowIs.cons (at_of_get (hold 27 _ (by kernel_rfl) rfl)) (RowIs.cons (at_of_get (hold 28 _ (by kernel_rfl) rfl)) (RowIs.cons (at_of_get (hold 29 _ (by kernel_rfl) rfl)) (RowIs.cons (at_of_get (hold 30 _ (by kernel_rfl) rfl)) (RowIs.cons (at_of_get (hold 31 _ (by kernel_rfl) rfl)) (RowIs.cons (at_of_get (hold 32 _ (by kernel_rfl) rfl)) (RowIs.cons (at_of_get (hold 33 _ (by kernel_rfl) rfl)) (RowIs.cons (at_of_get (hold 34 _ (by kernel_rfl) rfl)) (RowIs.cons (at_of_get (hold 35 _ (by kernel_rfl) rfl)) (RowIs.cons (at_of_get (hold 36 _ (by kernel_rfl) rfl)) (RowIs.cons (at_of_get (hold 37 _ (by kernel_rfl) rfl)) (RowIs.cons (at_of_get (hold 38 _ (by kernel_rfl) rfl)) (RowIs.cons (at_of_get (hold 39 _ (by kernel_rfl) rfl)) (RowIs.cons (at_of_get (hold 40 _ (by kernel_rfl) rfl)) (RowIs.cons (at_of_get (hold 41 _ (by kernel_rfl) rfl)) (RowIs.cons (at_of_get (hold 42 _ (by kernel_rfl) rfl)) (RowIs.cons (at_of_get (hold 43 _ (by kernel_rfl) rfl)) (RowIs.cons (at_of_get (hold 44 _ (by kernel_rfl) rfl)) (RowIs.cons (at_of_get (hold 45 _ (by kernel_rfl) rfl)) (RowIs.cons (at_of_get (hold 46 _ (by kernel_rfl) rfl)) (RowIs.cons (at_of_get (hold 47 _ (by kernel_rfl) rfl)) (RowIs.cons (at_of_get (hold 48 _ (by kernel_rfl) rfl)) (RowIs.cons (at_of_get (hold 49 _ (by kernel_rfl) rfl)) (RowIs.cons (at_of_get (hold 50 _ (by kernel_rfl) rfl)) (RowIs.cons (at_of_get (hold 51 _ (by kernel_rfl) rfl)) (RowIs.cons (at_of_get (hold 52 _ (by kernel_rfl) rfl)) (RowIs.cons (at_of_get (hold 53 _ (by kernel_rfl) rfl)) (RowIs.cons (at_of_get (hold 54 _ (by kernel_rfl) rfl)) (RowIs.cons (at_of_get (hold 55 _ (by kernel_rfl) rfl)) (RowIs.cons (at_of_get (hold 56 _ (by kernel_rfl) rfl)) (RowIs.cons (at_of_get (hold 57 _ (by kernel_rfl) rfl)) (RowIs.cons (at_of_get (hold 58 _ (by kernel_rfl) rfl)) (RowIs.cons (at_of_get (hold 59 _ (by kernel_rfl) rfl)) (RowIs.cons (at_of_get (hold 60 _ (by kernel_rfl) rfl)) (RowIs.cons (at_of_get (hold 61 _ (by kernel_rfl) rfl)) (RowIs.cons (at_of_get (hold 62 _ (by kernel_rfl) rfl)) (RowIs.cons (at_of_get (hold 63 _ (by kernel_rfl) rfl)) (RowIs.cons (at_of_get (hold 64 _ (by kernel_rfl) rfl)) (RowIs.cons (at_of_get (hold 65 _ (by kernel_rfl) rfl)) (RowIs.cons (at_of_get (hold 66 _ (by kernel_rfl) rfl)) (RowIs.cons (at_of_get (hold 67 _ (by kernel_rfl) rfl)) (RowIs.cons (at_of_get (hold 68 _ (by kernel_rfl) rfl)) (RowIs.cons (at_of_get (hold 69 _ (by kernel_rfl) rfl)) (RowIs.cons (at_of_get (hold 70 _ (by kernel_rfl) rfl)) (RowIs.cons (at_of_get (hold 71 _ (by kernel_rfl) rfl)) (RowIs.nil _ _))))))))))))))))))))))))))))))))))))))))))))))))))))))))))))))))))))))))) rfl
    clear hsz hdf hold hvals
    subst ha
    try simp only [List.getElem_toArray, List.getElem_cons_succ, List.getElem_cons_zero]
    clear hkl hkc hal hac hbl hbc
    have hcK := fun (W : World) (u : Upd [] w W) => copy_walk W p K c (hK.upd_nil u) (by rw [HKl.out]; omega)
    have hcA := fun (W : World) (u : Upd [] w W) => copy_walk W q A d (hA.upd_nil u) (by rw [HAl.out]; omega)
    have hcB := fun (W : World) (u : Upd [] w W) => copy_walk W r B f (hB.upd_nil u) (by rw [HBl.out]; omega)
    rw [HKl.out] at hcK
    rw [HAl.out] at hcA
    rw [HBl.out] at hcB
    go_upto_region 3 with (first
      | (go_at_call 11; refine (hcB _ t2).mono ?_; rintro e w3 ⟨p3, c3, rfl, o3, u3⟩; have t3 := t2.trans_nil u3)
      | (go_at_call 11; refine (hcA _ t1).mono ?_; rintro e w2 ⟨p2, c2, rfl, o2, u2⟩; have t2 := t1.trans_nil u2)
      | (go_at_call 11; refine (hcK _ hS).mono ?_; rintro e w1 ⟨p1, c1, rfl, o1, u1⟩; have t1 := hS.trans_nil u1))
    have aK := (o1.at_.upd_nil u2).upd_nil u3
    have aA := o2.at_.upd_nil u3
    have aB := o3.at_
    have m1 : kn ≤ c1 := by obtain ⟨_, _, e, h, _⟩ := o1.form; cases e; rw [HKl.out] at h; exact h
    have m2 : an ≤ c2 := by obtain ⟨_, _, e, h, _⟩ := o2.form; cases e; rw [HAl.out] at h; exact h
    have m3 : bn ≤ c3 := by obtain ⟨_, _, e, h, _⟩ := o3.form; cases e; rw [HBl.out] at h; exact h
    clear o1 o2 o3 u1 u2 u3 t1 t2 hS hcK hcB
    obtain ⟨ab, hab⟩ : ∃ ab, an + bn = ab := ⟨_, rfl⟩
    have k7 : ab ≤ 1000 := by omega
    have HABl : Hid ((A ++ B).length = ab) := Lib.hid (by rw [List.length_append, HAl.out, HBl.out]; exact hab)
    go_upto_region 4 with (first
      | (at_builtin; refine app_bytes3 rfl _ _ rfl w3.heap.size (.slice p4 an c4) A an HAl.out rfl o4 r bn f B rfl HBl.out.symm (hB.upd_nil (t3.trans_nil u4)) (by omega) u4.size ?_; rintro p5 c5 w5 o5 g5 _)
      | (go_at_call 11; refine (hcA _ t3).mono ?_; rintro e w4 ⟨p4, c4, rfl, o4, u4⟩))
    have u5 : Upd [] w3 w5 := u4.grown g5 (fun k hk => .inr (o4.lt k hk).1)
    have t5 := t3.trans_nil u5
    have aK := aK.upd_nil u5
    have aA := aA.upd_nil u5
    have aB := aB.upd_nil u5
    have aAB := o5.at_
    (try rw [hab])
    clear u5 u4 o4 g5 o5 hcA t3 hab
    have hBk := Blk.new w5 #[.slice p2 an c2, .slice p3 bn c3] 22
    have uB := (Upd.refl [] w5).alloc (.cells #[.slice p2 an c2, .slice p3 bn c3] 22)
    have hrow := rows2 (xs := A) (ys := B) (c1 := c2) (c2 := c3) (p1 := p2) (p2 := p3) (by rw [HAl.out, HBl.out]; exact hBk) (aA.upd_nil uB) hAr (by rw [HAl.out]; exact m2) (aB.upd_nil uB) hBr (by rw [HBl.out]; exact m3)
    have hfl : [A, B].flatten = A ++ B := by simp
    have hmac : Calls Tryd.prog 9 #[.slice p1 kn c1, .slice (some ⟨w5.heap.size, 0, none⟩) 2 2] (w5.alloc (.cells #[.slice p2 an c2, .slice p3 bn c3] 22)) fun e w' => e = .returned (agg32 (mac K (A ++ B))) ∧ Upd [] (w5.alloc (.cells #[.slice p2 an c2, .slice p3 bn c3] 22)) w' := by
      have := mac_walk _ p1 K c1 (aK.upd_nil uB) hKr (by rw [HKl.out]; omega) (some ⟨w5.heap.size, 0, none⟩) [A, B] 2 hrow (by simp) (by rw [hfl, List.length_append, HAl.out, HBl.out]; omega)
      rw [HKl.out, hfl] at this
      exact this
    have hrm : ∀ W, Upd [] w5 W → Calls Tryd.prog 13 #[.slice p kn c, .slice p5 ab c5] W fun e w' => e = .returned (agg32 (mac K (A ++ B))) ∧ Upd [] W w' := fun W u => by
      have := rmac W p K c (hK.upd_nil (t5.trans_nil u)) hKr (by rw [HKl.out]; omega) p5 (A ++ B) c5 (aAB.upd_nil u) (hAr.app hBr) (by rw [HABl.out]; omega)
      rw [HKl.out, HABl.out] at this
      exact this
    have hsm : ∀ W, Upd [] w5 W → Calls Tryd.prog 14 #[.slice p2 an c2, .slice p3 bn c3] W fun e w' => e = .returned (.bool (decide (A = B))) ∧ Upd [] W w' := fun W u => by
      have := same_walk W p2 A c2 p3 B c3 (aA.upd_nil u) hAr (aB.upd_nil u) hBr (by rw [HAl.out]; omega) (by rw [HBl.out]; omega)
      rw [HAl.out, HBl.out] at this
      exact this
    have hq1 : ∀ W, Upd [] w5 W → Calls Tryd.prog 15 #[.slice q an d, .slice r bn f] W fun e w' => e = .returned (.bool (decide (A = B))) ∧ Upd [] W w' := fun W u => by
      have := eqb_gen W q A d r B f (hA.upd_nil (t5.trans_nil u)) (hB.upd_nil (t5.trans_nil u)) hAr hBr (by rw [HAl.out]; omega) (by rw [HBl.out]; omega)
      rw [HAl.out, HBl.out] at this
      exact this
    have hq2 : ∀ W, Upd [] w5 W → Calls Tryd.prog 15 #[.slice p1 kn c1, .slice p kn c] W fun e w' => e = .returned (.bool true) ∧ Upd [] W w' := fun W u => by
      have := eqb_gen W p1 K c1 p K c (aK.upd_nil u) (hK.upd_nil (t5.trans_nil u)) hKr hKr (by rw [HKl.out]; omega) (by rw [HKl.out]; omega)
      rw [HKl.out, decide_eq_true rfl] at this
      exact this
    have hq3 : ∀ W, Upd [] w5 W → Calls Tryd.prog 15 #[.slice p2 an c2, .slice q an d] W fun e w' => e = .returned (.bool true) ∧ Upd [] W w' := fun W u => by
      have := eqb_gen W p2 A c2 q A d (aA.upd_nil u) (hA.upd_nil (t5.trans_nil u)) hAr hAr (by rw [HAl.out]; omega) (by rw [HAl.out]; omega)
      rw [HAl.out, decide_eq_true rfl] at this
      exact this
    have hq4 : ∀ W, Upd [] w5 W → Calls Tryd.prog 15 #[.slice p3 bn c3, .slice r bn f] W fun e w' => e = .returned (.bool true) ∧ Upd [] W w' := fun W u => by
      have := eqb_gen W p3 B c3 r B f (aB.upd_nil u) (hB.upd_nil (t5.trans_nil u)) hBr hBr (by rw [HBl.out]; omega) (by rw [HBl.out]; omega)
      rw [HBl.out, decide_eq_true rfl] at this
      exact this
    unfold agg32 at hmac hrm
    have heq := fun w : World => eq_same w (mac K (A ++ B))
    generalize mac K (A ++ B) = F at hmac hrm heq
    revert F
    refine id ?_
    intro F hmac hrm heq
    generalize decide (A = B) = tb at *
    clear hrow hfl hBk aK aA aB aAB hK hA hB
    go_wp2_with (first
      | (have tok := r12; go_at_call 8; refine (works_walk _ (hdb2 _ (t5.trans_nil r12))).mono ?_; rintro e w13 ⟨rfl, s13⟩; have r13 := r12.trans_nil s13)
      | (have tok := r11; go_at_call_of 15 (Value.slice p3 bn c3); refine (hq4 _ r11).mono ?_; rintro e w12 ⟨rfl, s12⟩; have r12 := r11.trans_nil s12)
      | (have tok := r10; go_at_call_of 15 (Value.slice p2 an c2); refine (hq3 _ r10).mono ?_; rintro e w11 ⟨rfl, s11⟩; have r11 := r10.trans_nil s11)
      | (have tok := r9; go_at_call_of 15 (Value.slice p1 kn c1); refine (hq2 _ r9).mono ?_; rintro e w10 ⟨rfl, s10⟩; have r10 := r9.trans_nil s10)
      | (have tok := r8; go_at_call_of 15 (Value.slice r bn f); refine (hq1 _ r8).mono ?_; rintro e w9 ⟨rfl, s9⟩; have r9 := r8.trans_nil s9)
      | (have tok := r7; go_at_call_of 14 (Value.slice p2 an c2); refine (hsm _ r7).mono ?_; rintro e w8 ⟨rfl, s8⟩; have r8 := r7.trans_nil s8)
      | (have tok := r6; go_at_call 13; refine (hrm _ r6).mono ?_; rintro e w7 ⟨rfl, s7⟩; have r7 := r6.trans_nil s7)
      | (go_at_call 9; refine hmac.mono ?_; rintro e w6 ⟨rfl, s6⟩; have r6 := uB.trans_nil s6))
    go_ret
    exact ⟨rfl, t5.trans_nil r13⟩

end Go.Proofs.YtclfmgkomkmbjaaDoor
