/- WaxSame: the walk. -/
import Derived.Test.YtclfmgkomkmbjaaDoorWxE
import Derived.Test.YtclfmgkomkmbjaaDoorBring
import Derived.Laws.OwnMore
namespace Go.Proofs.YtclfmgkomkmbjaaDoor
open Go.RowKit

theorem bring_big (x m : Int) (w : World) (hm : 0 < m) (hm2 : m ≤ 4611686018427387904) (h1 : -9223372036854775808 ≤ x) (h2 : x ≤ 9223372036854775807) :
    Calls Tryd.prog 12 #[.int .i64 x, .int .i64 m] w fun e w' => e = .returned (.int .i64 (x % m)) ∧ w = w' := by
  go_enter Tryd.func12, Tryd.ntmps12
  go_wp2
  · rename_i hneg
    go_ret
    have e := tmod_neg x m hm hneg
    have h0 := Int.emod_nonneg x (show m ≠ 0 by omega)
    have h3 := Int.emod_lt_of_pos x hm
    exact ⟨ret_int (by rw [e]; unfold wrap64; omega), rfl⟩
  · rename_i hpos
    go_ret
    exact ⟨ret_int (tmod_pos x m hm hpos), rfl⟩

theorem set_ne_self {L : List Int} {i : Nat} (hi : i < L.length) (v : Int) : L.set i v = L ↔ v = L.getD i 0 := by
  constructor
  · intro h
    have := congrArg (fun l => l[i]?) h
    simp only [List.getElem?_set_self hi] at this
    rw [List.getD_eq_getElem?_getD, ← this]; rfl
  · rintro rfl
    apply List.ext_getElem?
    intro j
    rw [List.getElem?_set]
    split
    · rename_i e; subst e
      rw [List.getD_eq_getElem?_getD, List.getElem?_eq_getElem hi]
      simp [hi]
    · rfl

set_option maxRecDepth 100000 in
set_option maxHeartbeats 4000000 in
theorem wsame_walk (w : World) (p : Option Addr) (xs : List Int) (c : Nat) (hx : ByAt w p xs) (hr : Rng xs) (hl : xs.length ≤ 140737488351232) (at' by' : Int) (ha1 : -9223372036854775808 ≤ at') (ha2 : at' ≤ 9223372036854775807) (hb1 : 0 ≤ by') (hb2 : by' ≤ 255)
    (hdb : w.cell? ⟨3, 15, none⟩ = some (.int .u8 4)) :
    Calls Tryd.prog 6 #[.slice p xs.length c, .int .i64 at', .int .u8 by'] w fun e w' => e = .returned (.bool true) ∧ Upd [] w w' := by
  go_enter Tryd.func6, Tryd.ntmps6
  have hone : ∀ W : World, ByAt (W.alloc (.cells #[.int .u8 7] 5)) (some ⟨W.heap.size, 0, none⟩) [7] := fun W => ByAt.one W 7 _
  have hxl : xs.length ≤ 140737488355328 := by omega
  go_upto_region 4 with (first
    | (go_at_call 8; refine (works_walk _ hdb).mono ?_; rintro e w1 ⟨rfl, u1⟩)
    | (go_at_call 11; refine (copy_walk _ p xs c (hx.upd_nil u1) hxl).mono ?_; rintro e w2 ⟨p2, c2, rfl, o2, u2⟩; have t2 := u1.trans_nil u2; have hO2 := o2.mono (Nat.le_trans u1.size (Nat.le_refl _)))
    | (at_builtin; refine app_bytes rfl _ _ rfl w.heap.size _ xs rfl (hO2.upd_nil ((Upd.refl [] w2).alloc _)) (some ⟨w2.heap.size, 0, none⟩) 1 1 [7] rfl rfl (hone w2) (by simp only [List.length_singleton]; omega) (by have := t2.size; simp; omega) ?_; rintro p3 c3 w3 hown3 hgrow3))
  have v3 : Upd [] w w3 := (t2.alloc _).grown hgrow3 (fun k hk => .inr (hO2.lt k hk).1)
  have hCl : (xs ++ [7]).length = xs.length + 1 := by simp
  have hCr : Rng (xs ++ [7]) := hr.app (fun x hx => by simp at hx; omega)
  have hne : (xs = xs ++ [7]) = False := by
    apply eq_false
    intro h
    have := congrArg List.length h
    simp at this
  have hne2 : (xs ++ [7] = xs) = False := by rw [← hne]; exact propext ⟨fun h => h.symm, fun h => h.symm⟩
  have hx3 := hx.upd_nil v3
  have hC3 : OwnB w3 w.heap.size (.slice p3 (xs.length + 1) c3) (xs ++ [7]) := hown3
  have H1 : Hid (decide (xs = xs ++ [7]) = false) := Lib.hid (by simp only [hne]; rfl)
  have H2 : Hid (decide (xs ++ [7] = xs) = false) := Lib.hid (by simp only [hne2]; rfl)
  clear hown3 hgrow3 hO2 t2 u1 u2 o2 hone hdb hne hne2
  generalize xs ++ [7] = C at *
  obtain ⟨m, hm⟩ : ∃ m, xs.length + 1 = m := ⟨_, rfl⟩
  rw [hm] at hCl hC3
  have hmm : (xs.length : Int) + 1 = (m : Int) := by omega
  have hm1 : 1 ≤ m := by omega
  have hml : m ≤ 140737488355328 := by omega
  have hcp := copy_walk w3 p3 C c3 hC3.at_ (by omega)
  rw [hCl] at hcp
  obtain ⟨n, hn, hn2⟩ : ∃ n : Nat, at' % (m : Int) = n ∧ n < m := by
    obtain ⟨h1, h2⟩ := bring_bd at' m (by omega)
    exact ⟨(at' % (m : Int)).toNat, by omega, by omega⟩
  have hbr := fun W => bring_big at' (m : Int) W (by omega) (by omega) ha1 ha2
  rw [hn] at hbr
  have Hm := Lib.hid hm
  clear hn
  have hm' : xs.length + 1 = m := hm
  go_upto_region 5 with (go_at_call 11; (try rw [hm']); refine hcp.mono ?_; rintro e w4 ⟨p4, c4, rfl, o4, u4⟩)
  have v4 := v3.trans_nil u4
  have hC4 := hC3.upd_nil u4
  have hx4 := hx3.upd_nil u4
  obtain ⟨g3, rfl, hg3, hg3l, -, -, -, -⟩ := hC3.spot n (by omega)
  obtain ⟨g4, rfl, hg4, hg4l, -, hD1, hD2, hD3⟩ := o4.spot n (by omega)
  have hDr : 0 ≤ C.getD n 0 ∧ C.getD n 0 < 256 := hCr.getD n
  have hDn : C.set n ((C.getD n 0 + by') % 256) = C ↔ by' = 0 := by
    rw [set_ne_self (by omega)]
    omega
  have hDD : Rng (C.set n ((C.getD n 0 + by') % 256)) := fun x hx => by
    rcases List.mem_or_eq_of_mem_set hx with h | h
    · exact hCr x h
    · omega
  have hDl : (C.set n ((C.getD n 0 + by') % 256)).length = m := by rw [List.length_set]; exact hCl
  have hD3' := hD3 ((C.getD n 0 + by') % 256)
  clear hD3 hcp hC3 o4 u4 v3 hx3
  generalize C.set n ((C.getD n 0 + by') % 256) = D at *
  generalize C.getD n 0 = x at *
  have hg34 : g4 ≠ g3 := by omega
  have hg4w : w.heap.size ≤ g4 := by have := v4.size; omega
  have n1 : (0 : Int) ≤ n := by omega
  have n2 : (n : Int) < m := by omega
  have HDn := Lib.hid hDn
  have HDl := Lib.hid hDl
  have HCl := Lib.hid hCl
  clear hDn hDl hCl
  go_upto_region 7 with (go_at_call 12; refine (hbr _).mono ?_; rintro e w5 ⟨rfl, rfl⟩)
  have sE := (Upd.refl [g4] w4).setCell (p := ⟨g4, n, none⟩) (Or.inl (by simp)) (.int .u8 ((x + by') % 256))
  have v5 := v4.setCell (p := ⟨g4, n, none⟩) (Or.inr hg4w) (.int .u8 ((x + by') % 256))
  have aC : ByAt (w4.setCell ⟨g4, n, none⟩ (.int .u8 ((x + by') % 256))) (some ⟨g3, 0, none⟩) C := hC4.at_.upd sE (fun b o e => by cases e; simpa using hg34.symm)
  have ax := hx.upd_nil v5
  have aD := hD3'.at_
  clear hD3' sE hx4 hC4 v4 hD1 hD2
  generalize w4.setCell ⟨g4, n, none⟩ (.int .u8 ((x + by') % 256)) = W5 at *
  have ecd : decide (C = D) = (by' == 0) := by
    by_cases h : by' = 0
    · rw [h, decide_eq_true ((HDn.out.2 h).symm)]; rfl
    · rw [decide_eq_false (fun e => h (HDn.out.1 e.symm))]; simp; omega
  have edc : decide (D = C) = (by' == 0) := by
    rw [← ecd]
    exact decide_eq_decide.2 ⟨fun h => h.symm, fun h => h.symm⟩
  have hcc : ∀ W, Upd [] W5 W → Calls Tryd.prog 14 #[.slice (some ⟨g3, 0, none⟩) m c3, .slice (some ⟨g3, 0, none⟩) m c3] W fun e w' => e = .returned (.bool true) ∧ Upd [] W w' := fun W u => by
    have := same_walk W _ C c3 _ C c3 (aC.upd_nil u) hCr (aC.upd_nil u) hCr (by rw [HCl.out]; omega) (by rw [HCl.out]; omega)
    rw [HCl.out, decide_eq_true rfl] at this
    exact this
  have hcd : ∀ W, Upd [] W5 W → Calls Tryd.prog 14 #[.slice (some ⟨g3, 0, none⟩) m c3, .slice (some ⟨g4, 0, none⟩) m c4] W fun e w' => e = .returned (.bool (by' == 0)) ∧ Upd [] W w' := fun W u => by
    have := same_walk W _ C c3 _ D c4 (aC.upd_nil u) hCr (aD.upd_nil u) hDD (by rw [HCl.out]; omega) (by rw [HDl.out]; omega)
    rw [HCl.out, HDl.out, ecd] at this
    exact this
  have hdc : ∀ W, Upd [] W5 W → Calls Tryd.prog 14 #[.slice (some ⟨g4, 0, none⟩) m c4, .slice (some ⟨g3, 0, none⟩) m c3] W fun e w' => e = .returned (.bool (by' == 0)) ∧ Upd [] W w' := fun W u => by
    have := same_walk W _ D c4 _ C c3 (aD.upd_nil u) hDD (aC.upd_nil u) hCr (by rw [HDl.out]; omega) (by rw [HCl.out]; omega)
    rw [HCl.out, HDl.out, edc] at this
    exact this
  have hxc : ∀ W, Upd [] W5 W → Calls Tryd.prog 14 #[.slice p xs.length c, .slice (some ⟨g3, 0, none⟩) m c3] W fun e w' => e = .returned (.bool false) ∧ Upd [] W w' := fun W u => by
    have := same_walk W _ xs c _ C c3 (ax.upd_nil u) hr (aC.upd_nil u) hCr (by omega) (by rw [HCl.out]; omega)
    rw [HCl.out, H1.out] at this
    exact this
  have hcx : ∀ W, Upd [] W5 W → Calls Tryd.prog 14 #[.slice (some ⟨g3, 0, none⟩) m c3, .slice p xs.length c] W fun e w' => e = .returned (.bool false) ∧ Upd [] W w' := fun W u => by
    have := same_walk W _ C c3 _ xs c (aC.upd_nil u) hCr (ax.upd_nil u) hr (by rw [HCl.out]; omega) (by omega)
    rw [HCl.out, H2.out] at this
    exact this
  clear ecd edc aC aD ax hm'
  generalize xs.length = l at *
  clear hbr
  go_wp2_with (first
    | (go_at_call 14; refine (hcx _ r4).mono ?_; rintro e w10 ⟨rfl, q5⟩; have r5 := r4.trans_nil q5)
    | (go_at_call 14; refine (hxc _ r3).mono ?_; rintro e w9 ⟨rfl, q4⟩; have r4 := r3.trans_nil q4)
    | (go_at_call 14; refine (hdc _ r2).mono ?_; rintro e w8 ⟨rfl, q3⟩; have r3 := r2.trans_nil q3)
    | (go_at_call 14; refine (hcd _ r1).mono ?_; rintro e w7 ⟨rfl, q2⟩; have r2 := r1.trans_nil q2)
    | (go_at_call 14; refine (hcc _ (Upd.refl [] _)).mono ?_; rintro e w6 ⟨rfl, r1⟩))
  go_ret
  exact ⟨rfl, v5.trans_nil r5⟩

end Go.Proofs.YtclfmgkomkmbjaaDoor
