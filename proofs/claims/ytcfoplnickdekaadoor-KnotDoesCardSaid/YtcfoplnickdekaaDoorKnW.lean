/- KnotDoes: the walk. -/
import Derived.Test.YtcfoplnickdekaaDoorHxC
import Derived.Test.YtcfoplnickdekaaDoorKnV
import Derived.Test.YtcfoplnickdekaaDoorKnG
import Derived.Test.YtcfoplnickdekaaDoorReh
import Derived.Test.YtcfoplnickdekaaDoorRfH
import Derived.Test.YtcfoplnickdekaaDoorKnP
namespace Go.Proofs.YtcfoplnickdekaaDoor
open Go.RowKit

theorem BRows.headN {w : World} {B : Nat} {q : Option Addr} {len : Nat} (h : BRows w B q len) (N : Nat) (i : Nat) (hi : i < len) : ∃ (b off : Nat) (dp : Option Addr) (xs : List Int) (dc mn : Nat), q = some ⟨b, off, none⟩ ∧ b < B ∧ w.cell? ⟨b, off + i, none⟩ = some (.slice dp xs.length dc) ∧ Rng (xs.take N) ∧ ByAt w dp (xs.take N) ∧ xs.length ≤ 9223372036854775807 ∧ xs.length ≤ dc ∧ Hid (min (xs.length : Int) N = (mn : Nat)) ∧ Hid (mn = (xs.take N).length) ∧ mn ≤ N ∧ mn ≤ dc := by
  obtain ⟨b, off, dp, xs, dc, h1, h2, h3, h4, h5, h6, h7⟩ := h i hi
  refine ⟨b, off, dp, xs, dc, (xs.take N).length, h1, h2, h3, h4.take N, h5.take N, Nat.le_trans h6 (by decide), h7, Lib.hid ?_, Lib.hid rfl, ?_, ?_⟩ <;> rw [List.length_take] <;> omega

set_option maxRecDepth 100000 in
set_option maxHeartbeats 8000000 in
theorem does_walk (w : World) (q : Option Addr) (ln cap : Nat) (hq : BRows w w.heap.size q ln) (hln : ln ≤ 9223372036854775807)
    (hdb : w.cell? ⟨3, 15, none⟩ = some (.int .u8 4)) :
    Calls Tryd.prog 4 #[.slice q ln cap] w fun e w' => e = .returned (.bool true) ∧ Upd [] w w' := by
  have hdl : 3 < w.heap.size := lt_of_cell hdb
  go_enter Tryd.func4, Tryd.ntmps4
  go_upto_region 2 with (go_at_call 8; refine (new_walk _).mono ?_; rintro e w1 ⟨kb, rfl, hkb, t1, hK1⟩)
  have z1 := (hK1 0).lt
  have hP : OneK w1 w1.heap.size kb (fun _ => True) (.slice none 0 0) [] [] :=
    ⟨Nat.le_refl _, z1, OwnB.nil _ _, (hK1 w1.heap.size).on (fun b hb => ⟨hb, nofun, trivial⟩)⟩
  have hbase : w.heap.size ≤ w1.heap.size := t1.size
  generalize w1.heap.size = base at hP hbase z1
  clear hK1
  go_wp2_with fail
  go_loopw [4, 5] (fun av iv wr => ∃ (ni c1 : Nat) (p1 : Option Addr) (la : List Int), ni ≤ 10 ∧ la.length ≤ 300 * ni ∧ av = .slice p1 la.length c1 ∧ iv = .int .i64 ni ∧ Rng la ∧ Upd [] w wr ∧ OneK wr base kb (fun _ => True) (.slice p1 la.length c1) la la) (fun _ iv _ => 10 - (intOf iv).toNat)
  case atStart => exact ⟨0, 0, none, [], by omega, by simp, rfl, rfl, Rng.nil, t1, hP⟩
  case round =>
    clear hP t1
    obtain ⟨ni, c1, p1, la, hi, hla, rfl, rfl, hra, hu, hP⟩ := hrel
    obtain ⟨wo, rfl⟩ : ∃ wo, wo = wr := ⟨_, rfl⟩
    by_cases hgo : ni < ln ∧ ni < 10
    · obtain ⟨hgo1, hgo2⟩ := hgo
      obtain ⟨na, hna⟩ : ∃ na, la.length = na := ⟨_, rfl⟩
      rw [hna] at hP hla ⊢
      have Hna := Lib.hid hna
      clear hna
      obtain ⟨qb, qo, dp, xs, dc, mn, rfl, hqb, hqc, hxr, hxw, hx63, hxd, Hmn, Hml, hm2, hmd⟩ := hq.headN 300 ni hgo1
      have hqb2 : qb < wo.heap.size := Nat.lt_of_lt_of_le hqb hu.size
      have hqc2 : wo.cell? ⟨qb, qo + ni, none⟩ = some (.slice dp xs.length dc) := (hu.cell (a := ⟨qb, qo + ni, none⟩) hqb (by simp)).trans hqc
      clear hqc
      have Hmn : Hid (min (xs.length : Int) 300 = (mn : Int)) := Hmn
      go_upto_region 6 with fail
      refine wp_region_head 11 [(.eq (.slice (some ⟨qb, qo, none⟩) ln cap)), (.eq (.int .i64 (ni : Int))), (.eq (.pointer (some ⟨qb, qo + ni, none⟩))), (.eq (.slice dp xs.length dc)), (.eq (.slice (some ⟨qb, qo, none⟩) ln cap)), (.eq (.int .i64 (ni : Int))), (.eq (.pointer (some ⟨qb, qo + ni, none⟩))), (.eq (.slice dp xs.length dc)), (.eq (.int .i64 (xs.length : Int))), (.eq (.int .i64 (mn : Int))), (.eq (.slice dp mn dc))] [] (by kernel_rfl) (by kernel_rfl) (by kernel_rfl) rfl ?ne ?pre ?step ?fin
      case ne => intro x hx; cases hx
      case pre => intro x hx; cases hx
      case step =>
        intro i o him ho a w' hS hold hneed hun K' hK
        match i, him, ho with
        | 0, _, ho =>
          obtain rfl := Option.some.inj ho
          replace hneed := fun j hj => (hneed j hj).2
          replace hK := fun v w1 h u => hK v w1 h trivial u
          clear hun
          have d0 := hold 0 _ (by kernel_rfl) rfl
          clear hold hneed ho
          (go_simp; exact hK _ _ rfl (Upd.refl [] _))
        | 1, _, ho =>
          obtain rfl := Option.some.inj ho
          replace hneed := fun j hj => (hneed j hj).2
          replace hK := fun v w1 h u => hK v w1 h trivial u
          clear hun
          have d5 := hold 5 _ (by kernel_rfl) rfl
          clear hold hneed ho
          (go_simp; exact hK _ _ rfl (Upd.refl [] _))
        | 2, _, ho =>
          obtain rfl := Option.some.inj ho
          replace hneed := fun j hj => (hneed j hj).2
          replace hK := fun v w1 h u => hK v w1 h trivial u
          clear hun
          have d20 := get_of_at (hneed 0 (of_decide_eq_true (by kernel_rfl)) 20 rfl) (by simp [undef])
          have d21 := get_of_at (hneed 1 (of_decide_eq_true (by kernel_rfl)) 21 rfl) (by simp [undef])
          clear hold hneed ho
          (go_simp; exact hK _ _ rfl (Upd.refl [] _))
        | 3, _, ho =>
          obtain rfl := Option.some.inj ho
          replace hneed := fun j hj => (hneed j hj).2
          replace hK := fun v w1 h u => hK v w1 h trivial u
          clear hun
          have d22 := get_of_at (hneed 2 (of_decide_eq_true (by kernel_rfl)) 22 rfl) (by simp [undef])
          clear hold hneed ho
          (have p0 := (hS.cell (a := ⟨qb, qo + ni, none⟩) hqb2 (by simp)).trans hqc2; go_simp; exact hK _ _ rfl (Upd.refl [] _))
        | 4, _, ho =>
          obtain rfl := Option.some.inj ho
          replace hneed := fun j hj => (hneed j hj).2
          replace hK := fun v w1 h u => hK v w1 h trivial u
          clear hun
          have d0 := hold 0 _ (by kernel_rfl) rfl
          clear hold hneed ho
          (go_simp; exact hK _ _ rfl (Upd.refl [] _))
        | 5, _, ho =>
          obtain rfl := Option.some.inj ho
          replace hneed := fun j hj => (hneed j hj).2
          replace hK := fun v w1 h u => hK v w1 h trivial u
          clear hun
          have d5 := hold 5 _ (by kernel_rfl) rfl
          clear hold hneed ho
          (go_simp; exact hK _ _ rfl (Upd.refl [] _))
        | 6, _, ho =>
          obtain rfl := Option.some.inj ho
          replace hneed := fun j hj => (hneed j hj).2
          replace hK := fun v w1 h u => hK v w1 h trivial u
          clear hun
          have d24 := get_of_at (hneed 4 (of_decide_eq_true (by kernel_rfl)) 24 rfl) (by simp [undef])
          have d25 := get_of_at (hneed 5 (of_decide_eq_true (by kernel_rfl)) 25 rfl) (by simp [undef])
          clear hold hneed ho
          (go_simp; exact hK _ _ rfl (Upd.refl [] _))
        | 7, _, ho =>
          obtain rfl := Option.some.inj ho
          replace hneed := fun j hj => (hneed j hj).2
          replace hK := fun v w1 h u => hK v w1 h trivial u
          clear hun
          have d26 := get_of_at (hneed 6 (of_decide_eq_true (by kernel_rfl)) 26 rfl) (by simp [undef])
          clear hold hneed ho
          (have p0 := (hS.cell (a := ⟨qb, qo + ni, none⟩) hqb2 (by simp)).trans hqc2; go_simp; exact hK _ _ rfl (Upd.refl [] _))
        | 8, _, ho =>
          obtain rfl := Option.some.inj ho
          replace hneed := fun j hj => (hneed j hj).2
          replace hK := fun v w1 h u => hK v w1 h trivial u
          clear hun
          have d27 := get_of_at (hneed 7 (of_decide_eq_true (by kernel_rfl)) 27 rfl) (by simp [undef])
          clear hold hneed ho
          (go_simp; exact hK _ _ rfl (Upd.refl [] _))
        | 9, _, ho =>
          obtain rfl := Option.some.inj ho
          replace hneed := fun j hj => (hneed j hj).2
          replace hK := fun v w1 h u => hK v w1 h trivial u
          clear hun
          have d28 := get_of_at (hneed 8 (of_decide_eq_true (by kernel_rfl)) 28 rfl) (by simp [undef])
          clear hold hneed ho
          (go_simp; rw [Hmn.out]; exact hK _ _ rfl (Upd.refl [] _))
        | 10, _, ho =>
          obtain rfl := Option.some.inj ho
          replace hneed := fun j hj => (hneed j hj).2
          replace hK := fun v w1 h u => hK v w1 h trivial u
          clear hun
          have d23 := get_of_at (hneed 3 (of_decide_eq_true (by kernel_rfl)) 23 rfl) (by simp [undef])
          have d29 := get_of_at (hneed 9 (of_decide_eq_true (by kernel_rfl)) 29 rfl) (by simp [undef])
          clear hold hneed ho
          (go_simp; exact hK _ _ rfl (Upd.refl [] _))
        | _ + 11, him, _ => exact absurd him (by omega)
      case fin =>
        intro a w' hS hsz hdf hold hvals hposts hap
        have ha := act_lit hsz hdf (RowIs.cons (at_of_get (hold 0 _ (by kernel_rfl) rfl)) (RowIs.cons (at_of_get (hold 1 _ (by kernel_rfl) rfl)) (RowIs.cons (at_of_get (hold 2 _ (by kernel_rfl) rfl)) (RowIs.cons (at_of_get (hold 3 _ (by kernel_rfl) rfl)) (RowIs.cons (at_of_get (hold 4 _ (by kernel_rfl) rfl)) (RowIs.cons (at_of_get (hold 5 _ (by kernel_rfl) rfl)) (RowIs.cons (at_of_get (hold 6 _ (by kernel_rfl) rfl)) (RowIs.cons (at_of_get (hold 7 _ (by kernel_rfl) rfl)) (RowIs.cons (at_of_get (hold 8 _ (by kernel_rfl) rfl)) (RowIs.cons (at_of_get (hold 9 _ (by kernel_rfl) rfl)) (RowIs.cons (at_of_get (hold 10 _ (by kernel_rfl) rfl)) (RowIs.cons (at_of_get (hold 11 _ (by kernel_rfl) rfl)) (RowIs.cons (at_of_get (hold 12 _ (by kernel_rfl) rfl)) (RowIs.cons (at_of_get (hold 13 _ (by kernel_rfl) rfl)) (RowIs.cons (at_of_get (hold 14 _ (by kernel_rfl) rfl)) (RowIs.cons (at_of_get (hold 15 _ (by kernel_rfl) rfl)) (RowIs.cons (at_of_get (hold 16 _ (by kernel_rfl) rfl)) (RowIs.cons (at_of_get (hold 17 _ (by kernel_rfl) rfl)) (RowIs.cons (at_of_get (hold 18 _ (by kernel_rfl) rfl)) (RowIs.cons (at_of_get (hold 19 _ (by kernel_rfl) rfl)) (RowIs.cons (hvals 0 20 (of_decide_eq_true (by kernel_rfl)) rfl) (RowIs.cons (hvals 1 21 (of_decide_eq_true (by kernel_rfl)) rfl) (RowIs.cons (hvals 2 22 (of_decide_eq_true (by kernel_rfl)) rfl) (RowIs.cons (hvals 3 23 (of_decide_eq_true (by kernel_rfl)) rfl) (RowIs.cons (hvals 4 24 (of_decide_eq_true (by kernel_rfl)) rfl) (RowIs.cons (hvals 5 25 (of_decide_eq_true (by kernel_rfl)) rfl) (RowIs.cons (hvals 6 26 (of_decide_eq_true (by kernel_rfl)) rfl) (RowIs.cons (hvals 7 27 (of_decide_eq_true (by kernel_rfl)) rfl) (RowIs.cons (hvals 8 28 (of_decide_eq_true (by kernel_rfl)) rfl) (RowIs.cons (hvals 9 29 (of_decide_eq_true (by kernel_rfl)) rfl) (RowIs.cons (hvals 10 30 (of_decide_eq_true (by kernel_rfl)) rfl) (RowIs.cons (at_of_get (hold 31 _ (by kernel_rfl) rfl)) (RowIs.cons (at_of_get (hold 32 _ (by kernel_rfl) rfl)) (RowIs.cons (at_of_get (hold 33 _ (by kernel_rfl) rfl)) (RowIs.cons (at_of_get (hold 34 _ (by kernel_rfl) rfl)) (RowIs.cons (at_of_get (hold 35 _ (by kernel_rfl) rfl)) (RowIs.cons (at_of_get (hold 36 _ (by kernel_rfl) rfl)) (RowIs.cons (at_of_get (hold 37 _ (by kernel_rfl) rfl)) (RowIs.cons (at_of_get (hold 38 _ (by kernel_rfl) rfl)) (RowIs.cons (at_of_get (hold 39 _ (by kernel_rfl) rfl)) (RowIs.cons (at_of_get (hold 40 _ (by kernel_rfl) rfl)) (RowIs.cons (at_of_get (hold 41 _ (by kernel_rfl) rfl)) (RowIs.cons (at_of_get (hold 42 _ (by kernel_rfl) rfl)) (RowIs.cons (at_of_get (hold 43 _ (by kernel_rfl) rfl)) (RowIs.cons (at_of_get (hold 44 _ (by kernel_rfl) rfl)) (RowIs.cons (at_of_get (hold 45 _ (by kernel_rfl) rfl)) (RowIs.cons (at_of_get (hold 46 _ (by kernel_rfl) rfl)) (RowIs.cons (at_of_get (hold 47 _ (by kernel_rfl) rfl)) (RowIs.cons (at_of_get (hold 48 _ (by kernel_rfl) rfl)) (RowIs.cons (at_of_get (hold 49 _ (by kernel_rfl) rfl)) (RowIs.cons (at_of_get (hold 50 _ (by kernel_rfl) rfl)) (RowIs.cons (at_of_get (hold 51 _ (by kernel_rfl) rfl)) (RowIs.cons (at_of_get (hold 52 _ (by kernel_rfl) rfl)) (RowIs.cons (at_of_get (hold 53 _ (by kernel_rfl) rfl)) (RowIs.cons (at_of_get (hold 54 _ (by kernel_rfl) rfl)) (RowIs.cons (at_of_get (hold 55 _ (by kernel_rfl) rfl)) (RowIs.cons (at_of_get (hold 56 _ (by kernel_rfl) rfl)) (RowIs.cons (at_of_get (hold 57 _ (by kernel_rfl) rfl)) (RowIs.cons (at_of_get (hold 58 _ (by kernel_rfl) rfl)) (RowIs.cons (at_of_get (hold 59 _ (by kernel_rfl) rfl)) (RowIs.cons (at_of_get (hold 60 _ (by kernel_rfl) rfl)) (RowIs.cons (at_of_get (hold 61 _ (by kernel_rfl) rfl)) (RowIs.cons (at_of_get (hold 62 _ (by kernel_rfl) rfl)) (RowIs.cons (at_of_get (hold 63 _ (by kernel_rfl) rfl)) (RowIs.cons (at_of_get (hold 64 _ (by kernel_rfl) rfl)) (RowIs.cons (at_of_get (hold 65 _ (by kernel_rfl) rfl)) (RowIs.cons (at_of_get (hold 66 _ (by kernel_rfl) rfl)) (RowIs.cons (at_of_get (hold 67 _ (by kernel_rfl) rfl)) (RowIs.cons (at_of_get (hold 68 _ (by kernel_rfl) rfl)) (RowIs.cons (at_of_get (hold 69 _ (by kernel_rfl) rfl)) (RowIs.cons (at_of_get (hold 70 _ (by kernel_rfl) rfl)) (RowIs.cons (at_of_get (hold 71 _ (by kernel_rfl) rfl)) (RowIs.cons (at_of_get (hold 72 _ (by kernel_rfl) rfl)) (RowIs.cons (at_of_get (hold 73 _ (by kernel_rfl) rfl)) (RowIs.cons (at_of_get (hold 74 _ (by kernel_rfl) rfl)) (RowIs.cons (at_of_get (hold 75 _ (by kernel_rfl) rfl)) (RowIs.cons (at_of_get (hold 76 _ (by kernel_rfl) rfl)) (RowIs.cons (at_of_get (hold 77 _ (by kernel_rfl) rfl)) (RowIs.cons (at_of_get (hold 78 _ (by kernel_rfl) rfl)) (RowIs.nil _ _)))))))))))))))))))))))))))))))))))))))))))))))))))))))))))))))))))))))))))))))) rfl
        clear hsz hdf hold hvals hposts hap
        subst ha
        simp only [List.getElem_toArray, List.getElem_cons_succ, List.getElem_cons_zero, List.drop_succ_cons, List.drop_zero]
        obtain ⟨w2, rfl⟩ : ∃ w2, w2 = w' := ⟨_, rfl⟩
        have v2 := hu.trans_nil hS
        have P2 := hP.upd_nil hS
        have hcp := copy_walk w2 dp (xs.take 300) dc (hxw.upd_nil v2) (by rw [← Hml.out]; omega)
        rw [← Hml.out] at hcp
        clear hS hqc2 hqb2 hu hP
        go_upto_region 7 with (go_at_call 12; refine hcp.mono ?_; rintro e w3 ⟨p2, c2, rfl, o3, u3⟩)
        have P3 := P2.upd_nil u3
        have v3 := v2.trans_nil u3
        have hgb2 : ∀ g, p2 = some ⟨g, 0, none⟩ → w2.heap.size ≤ g := fun g e => by subst e; exact o3.ge.1
        have o3 := o3.mono P2.bs
        obtain ⟨ys, hys⟩ : ∃ ys, xs.take 300 = ys := ⟨_, rfl⟩
        rw [hys] at o3 hxr Hml
        have hgb : ∀ g, p2 = some ⟨g, 0, none⟩ → base ≤ g ∧ g < w3.heap.size ∧ (Value.slice p1 na c1).ownBlock ≠ some g := fun g e => by
          subst e
          have h1 := o3.ge
          refine ⟨h1.1, h1.2, fun e2 => ?_⟩
          have h3 := P2.a.lt g e2
          have h4 := hgb2 g rfl
          omega
        have hadd := add_walk P3.x.at_ p2 ys c2 o3.at_ hxr (by rw [Hna.out, ← Hml.out]; omega)
        rw [← Hml.out] at hadd
        clear hcp P2 v2 u3 hgb2 hys hxw
        go_upto_region 8 with (go_at_call 9; refine hadd.mono ?_; rintro e w4 ⟨rfl, u4, hK4⟩)
        have P4 := P3.add u4 hK4 (Y := fun b => w3.heap.size ≤ b) (fun b hb => hb)
        have v4 := v3.trans_nil' u4 (by have := P3.l1; simp; omega)
        have o4 : OwnB w4 base (.slice p2 mn c2) ys := o3.of_heap (fun g e => u4.block g (by have := o3.lt g e; exact this.2) (by have := (o3.lt g e).1; have := P3.l1; simp; omega))
        have z34 := u4.size
        clear hadd u4 hK4 P3 v3 o3
        go_upto_region 9 with (at_builtin; refine app_bytes3 rfl _ _ rfl base (.slice p1 na c1) la na Hna.out rfl P4.a p2 mn c2 ys rfl Hml.out o4.at_ (by omega) P4.bs ?_; rintro p5 c5 w5 ho5 hg5 hn5)
        have P5 := P4.app ho5 hg5 hn5
        have v5 : Upd [] w w5 := v4.grown hg5 (fun k hk => .inr (Nat.le_trans hbase (P4.a.lt k hk).1))
        have hgb5 : ∀ g, p2 = some ⟨g, 0, none⟩ → base ≤ g ∧ g < w3.heap.size ∧ (Value.slice p5 (na + mn) c5).ownBlock ≠ some g := fun g e => by
          obtain ⟨h1, h2, h3⟩ := hgb g e
          refine ⟨h1, h2, fun e2 => ?_⟩
          rcases hn5 g e2 with h | h
          · exact h3 h
          · omega
        have o5 : OwnB w5 base (.slice p2 mn c2) ys := o4.of_heap (fun g e => hg5.block g (by have := o4.lt g e; exact this.2) (fun e2 => by
          obtain ⟨p', c', e3, _, hgx⟩ := o4.form
          cases e3
          by_cases h0 : ys = []
          · rcases o4.2 with ⟨k1, _⟩ | ⟨g', cap', cur, k1, _⟩
            · rw [k1] at e; cases e
            · rw [k1] at e
              obtain rfl : g' = g := by simpa [Value.ownBlock] using e
              exact (hgb g' (by injection k1)).2.2 e2.symm
          · obtain ⟨g', e4, _⟩ := hgx h0
            subst e4
            obtain rfl : g' = g := by simpa [Value.ownBlock] using e
            exact (hgb g' rfl).2.2 e2.symm))
        have hrl : Rng (la ++ ys) := hra.app hxr
        obtain ⟨nl, hnl⟩ : ∃ nl, na + mn = nl := ⟨_, rfl⟩
        have Hnl : Hid ((la ++ ys).length = nl) := Lib.hid (by rw [List.length_append, Hna.out, ← Hml.out]; exact hnl)
        have hll : nl ≤ 300 * ni + 300 := by omega
        rw [hnl] at P5 hgb5 ⊢
        have hyl : ys.length = mn := Hml.out.symm
        clear ho5 hg5 hn5 hgb P4 v4 o4 hnl hra Hna
        generalize la ++ ys = L at *
        go_wp2_with fail
        go_loopw [7] (fun iv wr => ∃ (ki : Nat) (zs : List Int), ki ≤ mn ∧ iv = .int .i64 ki ∧ zs.length = mn ∧ Rng zs ∧ OwnB wr base (.slice p2 mn c2) zs ∧ OneK wr base kb (fun b => w3.heap.size ≤ b) (.slice p5 nl c5) L L ∧ Upd [] w wr) (fun iv _ => mn - (intOf iv).toNat)
        case atStart => exact ⟨0, ys, by omega, rfl, hyl, hxr, o5, P5, v5⟩
        case round =>
          clear P5 v5 o5 hyl hxr
          obtain ⟨ki, zs, hki, rfl, hzl, hzr, o6, P6, v6⟩ := hrel
          obtain ⟨wp, rfl⟩ : ∃ wp, wp = wr := ⟨_, rfl⟩
          by_cases hlt : ki < mn
          · obtain ⟨g, rfl, hg1, hg2, _, q0, q1, qs⟩ := o6.spot ki (by omega)
            obtain ⟨hgb1, hgb2, hgb3⟩ := hgb5 g rfl
            have hz := hzr.getD ki
            have g1 : (0 : Int) ≤ ki := by omega
            have g2 : (ki : Int) < mn := by omega
            have qs2 := qs ((zs.getD ki 0 + 1) % 256)
            have P7 := P6.turn hgb1 hgb3 (fun b hb => by omega) o6 (i := ki) (.int .u8 ((zs.getD ki 0 + 1) % 256))
            have v7 := v6.setCell (p := ⟨g, ki, none⟩) (Or.inr (Nat.le_trans hbase hgb1)) (.int .u8 ((zs.getD ki 0 + 1) % 256))
            have hzr2 : Rng (zs.set ki ((zs.getD ki 0 + 1) % 256)) := fun x hx => by
              rcases List.mem_or_eq_of_mem_set hx with h | h
              · exact hzr x h
              · omega
            have QS := Lib.hid qs2
            have PS := Lib.hid P7
            have VS := Lib.hid v7
            clear qs qs2 P7 v7 o6 P6 v6
            have ZL : Hid ((zs.set ki ((zs.getD ki 0 + 1) % 256)).length = mn) := Lib.hid (by rw [List.length_set]; exact hzl)
            generalize zs.set ki ((zs.getD ki 0 + 1) % 256) = zs2 at *
            generalize zs.getD ki 0 = x at *
            clear hzl hzr
            go_wp2_with fail
            exact ⟨⟨ki + 1, zs2, by omega, by go_num, ZL.out, hzr2, QS.out, PS.out, VS.out⟩, by simp [intOf]; omega⟩
          · obtain rfl : ki = mn := by omega
            have P6' := P6.weak (Y := fun _ => True) (fun _ _ => trivial)
            have htie : ∀ W, Upd [] wp W → Calls Tryd.prog 10 #[.pointer (some ⟨kb, 0, none⟩)] W fun e w' => e = .returned (.agg (row32 (sha L)).toArray) ∧ Upd [] W w' := fun W u => tie_end (P6.x.at_.upd_nil u) (by rw [Hnl.out]; omega)
            have hof : ∀ W, Upd [] wp W → Calls Tryd.prog 13 #[.slice p5 nl c5] W fun e w' => e = .returned (.agg (row32 (sha L)).toArray) ∧ Upd [] W w' := fun W u => by
              have := rof W p5 L c5 (P6.a.at_.upd_nil u) hrl (by rw [Hnl.out]; omega)
              rw [Hnl.out] at this
              exact this
            have hlen : ∀ W, Upd [] wp W → Calls Tryd.prog 14 #[.pointer (some ⟨kb, 0, none⟩)] W fun e w' => e = .returned (.int .i64 (nl : Int)) ∧ Upd [] W w' := fun W u => by
              have := len_walk (P6.x.at_.upd_nil u)
              rw [Hnl.out] at this
              exact this.mono fun e w' ⟨h1, h2⟩ => ⟨h1, h2 ▸ Upd.refl [] _⟩
            have heq := fun w : World => eq_same w (sha L)
            generalize sha L = F at htie hof heq
            clear o6 P6 hgb5 hzl hzr
            go_wp2_with (first
              | (go_at_call 14; refine (hlen _ r2).mono ?_; rintro e w9 ⟨rfl, r3⟩; have r4 := r2.trans_nil r3)
              | (go_at_call 13; have tok := r1; refine (hof _ r1).mono ?_; rintro e w8 ⟨rfl, s1⟩; have r2 := r1.trans_nil s1)
              | (go_at_call 10; refine (htie _ (Upd.refl [] _)).mono ?_; rintro e w7 ⟨rfl, r1⟩))
            have P9 := P6'.upd_nil r4
            have v9 := v6.trans_nil r4
            have hnl := Hnl.out
            subst hnl
            exact ⟨⟨ni + 1, c5, p5, L, by omega, by omega, rfl, by go_num, hrl, v9, P9⟩, by simp [intOf]; omega⟩
    · have hcp := copy_walk wo p1 la c1 hP.a.at_ (by omega)
      have hdb2 : ∀ W, Upd [] w W → W.cell? ⟨3, 15, none⟩ = some (.int .u8 4) := fun W u => (u.cell hdl (by simp)).trans hdb
      rcases Nat.lt_or_ge ni ln with h1 | h1
      all_goals (
        have h2 : ni < ln → 10 ≤ ni := fun h => by omega
        try have h3 := h2 h1
        clear h2 hgo
        go_upto_region 16 with (go_at_call 12; refine hcp.mono ?_; rintro e w2 ⟨p2, c2, rfl, o2, u2⟩)
        have v2 := hu.trans_nil u2
        have hka : ∀ W, Upd [] w2 W → Calls Tryd.prog 11 #[.slice p2 la.length c2] W fun e w' => e = .returned (.agg (row32 (sha la)).toArray) ∧ Upd [] W w' := fun W u => of_walk W p2 la c2 (o2.at_.upd_nil u) hra (by omega)
        have hra2 : ∀ W, Upd [] w2 W → Calls Tryd.prog 13 #[.slice p1 la.length c1] W fun e w' => e = .returned (.agg (row32 (sha la)).toArray) ∧ Upd [] W w' := fun W u => rof W p1 la c1 ((hP.a.at_.upd_nil u2).upd_nil u) hra (by omega)
        have heq := fun w : World => eq_same w (sha la)
        have heb : ∀ W, Upd [] w2 W → Calls Tryd.prog 15 #[.slice p2 la.length c2, .slice p1 la.length c1] W fun e w' => e = .returned (.bool true) ∧ Upd [] W w' := fun W u => eqb_walk W p2 la c2 p1 c1 (o2.at_.upd_nil u) ((hP.a.at_.upd_nil u2).upd_nil u) hra (by omega)
        generalize sha la = F at hka hra2 heq
        clear hcp hP o2 u2
        generalize la.length = na at *
        go_wp2_with (first
          | (go_at_call 7; refine (works_walk _ h7).mono ?_; rintro e w6 ⟨rfl, s6⟩; have r6 := r5.trans_nil s6)
          | (go_at_call 15; refine (heb _ r4).mono ?_; rintro e w5 ⟨rfl, s5⟩; have r5 := r4.trans_nil s5; have h7 := hdb2 _ (v2.trans_nil r5))
          | (go_at_call 13; refine (hra2 _ r3).mono ?_; rintro e w4 ⟨rfl, s4⟩; have r4 := r3.trans_nil s4)
          | (go_at_call 11; refine (hka _ (Upd.refl [] _)).mono ?_; rintro e w3 ⟨rfl, r3⟩))
        go_ret
        exact ⟨rfl, v2.trans_nil r6⟩)

end Go.Proofs.YtcfoplnickdekaaDoor
