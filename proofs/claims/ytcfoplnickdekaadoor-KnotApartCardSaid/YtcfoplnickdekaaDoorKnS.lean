/- KnotApart: the walk. (written by mkkns.py) -/
import Derived.Test.YtcfoplnickdekaaDoorHxC
import Derived.Test.YtcfoplnickdekaaDoorKnR
import Derived.Test.YtcfoplnickdekaaDoorKnG
import Derived.Test.YtcfoplnickdekaaDoorRew
namespace Go.Proofs.YtcfoplnickdekaaDoor
open Go.RowKit

theorem BRows.head {w : World} {B : Nat} {q : Option Addr} {len : Nat} (h : BRows w B q len) (i : Nat) (hi : i < len) : ∃ (b off : Nat) (dp : Option Addr) (xs : List Int) (dc mn : Nat), q = some ⟨b, off, none⟩ ∧ b < B ∧ w.cell? ⟨b, off + i, none⟩ = some (.slice dp xs.length dc) ∧ Rng (xs.take 200) ∧ ByAt w dp (xs.take 200) ∧ xs.length ≤ 9223372036854775807 ∧ xs.length ≤ dc ∧ Hid (min (xs.length : Int) 200 = (mn : Nat)) ∧ Hid (mn = (xs.take 200).length) ∧ mn ≤ 200 ∧ mn ≤ dc := by
  obtain ⟨b, off, dp, xs, dc, h1, h2, h3, h4, h5, h6, h7⟩ := h i hi
  refine ⟨b, off, dp, xs, dc, (xs.take 200).length, h1, h2, h3, h4.take 200, h5.take 200, Nat.le_trans h6 (by decide), h7, Lib.hid ?_, Lib.hid rfl, ?_, ?_⟩ <;> rw [List.length_take] <;> omega

set_option maxRecDepth 100000 in
set_option maxHeartbeats 8000000 in
theorem apart_walk (w : World) (q : Option Addr) (ln cap : Nat) (hq : BRows w w.heap.size q ln) (hln : ln ≤ 9223372036854775807) (q2 : Option Addr) (ln2 cap2 : Nat) (hq2 : BRows w w.heap.size q2 ln2) (hln2 : ln2 ≤ 9223372036854775807)
    (hdb : w.cell? ⟨3, 15, none⟩ = some (.int .u8 4)) :
    Calls Tryd.prog 3 #[.slice q ln cap, .slice q2 ln2 cap2] w fun e w' => e = .returned (.bool true) ∧ Upd [] w w' := by
  go_enter Tryd.func3, Tryd.ntmps3
  go_upto_region 4 with (first
    | (go_at_call 7; refine (works_walk _ hdb).mono ?_; rintro e w1 ⟨rfl, u1⟩)
    | (go_at_call 8; first
      | (refine (new_walk _).mono ?_; rintro e w2 ⟨k1, rfl, hk1, u2, hK1⟩; have z1 := (hK1 0).lt; have t2 := u1.trans_nil u2)
      | (refine (new_walk _).mono ?_; rintro e w3 ⟨k2, rfl, hk2, u3, hK2⟩; have z2 := (hK2 0).lt; have t3 := t2.trans_nil u3)))
  have s1 := u1.size
  have s3 := u3.size
  have hP : Pair w3 w3.heap.size k1 k2 (.slice none 0 0) (.slice none 0 0) [] [] [] [] :=
    ⟨Nat.le_refl _, by omega, z2, by omega, OwnB.nil _ _, OwnB.nil _ _, (fun g e => nomatch e), ((hK1 w3.heap.size).upd_nil u3).on (fun b hb => ⟨hb, nofun, nofun⟩), (hK2 w3.heap.size).on (fun b hb => ⟨hb, nofun, nofun⟩)⟩
  have hbase : w.heap.size ≤ w3.heap.size := t3.size
  have hk1w : w.heap.size ≤ k1 := by omega
  have hk2w : w.heap.size ≤ k2 := by have := u2.size; omega
  generalize w3.heap.size = base at hP hbase
  clear hK1 hK2 hk1 hk2 z1 z2 u1 u2 u3 t2 s1 s3 hdb
  go_wp2_with fail
  go_loopw [7, 8, 9] (fun av bv iv wr => ∃ (i c1 c2 : Nat) (p1 p2 : Option Addr) (la lb : List Int), i ≤ 10 ∧ la.length ≤ 200 * i ∧ lb.length ≤ 200 * i ∧ av = .slice p1 la.length c1 ∧ bv = .slice p2 lb.length c2 ∧ iv = .int .i64 i ∧ Rng la ∧ Rng lb ∧ Upd [] w wr ∧ Pair wr base k1 k2 (.slice p1 la.length c1) (.slice p2 lb.length c2) la lb la lb) (fun _ _ iv _ => 10 - (intOf iv).toNat)
  case atStart => exact ⟨0, 0, 0, none, none, [], [], by omega, by simp, by simp, rfl, rfl, rfl, Rng.nil, Rng.nil, t3, hP⟩
  case round =>
    clear hP t3
    obtain ⟨i, c1, c2, p1, p2, la, lb, hi, hla, hlb, rfl, rfl, rfl, hra, hrb, hu, hP⟩ := hrel
    obtain ⟨wo, rfl⟩ : ∃ wo, wo = wr := ⟨_, rfl⟩
    by_cases h10 : i < 10
    · obtain ⟨na, Hna⟩ : ∃ na, Hid (la.length = na) := ⟨_, Lib.hid rfl⟩
      obtain ⟨nb, Hnb⟩ : ∃ nb, Hid (lb.length = nb) := ⟨_, Lib.hid rfl⟩
      rw [Hna.out] at hP hla ⊢
      rw [Hnb.out] at hP hlb ⊢
      have hend : ∀ (wz : World) (p1 p2 : Option Addr) (c1 c2 na nb : Nat) (la lb : List Int), la.length = na → lb.length = nb → na ≤ 200 * i + 200 → nb ≤ 200 * i + 200 → Rng la → Rng lb → Upd [] w wz → Pair wz base k1 k2 (.slice p1 na c1) (.slice p2 nb c2) la lb la lb →
          (∃ (i' c1' c2' : Nat) (p1' p2' : Option Addr) (la' lb' : List Int), i' ≤ 10 ∧ la'.length ≤ 200 * i' ∧ lb'.length ≤ 200 * i' ∧ Value.slice p1 na c1 = .slice p1' la'.length c1' ∧ Value.slice p2 nb c2 = .slice p2' lb'.length c2' ∧ Value.int .i64 ((i : Int) + 1) = .int .i64 i' ∧ Rng la' ∧ Rng lb' ∧ Upd [] w wz ∧ Pair wz base k1 k2 (.slice p1' la'.length c1') (.slice p2' lb'.length c2') la' lb' la' lb') := by
        rintro wz p1 p2 c1 c2 na nb la lb rfl rfl ha hb ra rb hz hp
        exact ⟨i + 1, c1, c2, p1, p2, la, lb, by omega, by omega, by omega, rfl, rfl, by go_num, ra, rb, hz, hp⟩
      have hla2 : na ≤ 200 * i + 200 := by omega
      have hlb2 : nb ≤ 200 * i + 200 := by omega
      by_cases h1 : i < ln
      · obtain ⟨qb, qo, dp, xs, dc, mn, rfl, hqb, hqc, hxr, hxw, hx63, hxd, Hmn, Hml, hm2, hmd⟩ := hq.head i h1
        have hqb2 : qb < wo.heap.size := Nat.lt_of_lt_of_le hqb hu.size
        go_upto_region 9 with fail
        have hqc2 : wo.cell? ⟨qb, qo + i, none⟩ = some (.slice dp xs.length dc) := (hu.cell (a := ⟨qb, qo + i, none⟩) hqb (by simp)).trans hqc
        clear hqc
        refine wp_region_spec [(.eq (.slice (some ⟨qb, qo, none⟩) ln cap)), (.eq (.int .i64 (i : Int))), (.eq (.pointer (some ⟨qb, qo + i, none⟩))), (.eq (.slice dp xs.length dc)), (.eq (.slice (some ⟨qb, qo, none⟩) ln cap)), (.eq (.int .i64 (i : Int))), (.eq (.pointer (some ⟨qb, qo + i, none⟩))), (.eq (.slice dp xs.length dc)), (.eq (.int .i64 (xs.length : Int))), (.eq (.int .i64 (mn : Int))), (.eq (.slice dp mn dc)), (.eq (.slice dp mn dc))] (by kernel_rfl) (by kernel_rfl) rfl ?step ?fin
        case step =>
          intro i o ho a w' hS hold hneed K' hK
          match i, ho with
          | 0, ho =>
            obtain rfl := Option.some.inj ho
            have d0 := hold 0 _ (by kernel_rfl) rfl
            clear hold hneed ho
            (go_simp; exact hK _ _ rfl (Upd.refl [] _))
          | 1, ho =>
            obtain rfl := Option.some.inj ho
            have d9 := hold 9 _ (by kernel_rfl) rfl
            clear hold hneed ho
            (go_simp; exact hK _ _ rfl (Upd.refl [] _))
          | 2, ho =>
            obtain rfl := Option.some.inj ho
            have d24 := get_of_at (hneed 0 (of_decide_eq_true (by kernel_rfl)) 24 rfl) (by simp [undef])
            have d25 := get_of_at (hneed 1 (of_decide_eq_true (by kernel_rfl)) 25 rfl) (by simp [undef])
            clear hold hneed ho
            (go_simp; exact hK _ _ rfl (Upd.refl [] _))
          | 3, ho =>
            obtain rfl := Option.some.inj ho
            have d26 := get_of_at (hneed 2 (of_decide_eq_true (by kernel_rfl)) 26 rfl) (by simp [undef])
            clear hold hneed ho
            (have p0 := (hS.cell (a := ⟨qb, _, none⟩) hqb2 (by simp)).trans hqc2; go_simp; exact hK _ _ rfl (Upd.refl [] _))
          | 4, ho =>
            obtain rfl := Option.some.inj ho
            have d0 := hold 0 _ (by kernel_rfl) rfl
            clear hold hneed ho
            (go_simp; exact hK _ _ rfl (Upd.refl [] _))
          | 5, ho =>
            obtain rfl := Option.some.inj ho
            have d9 := hold 9 _ (by kernel_rfl) rfl
            clear hold hneed ho
            (go_simp; exact hK _ _ rfl (Upd.refl [] _))
          | 6, ho =>
            obtain rfl := Option.some.inj ho
            have d28 := get_of_at (hneed 4 (of_decide_eq_true (by kernel_rfl)) 28 rfl) (by simp [undef])
            have d29 := get_of_at (hneed 5 (of_decide_eq_true (by kernel_rfl)) 29 rfl) (by simp [undef])
            clear hold hneed ho
            (go_simp; exact hK _ _ rfl (Upd.refl [] _))
          | 7, ho =>
            obtain rfl := Option.some.inj ho
            have d30 := get_of_at (hneed 6 (of_decide_eq_true (by kernel_rfl)) 30 rfl) (by simp [undef])
            clear hold hneed ho
            (have p0 := (hS.cell (a := ⟨qb, _, none⟩) hqb2 (by simp)).trans hqc2; go_simp; exact hK _ _ rfl (Upd.refl [] _))
          | 8, ho =>
            obtain rfl := Option.some.inj ho
            have d31 := get_of_at (hneed 7 (of_decide_eq_true (by kernel_rfl)) 31 rfl) (by simp [undef])
            clear hold hneed ho
            (go_simp; exact hK _ _ rfl (Upd.refl [] _))
          | 9, ho =>
            obtain rfl := Option.some.inj ho
            have d32 := get_of_at (hneed 8 (of_decide_eq_true (by kernel_rfl)) 32 rfl) (by simp [undef])
            clear hold hneed ho
            (go_simp; rw [Hmn.out]; exact hK _ _ rfl (Upd.refl [] _))
          | 10, ho =>
            obtain rfl := Option.some.inj ho
            have d27 := get_of_at (hneed 3 (of_decide_eq_true (by kernel_rfl)) 27 rfl) (by simp [undef])
            have d33 := get_of_at (hneed 9 (of_decide_eq_true (by kernel_rfl)) 33 rfl) (by simp [undef])
            clear hold hneed ho
            (go_simp; exact hK _ _ rfl (Upd.refl [] _))
          | 11, ho =>
            obtain rfl := Option.some.inj ho
            have d34 := get_of_at (hneed 10 (of_decide_eq_true (by kernel_rfl)) 34 rfl) (by simp [undef])
            clear hold hneed ho
            (go_simp; exact hK _ _ rfl (Upd.refl [] _))
          | _ + 12, ho => exact absurd ho (by simp)
        case fin =>
          intro a w' hS hsz hdf hold hvals
          have ha := act_lit hsz hdf (RowIs.cons (at_of_get (hold 0 _ (by kernel_rfl) rfl)) (RowIs.cons (at_of_get (hold 1 _ (by kernel_rfl) rfl)) (RowIs.cons (at_of_get (hold 2 _ (by kernel_rfl) rfl)) (RowIs.cons (at_of_get (hold 3 _ (by kernel_rfl) rfl)) (RowIs.cons (at_of_get (hold 4 _ (by kernel_rfl) rfl)) (RowIs.cons (at_of_get (hold 5 _ (by kernel_rfl) rfl)) (RowIs.cons (at_of_get (hold 6 _ (by kernel_rfl) rfl)) (RowIs.cons (at_of_get (hold 7 _ (by kernel_rfl) rfl)) (RowIs.cons (at_of_get (hold 8 _ (by kernel_rfl) rfl)) (RowIs.cons (at_of_get (hold 9 _ (by kernel_rfl) rfl)) (RowIs.cons (hvals 11 10 rfl) (RowIs.cons (at_of_get (hold 11 _ (by kernel_rfl) rfl)) (RowIs.cons (at_of_get (hold 12 _ (by kernel_rfl) rfl)) (RowIs.cons (at_of_get (hold 13 _ (by kernel_rfl) rfl)) (RowIs.cons (at_of_get (hold 14 _ (by kernel_rfl) rfl)) (RowIs.cons (at_of_get (hold 15 _ (by kernel_rfl) rfl)) (RowIs.cons (at_of_get (hold 16 _ (by kernel_rfl) rfl)) (RowIs.cons (at_of_get (hold 17 _ (by kernel_rfl) rfl)) (RowIs.cons (at_of_get (hold 18 _ (by kernel_rfl) rfl)) (RowIs.cons (at_of_get (hold 19 _ (by kernel_rfl) rfl)) (RowIs.cons (at_of_get (hold 20 _ (by kernel_rfl) rfl)) (RowIs.cons (at_of_get (hold 21 _ (by kernel_rfl) rfl)) (RowIs.cons (at_of_get (hold 22 _ (by kernel_rfl) rfl)) (RowIs.cons (at_of_get (hold 23 _ (by kernel_rfl) rfl)) (RowIs.cons (hvals 0 24 rfl) (RowIs.cons (hvals 1 25 rfl) (RowIs.cons (hvals 2 26 rfl) (RowIs.cons (hvals 3 27 rfl) (RowIs.cons (hvals 4 28 rfl) (RowIs.cons (hvals 5 29 rfl) (RowIs.cons (hvals 6 30 rfl) (RowIs.cons (hvals 7 31 rfl) (RowIs.cons (hvals 8 32 rfl) (RowIs.cons (hvals 9 33 rfl) (RowIs.cons (hvals 10 34 rfl) (RowIs.cons (at_of_get (hold 35 _ (by kernel_rfl) rfl)) (RowIs.cons (at_of_get (hold 36 _ (by kernel_rfl) rfl)) (RowIs.cons (at_of_get (hold 37 _ (by kernel_rfl) rfl)) (RowIs.cons (at_of_get (hold 38 _ (by kernel_rfl) rfl)) (RowIs.cons (at_of_get (hold 39 _ (by kernel_rfl) rfl)) (RowIs.cons (at_of_get (hold 40 _ (by kernel_rfl) rfl)) (RowIs.cons (at_of_get (hold 41 _ (by kernel_rfl) rfl)) (RowIs.cons (at_of_get (hold 42 _ (by kernel_rfl) rfl)) (RowIs.cons (at_of_get (hold 43 _ (by kernel_rfl) rfl)) (RowIs.cons (at_of_get (hold 44 _ (by kernel_rfl) rfl)) (RowIs.cons (at_of_get (hold 45 _ (by kernel_rfl) rfl)) (RowIs.cons (at_of_get (hold 46 _ (by kernel_rfl) rfl)) (RowIs.cons (at_of_get (hold 47 _ (by kernel_rfl) rfl)) (RowIs.cons (at_of_get (hold 48 _ (by kernel_rfl) rfl)) (RowIs.cons (at_of_get (hold 49 _ (by kernel_rfl) rfl)) (RowIs.cons (at_of_get (hold 50 _ (by kernel_rfl) rfl)) (RowIs.cons (at_of_get (hold 51 _ (by kernel_rfl) rfl)) (RowIs.cons (at_of_get (hold 52 _ (by kernel_rfl) rfl)) (RowIs.cons (at_of_get (hold 53 _ (by kernel_rfl) rfl)) (RowIs.cons (at_of_get (hold 54 _ (by kernel_rfl) rfl)) (RowIs.cons (at_of_get (hold 55 _ (by kernel_rfl) rfl)) (RowIs.cons (at_of_get (hold 56 _ (by kernel_rfl) rfl)) (RowIs.cons (at_of_get (hold 57 _ (by kernel_rfl) rfl)) (RowIs.cons (at_of_get (hold 58 _ (by kernel_rfl) rfl)) (RowIs.cons (at_of_get (hold 59 _ (by kernel_rfl) rfl)) (RowIs.cons (at_of_get (hold 60 _ (by kernel_rfl) rfl)) (RowIs.cons (at_of_get (hold 61 _ (by kernel_rfl) rfl)) (RowIs.cons (at_of_get (hold 62 _ (by kernel_rfl) rfl)) (RowIs.cons (at_of_get (hold 63 _ (by kernel_rfl) rfl)) (RowIs.cons (at_of_get (hold 64 _ (by kernel_rfl) rfl)) (RowIs.cons (at_of_get (hold 65 _ (by kernel_rfl) rfl)) (RowIs.cons (at_of_get (hold 66 _ (by kernel_rfl) rfl)) (RowIs.cons (at_of_get (hold 67 _ (by kernel_rfl) rfl)) (RowIs.cons (at_of_get (hold 68 _ (by kernel_rfl) rfl)) (RowIs.cons (at_of_get (hold 69 _ (by kernel_rfl) rfl)) (RowIs.cons (at_of_get (hold 70 _ (by kernel_rfl) rfl)) (RowIs.cons (at_of_get (hold 71 _ (by kernel_rfl) rfl)) (RowIs.cons (at_of_get (hold 72 _ (by kernel_rfl) rfl)) (RowIs.cons (at_of_get (hold 73 _ (by kernel_rfl) rfl)) (RowIs.nil _ _))))))))))))))))))))))))))))))))))))))))))))))))))))))))))))))))))))))))))) rfl
          clear hsz hdf hold hvals
          subst ha
          try simp only [List.getElem_toArray, List.getElem_cons_succ, List.getElem_cons_zero]
          obtain ⟨w4, rfl⟩ : ∃ w4, w4 = w' := ⟨_, rfl⟩
          have v4 := hu.trans_nil hS
          have P4 := hP.upd_nil hS
          have hx4 := hxw.upd_nil v4
          clear hS hqc2 hqb2 hu hP
          have hadd := add_walk P4.x.at_ dp (xs.take 200) dc hx4 hxr (by rw [Hna.out, ← Hml.out]; omega)
          rw [← Hml.out] at hadd
          go_upto_region 11 with (go_at_call 9; refine hadd.mono ?_; rintro e w5 ⟨rfl, u5, hK5⟩)
          have P5 := P4.add u5 hK5
          have v5 : Upd [] w w5 := v4.trans_nil' u5 (by simp; omega)
          have hx5 : ByAt w5 dp (xs.take 200) := hxw.upd_nil v5
          clear hadd u5 hK5 P4 v4 hx4
          go_upto_region 12 with (at_builtin; refine app_bytes3 rfl _ _ rfl base (.slice p1 na c1) la na Hna.out rfl P5.a dp mn dc (xs.take 200) rfl Hml.out hx5 (by omega) P5.bs ?_; rintro p6 c6 w6 ho6 hg6 hn6)
          have P6 := P5.app ho6 hg6 hn6
          have v6 : Upd [] w w6 := v5.grown hg6 (fun k hk => .inr (Nat.le_trans hbase (P5.a.lt k hk).1))
          have hr6 : Rng (la ++ xs.take 200) := hra.app hxr
          obtain ⟨n6, hn6'⟩ : ∃ n, na + mn = n := ⟨_, rfl⟩
          have Hn6 : Hid ((la ++ xs.take 200).length = n6) := Lib.hid (by rw [List.length_append, Hna.out, ← Hml.out]; exact hn6')
          have hl6 : n6 ≤ 200 * i + 200 := by omega
          rw [hn6'] at P6 ⊢
          clear ho6 hg6 hn6 hn6' P5 v5 hx5 hxr hxw Hmn Hml
          generalize la ++ xs.take 200 = l6 at *
          by_cases h2 : i < ln2
          · obtain ⟨qb, qo, dp, xs, dc, mn, rfl, hqb, hqc, hxr, hxw, hx63, hxd, Hmn, Hml, hm2, hmd⟩ := hq2.head i h2
            have hqb2 : qb < w6.heap.size := Nat.lt_of_lt_of_le hqb v6.size
            go_upto_region 13 with fail
            have hqc2 : w6.cell? ⟨qb, qo + i, none⟩ = some (.slice dp xs.length dc) := (v6.cell (a := ⟨qb, qo + i, none⟩) hqb (by simp)).trans hqc
            clear hqc
            refine wp_region_spec [(.eq (.slice (some ⟨qb, qo, none⟩) ln2 cap2)), (.eq (.int .i64 (i : Int))), (.eq (.pointer (some ⟨qb, qo + i, none⟩))), (.eq (.slice dp xs.length dc)), (.eq (.slice (some ⟨qb, qo, none⟩) ln2 cap2)), (.eq (.int .i64 (i : Int))), (.eq (.pointer (some ⟨qb, qo + i, none⟩))), (.eq (.slice dp xs.length dc)), (.eq (.int .i64 (xs.length : Int))), (.eq (.int .i64 (mn : Int))), (.eq (.slice dp mn dc)), (.eq (.slice dp mn dc))] (by kernel_rfl) (by kernel_rfl) rfl ?step ?fin
            case step =>
              intro i o ho a w' hS hold hneed K' hK
              match i, ho with
              | 0, ho =>
                obtain rfl := Option.some.inj ho
                have d1 := hold 1 _ (by kernel_rfl) rfl
                clear hold hneed ho
                (go_simp; exact hK _ _ rfl (Upd.refl [] _))
              | 1, ho =>
                obtain rfl := Option.some.inj ho
                have d9 := hold 9 _ (by kernel_rfl) rfl
                clear hold hneed ho
                (go_simp; exact hK _ _ rfl (Upd.refl [] _))
              | 2, ho =>
                obtain rfl := Option.some.inj ho
                have d45 := get_of_at (hneed 0 (of_decide_eq_true (by kernel_rfl)) 45 rfl) (by simp [undef])
                have d46 := get_of_at (hneed 1 (of_decide_eq_true (by kernel_rfl)) 46 rfl) (by simp [undef])
                clear hold hneed ho
                (go_simp; exact hK _ _ rfl (Upd.refl [] _))
              | 3, ho =>
                obtain rfl := Option.some.inj ho
                have d47 := get_of_at (hneed 2 (of_decide_eq_true (by kernel_rfl)) 47 rfl) (by simp [undef])
                clear hold hneed ho
                (have p0 := (hS.cell (a := ⟨qb, _, none⟩) hqb2 (by simp)).trans hqc2; go_simp; exact hK _ _ rfl (Upd.refl [] _))
              | 4, ho =>
                obtain rfl := Option.some.inj ho
                have d1 := hold 1 _ (by kernel_rfl) rfl
                clear hold hneed ho
                (go_simp; exact hK _ _ rfl (Upd.refl [] _))
              | 5, ho =>
                obtain rfl := Option.some.inj ho
                have d9 := hold 9 _ (by kernel_rfl) rfl
                clear hold hneed ho
                (go_simp; exact hK _ _ rfl (Upd.refl [] _))
              | 6, ho =>
                obtain rfl := Option.some.inj ho
                have d49 := get_of_at (hneed 4 (of_decide_eq_true (by kernel_rfl)) 49 rfl) (by simp [undef])
                have d50 := get_of_at (hneed 5 (of_decide_eq_true (by kernel_rfl)) 50 rfl) (by simp [undef])
                clear hold hneed ho
                (go_simp; exact hK _ _ rfl (Upd.refl [] _))
              | 7, ho =>
                obtain rfl := Option.some.inj ho
                have d51 := get_of_at (hneed 6 (of_decide_eq_true (by kernel_rfl)) 51 rfl) (by simp [undef])
                clear hold hneed ho
                (have p0 := (hS.cell (a := ⟨qb, _, none⟩) hqb2 (by simp)).trans hqc2; go_simp; exact hK _ _ rfl (Upd.refl [] _))
              | 8, ho =>
                obtain rfl := Option.some.inj ho
                have d52 := get_of_at (hneed 7 (of_decide_eq_true (by kernel_rfl)) 52 rfl) (by simp [undef])
                clear hold hneed ho
                (go_simp; exact hK _ _ rfl (Upd.refl [] _))
              | 9, ho =>
                obtain rfl := Option.some.inj ho
                have d53 := get_of_at (hneed 8 (of_decide_eq_true (by kernel_rfl)) 53 rfl) (by simp [undef])
                clear hold hneed ho
                (go_simp; rw [Hmn.out]; exact hK _ _ rfl (Upd.refl [] _))
              | 10, ho =>
                obtain rfl := Option.some.inj ho
                have d48 := get_of_at (hneed 3 (of_decide_eq_true (by kernel_rfl)) 48 rfl) (by simp [undef])
                have d54 := get_of_at (hneed 9 (of_decide_eq_true (by kernel_rfl)) 54 rfl) (by simp [undef])
                clear hold hneed ho
                (go_simp; exact hK _ _ rfl (Upd.refl [] _))
              | 11, ho =>
                obtain rfl := Option.some.inj ho
                have d55 := get_of_at (hneed 10 (of_decide_eq_true (by kernel_rfl)) 55 rfl) (by simp [undef])
                clear hold hneed ho
                (go_simp; exact hK _ _ rfl (Upd.refl [] _))
              | _ + 12, ho => exact absurd ho (by simp)
            case fin =>
              intro a w' hS hsz hdf hold hvals
              have ha := act_lit hsz hdf (RowIs.cons (at_of_get (hold 0 _ (by kernel_rfl) rfl)) (RowIs.cons (at_of_get (hold 1 _ (by kernel_rfl) rfl)) (RowIs.cons (at_of_get (hold 2 _ (by kernel_rfl) rfl)) (RowIs.cons (at_of_get (hold 3 _ (by kernel_rfl) rfl)) (RowIs.cons (at_of_get (hold 4 _ (by kernel_rfl) rfl)) (RowIs.cons (at_of_get (hold 5 _ (by kernel_rfl) rfl)) (RowIs.cons (at_of_get (hold 6 _ (by kernel_rfl) rfl)) (RowIs.cons (at_of_get (hold 7 _ (by kernel_rfl) rfl)) (RowIs.cons (at_of_get (hold 8 _ (by kernel_rfl) rfl)) (RowIs.cons (at_of_get (hold 9 _ (by kernel_rfl) rfl)) (RowIs.cons (at_of_get (hold 10 _ (by kernel_rfl) rfl)) (RowIs.cons (hvals 11 11 rfl) (RowIs.cons (at_of_get (hold 12 _ (by kernel_rfl) rfl)) (RowIs.cons (at_of_get (hold 13 _ (by kernel_rfl) rfl)) (RowIs.cons (at_of_get (hold 14 _ (by kernel_rfl) rfl)) (RowIs.cons (at_of_get (hold 15 _ (by kernel_rfl) rfl)) (RowIs.cons (at_of_get (hold 16 _ (by kernel_rfl) rfl)) (RowIs.cons (at_of_get (hold 17 _ (by kernel_rfl) rfl)) (RowIs.cons (at_of_get (hold 18 _ (by kernel_rfl) rfl)) (RowIs.cons (at_of_get (hold 19 _ (by kernel_rfl) rfl)) (RowIs.cons (at_of_get (hold 20 _ (by kernel_rfl) rfl)) (RowIs.cons (at_of_get (hold 21 _ (by kernel_rfl) rfl)) (RowIs.cons (at_of_get (hold 22 _ (by kernel_rfl) rfl)) (RowIs.cons (at_of_get (hold 23 _ (by kernel_rfl) rfl)) (RowIs.cons (at_of_get (hold 24 _ (by kernel_rfl) rfl)) (RowIs.cons (at_of_get (hold 25 _ (by kernel_rfl) rfl)) (RowIs.cons (at_of_get (hold 26 _ (by kernel_rfl) rfl)) (RowIs.cons (at_of_get (hold 27 _ (by kernel_rfl) rfl)) (RowIs.cons (at_of_get (hold 28 _ (by kernel_rfl) rfl)) (RowIs.cons (at_of_get (hold 29 _ (by kernel_rfl) rfl)) (RowIs.cons (at_of_get (hold 30 _ (by kernel_rfl) rfl)) (RowIs.cons (at_of_get (hold 31 _ (by kernel_rfl) rfl)) (RowIs.cons (at_of_get (hold 32 _ (by kernel_rfl) rfl)) (RowIs.cons (at_of_get (hold 33 _ (by kernel_rfl) rfl)) (RowIs.cons (at_of_get (hold 34 _ (by kernel_rfl) rfl)) (RowIs.cons (at_of_get (hold 35 _ (by kernel_rfl) rfl)) (RowIs.cons (at_of_get (hold 36 _ (by kernel_rfl) rfl)) (RowIs.cons (at_of_get (hold 37 _ (by kernel_rfl) rfl)) (RowIs.cons (at_of_get (hold 38 _ (by kernel_rfl) rfl)) (RowIs.cons (at_of_get (hold 39 _ (by kernel_rfl) rfl)) (RowIs.cons (at_of_get (hold 40 _ (by kernel_rfl) rfl)) (RowIs.cons (at_of_get (hold 41 _ (by kernel_rfl) rfl)) (RowIs.cons (at_of_get (hold 42 _ (by kernel_rfl) rfl)) (RowIs.cons (at_of_get (hold 43 _ (by kernel_rfl) rfl)) (RowIs.cons (at_of_get (hold 44 _ (by kernel_rfl) rfl)) (RowIs.cons (hvals 0 45 rfl) (RowIs.cons (hvals 1 46 rfl) (RowIs.cons (hvals 2 47 rfl) (RowIs.cons (hvals 3 48 rfl) (RowIs.cons (hvals 4 49 rfl) (RowIs.cons (hvals 5 50 rfl) (RowIs.cons (hvals 6 51 rfl) (RowIs.cons (hvals 7 52 rfl) (RowIs.cons (hvals 8 53 rfl) (RowIs.cons (hvals 9 54 rfl) (RowIs.cons (hvals 10 55 rfl) (RowIs.cons (at_of_get (hold 56 _ (by kernel_rfl) rfl)) (RowIs.cons (at_of_get (hold 57 _ (by kernel_rfl) rfl)) (RowIs.cons (at_of_get (hold 58 _ (by kernel_rfl) rfl)) (RowIs.cons (at_of_get (hold 59 _ (by kernel_rfl) rfl)) (RowIs.cons (at_of_get (hold 60 _ (by kernel_rfl) rfl)) (RowIs.cons (at_of_get (hold 61 _ (by kernel_rfl) rfl)) (RowIs.cons (at_of_get (hold 62 _ (by kernel_rfl) rfl)) (RowIs.cons (at_of_get (hold 63 _ (by kernel_rfl) rfl)) (RowIs.cons (at_of_get (hold 64 _ (by kernel_rfl) rfl)) (RowIs.cons (at_of_get (hold 65 _ (by kernel_rfl) rfl)) (RowIs.cons (at_of_get (hold 66 _ (by kernel_rfl) rfl)) (RowIs.cons (at_of_get (hold 67 _ (by kernel_rfl) rfl)) (RowIs.cons (at_of_get (hold 68 _ (by kernel_rfl) rfl)) (RowIs.cons (at_of_get (hold 69 _ (by kernel_rfl) rfl)) (RowIs.cons (at_of_get (hold 70 _ (by kernel_rfl) rfl)) (RowIs.cons (at_of_get (hold 71 _ (by kernel_rfl) rfl)) (RowIs.cons (at_of_get (hold 72 _ (by kernel_rfl) rfl)) (RowIs.cons (at_of_get (hold 73 _ (by kernel_rfl) rfl)) (RowIs.nil _ _))))))))))))))))))))))))))))))))))))))))))))))))))))))))))))))))))))))))))) rfl
              clear hsz hdf hold hvals
              subst ha
              try simp only [List.getElem_toArray, List.getElem_cons_succ, List.getElem_cons_zero]
              obtain ⟨w7, rfl⟩ : ∃ w7, w7 = w' := ⟨_, rfl⟩
              have v7 := v6.trans_nil hS
              have P7 := P6.upd_nil hS
              have hx7 := hxw.upd_nil v7
              clear hS hqc2 hqb2 v6 P6
              have hadd := add_walk P7.y.at_ dp (xs.take 200) dc hx7 hxr (by rw [Hnb.out, ← Hml.out]; omega)
              rw [← Hml.out] at hadd
              go_upto_region 15 with (go_at_call 9; refine hadd.mono ?_; rintro e w8 ⟨rfl, u8, hK8⟩)
              have P8 := (P7.swap.add u8 hK8).swap
              have v8 : Upd [] w w8 := v7.trans_nil' u8 (by simp; omega)
              have hx8 : ByAt w8 dp (xs.take 200) := hxw.upd_nil v8
              clear hadd u8 hK8 P7 v7 hx7
              go_wp2_with (at_builtin; refine app_bytes3 rfl _ _ rfl base (.slice p2 nb c2) lb nb Hnb.out rfl P8.b dp mn dc (xs.take 200) rfl Hml.out hx8 (by omega) P8.bs ?_; rintro p9 c9 w9 ho9 hg9 hn9)
              have P9 := (P8.swap.app ho9 hg9 hn9).swap
              have v9 : Upd [] w w9 := v8.grown hg9 (fun k hk => .inr (Nat.le_trans hbase (P8.b.lt k hk).1))
              have hr9 : Rng (lb ++ xs.take 200) := hrb.app hxr
              obtain ⟨n9, hn9'⟩ : ∃ n, nb + mn = n := ⟨_, rfl⟩
              have Hn9 : Hid ((lb ++ xs.take 200).length = n9) := Lib.hid (by rw [List.length_append, Hnb.out, ← Hml.out]; exact hn9')
              have hl9 : n9 ≤ 200 * i + 200 := by omega
              rw [hn9'] at P9 ⊢
              clear ho9 hg9 hn9 hn9' P8 v8 hx8 hxr hxw Hmn Hml
              generalize lb ++ xs.take 200 = l9 at *
              go_wp2_with fail
              exact ⟨hend w9 p6 p9 c6 c9 n6 n9 l6 l9 Hn6.out Hn9.out hl6 hl9 hr6 hr9 v9 P9, by simp [intOf]; omega⟩
          · go_wp2_with fail
            exact ⟨hend w6 p6 p2 c6 c2 n6 nb l6 lb Hn6.out Hnb.out hl6 hlb2 hr6 hrb v6 P6, by simp [intOf]; omega⟩
      · go_upto_region 12 with fail
        by_cases h2 : i < ln2
        · obtain ⟨qb, qo, dp, xs, dc, mn, rfl, hqb, hqc, hxr, hxw, hx63, hxd, Hmn, Hml, hm2, hmd⟩ := hq2.head i h2
          have hqb2 : qb < wo.heap.size := Nat.lt_of_lt_of_le hqb hu.size
          go_upto_region 13 with fail
          have hqc2 : wo.cell? ⟨qb, qo + i, none⟩ = some (.slice dp xs.length dc) := (hu.cell (a := ⟨qb, qo + i, none⟩) hqb (by simp)).trans hqc
          clear hqc
          refine wp_region_spec [(.eq (.slice (some ⟨qb, qo, none⟩) ln2 cap2)), (.eq (.int .i64 (i : Int))), (.eq (.pointer (some ⟨qb, qo + i, none⟩))), (.eq (.slice dp xs.length dc)), (.eq (.slice (some ⟨qb, qo, none⟩) ln2 cap2)), (.eq (.int .i64 (i : Int))), (.eq (.pointer (some ⟨qb, qo + i, none⟩))), (.eq (.slice dp xs.length dc)), (.eq (.int .i64 (xs.length : Int))), (.eq (.int .i64 (mn : Int))), (.eq (.slice dp mn dc)), (.eq (.slice dp mn dc))] (by kernel_rfl) (by kernel_rfl) rfl ?step ?fin
          case step =>
            intro i o ho a w' hS hold hneed K' hK
            match i, ho with
            | 0, ho =>
              obtain rfl := Option.some.inj ho
              have d1 := hold 1 _ (by kernel_rfl) rfl
              clear hold hneed ho
              (go_simp; exact hK _ _ rfl (Upd.refl [] _))
            | 1, ho =>
              obtain rfl := Option.some.inj ho
              have d9 := hold 9 _ (by kernel_rfl) rfl
              clear hold hneed ho
              (go_simp; exact hK _ _ rfl (Upd.refl [] _))
            | 2, ho =>
              obtain rfl := Option.some.inj ho
              have d45 := get_of_at (hneed 0 (of_decide_eq_true (by kernel_rfl)) 45 rfl) (by simp [undef])
              have d46 := get_of_at (hneed 1 (of_decide_eq_true (by kernel_rfl)) 46 rfl) (by simp [undef])
              clear hold hneed ho
              (go_simp; exact hK _ _ rfl (Upd.refl [] _))
            | 3, ho =>
              obtain rfl := Option.some.inj ho
              have d47 := get_of_at (hneed 2 (of_decide_eq_true (by kernel_rfl)) 47 rfl) (by simp [undef])
              clear hold hneed ho
              (have p0 := (hS.cell (a := ⟨qb, _, none⟩) hqb2 (by simp)).trans hqc2; go_simp; exact hK _ _ rfl (Upd.refl [] _))
            | 4, ho =>
              obtain rfl := Option.some.inj ho
              have d1 := hold 1 _ (by kernel_rfl) rfl
              clear hold hneed ho
              (go_simp; exact hK _ _ rfl (Upd.refl [] _))
            | 5, ho =>
              obtain rfl := Option.some.inj ho
              have d9 := hold 9 _ (by kernel_rfl) rfl
              clear hold hneed ho
              (go_simp; exact hK _ _ rfl (Upd.refl [] _))
            | 6, ho =>
              obtain rfl := Option.some.inj ho
              have d49 := get_of_at (hneed 4 (of_decide_eq_true (by kernel_rfl)) 49 rfl) (by simp [undef])
              have d50 := get_of_at (hneed 5 (of_decide_eq_true (by kernel_rfl)) 50 rfl) (by simp [undef])
              clear hold hneed ho
              (go_simp; exact hK _ _ rfl (Upd.refl [] _))
            | 7, ho =>
              obtain rfl := Option.some.inj ho
              have d51 := get_of_at (hneed 6 (of_decide_eq_true (by kernel_rfl)) 51 rfl) (by simp [undef])
              clear hold hneed ho
              (have p0 := (hS.cell (a := ⟨qb, _, none⟩) hqb2 (by simp)).trans hqc2; go_simp; exact hK _ _ rfl (Upd.refl [] _))
            | 8, ho =>
              obtain rfl := Option.some.inj ho
              have d52 := get_of_at (hneed 7 (of_decide_eq_true (by kernel_rfl)) 52 rfl) (by simp [undef])
              clear hold hneed ho
              (go_simp; exact hK _ _ rfl (Upd.refl [] _))
            | 9, ho =>
              obtain rfl := Option.some.inj ho
              have d53 := get_of_at (hneed 8 (of_decide_eq_true (by kernel_rfl)) 53 rfl) (by simp [undef])
              clear hold hneed ho
              (go_simp; rw [Hmn.out]; exact hK _ _ rfl (Upd.refl [] _))
            | 10, ho =>
              obtain rfl := Option.some.inj ho
              have d48 := get_of_at (hneed 3 (of_decide_eq_true (by kernel_rfl)) 48 rfl) (by simp [undef])
              have d54 := get_of_at (hneed 9 (of_decide_eq_true (by kernel_rfl)) 54 rfl) (by simp [undef])
              clear hold hneed ho
              (go_simp; exact hK _ _ rfl (Upd.refl [] _))
            | 11, ho =>
              obtain rfl := Option.some.inj ho
              have d55 := get_of_at (hneed 10 (of_decide_eq_true (by kernel_rfl)) 55 rfl) (by simp [undef])
              clear hold hneed ho
              (go_simp; exact hK _ _ rfl (Upd.refl [] _))
            | _ + 12, ho => exact absurd ho (by simp)
          case fin =>
            intro a w' hS hsz hdf hold hvals
            have ha := act_lit hsz hdf (RowIs.cons (at_of_get (hold 0 _ (by kernel_rfl) rfl)) (RowIs.cons (at_of_get (hold 1 _ (by kernel_rfl) rfl)) (RowIs.cons (at_of_get (hold 2 _ (by kernel_rfl) rfl)) (RowIs.cons (at_of_get (hold 3 _ (by kernel_rfl) rfl)) (RowIs.cons (at_of_get (hold 4 _ (by kernel_rfl) rfl)) (RowIs.cons (at_of_get (hold 5 _ (by kernel_rfl) rfl)) (RowIs.cons (at_of_get (hold 6 _ (by kernel_rfl) rfl)) (RowIs.cons (at_of_get (hold 7 _ (by kernel_rfl) rfl)) (RowIs.cons (at_of_get (hold 8 _ (by kernel_rfl) rfl)) (RowIs.cons (at_of_get (hold 9 _ (by kernel_rfl) rfl)) (RowIs.cons (at_of_get (hold 10 _ (by kernel_rfl) rfl)) (RowIs.cons (hvals 11 11 rfl) (RowIs.cons (at_of_get (hold 12 _ (by kernel_rfl) rfl)) (RowIs.cons (at_of_get (hold 13 _ (by kernel_rfl) rfl)) (RowIs.cons (at_of_get (hold 14 _ (by kernel_rfl) rfl)) (RowIs.cons (at_of_get (hold 15 _ (by kernel_rfl) rfl)) (RowIs.cons (at_of_get (hold 16 _ (by kernel_rfl) rfl)) (RowIs.cons (at_of_get (hold 17 _ (by kernel_rfl) rfl)) (RowIs.cons (at_of_get (hold 18 _ (by kernel_rfl) rfl)) (RowIs.cons (at_of_get (hold 19 _ (by kernel_rfl) rfl)) (RowIs.cons (at_of_get (hold 20 _ (by kernel_rfl) rfl)) (RowIs.cons (at_of_get (hold 21 _ (by kernel_rfl) rfl)) (RowIs.cons (at_of_get (hold 22 _ (by kernel_rfl) rfl)) (RowIs.cons (at_of_get (hold 23 _ (by kernel_rfl) rfl)) (RowIs.cons (at_of_get (hold 24 _ (by kernel_rfl) rfl)) (RowIs.cons (at_of_get (hold 25 _ (by kernel_rfl) rfl)) (RowIs.cons (at_of_get (hold 26 _ (by kernel_rfl) rfl)) (RowIs.cons (at_of_get (hold 27 _ (by kernel_rfl) rfl)) (RowIs.cons (at_of_get (hold 28 _ (by kernel_rfl) rfl)) (RowIs.cons (at_of_get (hold 29 _ (by kernel_rfl) rfl)) (RowIs.cons (at_of_get (hold 30 _ (by kernel_rfl) rfl)) (RowIs.cons (at_of_get (hold 31 _ (by kernel_rfl) rfl)) (RowIs.cons (at_of_get (hold 32 _ (by kernel_rfl) rfl)) (RowIs.cons (at_of_get (hold 33 _ (by kernel_rfl) rfl)) (RowIs.cons (at_of_get (hold 34 _ (by kernel_rfl) rfl)) (RowIs.cons (at_of_get (hold 35 _ (by kernel_rfl) rfl)) (RowIs.cons (at_of_get (hold 36 _ (by kernel_rfl) rfl)) (RowIs.cons (at_of_get (hold 37 _ (by kernel_rfl) rfl)) (RowIs.cons (at_of_get (hold 38 _ (by kernel_rfl) rfl)) (RowIs.cons (at_of_get (hold 39 _ (by kernel_rfl) rfl)) (RowIs.cons (at_of_get (hold 40 _ (by kernel_rfl) rfl)) (RowIs.cons (at_of_get (hold 41 _ (by kernel_rfl) rfl)) (RowIs.cons (at_of_get (hold 42 _ (by kernel_rfl) rfl)) (RowIs.cons (at_of_get (hold 43 _ (by kernel_rfl) rfl)) (RowIs.cons (at_of_get (hold 44 _ (by kernel_rfl) rfl)) (RowIs.cons (hvals 0 45 rfl) (RowIs.cons (hvals 1 46 rfl) (RowIs.cons (hvals 2 47 rfl) (RowIs.cons (hvals 3 48 rfl) (RowIs.cons (hvals 4 49 rfl) (RowIs.cons (hvals 5 50 rfl) (RowIs.cons (hvals 6 51 rfl) (RowIs.cons (hvals 7 52 rfl) (RowIs.cons (hvals 8 53 rfl) (RowIs.cons (hvals 9 54 rfl) (RowIs.cons (hvals 10 55 rfl) (RowIs.cons (at_of_get (hold 56 _ (by kernel_rfl) rfl)) (RowIs.cons (at_of_get (hold 57 _ (by kernel_rfl) rfl)) (RowIs.cons (at_of_get (hold 58 _ (by kernel_rfl) rfl)) (RowIs.cons (at_of_get (hold 59 _ (by kernel_rfl) rfl)) (RowIs.cons (at_of_get (hold 60 _ (by kernel_rfl) rfl)) (RowIs.cons (at_of_get (hold 61 _ (by kernel_rfl) rfl)) (RowIs.cons (at_of_get (hold 62 _ (by kernel_rfl) rfl)) (RowIs.cons (at_of_get (hold 63 _ (by kernel_rfl) rfl)) (RowIs.cons (at_of_get (hold 64 _ (by kernel_rfl) rfl)) (RowIs.cons (at_of_get (hold 65 _ (by kernel_rfl) rfl)) (RowIs.cons (at_of_get (hold 66 _ (by kernel_rfl) rfl)) (RowIs.cons (at_of_get (hold 67 _ (by kernel_rfl) rfl)) (RowIs.cons (at_of_get (hold 68 _ (by kernel_rfl) rfl)) (RowIs.cons (at_of_get (hold 69 _ (by kernel_rfl) rfl)) (RowIs.cons (at_of_get (hold 70 _ (by kernel_rfl) rfl)) (RowIs.cons (at_of_get (hold 71 _ (by kernel_rfl) rfl)) (RowIs.cons (at_of_get (hold 72 _ (by kernel_rfl) rfl)) (RowIs.cons (at_of_get (hold 73 _ (by kernel_rfl) rfl)) (RowIs.nil _ _))))))))))))))))))))))))))))))))))))))))))))))))))))))))))))))))))))))))))) rfl
            clear hsz hdf hold hvals
            subst ha
            try simp only [List.getElem_toArray, List.getElem_cons_succ, List.getElem_cons_zero]
            obtain ⟨w7, rfl⟩ : ∃ w7, w7 = w' := ⟨_, rfl⟩
            have v7 := hu.trans_nil hS
            have P7 := hP.upd_nil hS
            have hx7 := hxw.upd_nil v7
            clear hS hqc2 hqb2 hu hP
            have hadd := add_walk P7.y.at_ dp (xs.take 200) dc hx7 hxr (by rw [Hnb.out, ← Hml.out]; omega)
            rw [← Hml.out] at hadd
            go_upto_region 15 with (go_at_call 9; refine hadd.mono ?_; rintro e w8 ⟨rfl, u8, hK8⟩)
            have P8 := (P7.swap.add u8 hK8).swap
            have v8 : Upd [] w w8 := v7.trans_nil' u8 (by simp; omega)
            have hx8 : ByAt w8 dp (xs.take 200) := hxw.upd_nil v8
            clear hadd u8 hK8 P7 v7 hx7
            go_wp2_with (at_builtin; refine app_bytes3 rfl _ _ rfl base (.slice p2 nb c2) lb nb Hnb.out rfl P8.b dp mn dc (xs.take 200) rfl Hml.out hx8 (by omega) P8.bs ?_; rintro p9 c9 w9 ho9 hg9 hn9)
            have P9 := (P8.swap.app ho9 hg9 hn9).swap
            have v9 : Upd [] w w9 := v8.grown hg9 (fun k hk => .inr (Nat.le_trans hbase (P8.b.lt k hk).1))
            have hr9 : Rng (lb ++ xs.take 200) := hrb.app hxr
            obtain ⟨n9, hn9'⟩ : ∃ n, nb + mn = n := ⟨_, rfl⟩
            have Hn9 : Hid ((lb ++ xs.take 200).length = n9) := Lib.hid (by rw [List.length_append, Hnb.out, ← Hml.out]; exact hn9')
            have hl9 : n9 ≤ 200 * i + 200 := by omega
            rw [hn9'] at P9 ⊢
            clear ho9 hg9 hn9 hn9' P8 v8 hx8 hxr hxw Hmn Hml
            generalize lb ++ xs.take 200 = l9 at *
            go_wp2_with fail
            exact ⟨hend w9 p1 p9 c1 c9 na n9 la l9 Hna.out Hn9.out hla2 hl9 hra hr9 v9 P9, by simp [intOf]; omega⟩
        · go_wp2_with fail
          exact ⟨hend wo p1 p2 c1 c2 na nb la lb Hna.out Hnb.out hla2 hlb2 hra hrb hu hP, by simp [intOf]; omega⟩
    · go_upto_region 16 with fail
      have hof1 : ∀ W, Upd [] wo W → Calls Tryd.prog 11 #[.slice p1 la.length c1] W fun e w' => e = .returned (.agg (row32 (sha la)).toArray) ∧ Upd [] W w' := fun W u => of_walk W p1 la c1 (hP.a.at_.upd_nil u) hra (by omega)
      have hof2 : ∀ W, Upd [] wo W → Calls Tryd.prog 11 #[.slice p2 lb.length c2] W fun e w' => e = .returned (.agg (row32 (sha lb)).toArray) ∧ Upd [] W w' := fun W u => of_walk W p2 lb c2 (hP.b.at_.upd_nil u) hrb (by omega)
      have htie1 : ∀ W, Upd [] wo W → Calls Tryd.prog 10 #[.pointer (some ⟨k1, 0, none⟩)] W fun e w' => e = .returned (.agg (row32 (sha la)).toArray) ∧ Upd [] W w' := fun W u => tie_end (hP.x.at_.upd_nil u) (by omega)
      have htie2 : ∀ W, Upd [] wo W → Calls Tryd.prog 10 #[.pointer (some ⟨k2, 0, none⟩)] W fun e w' => e = .returned (.agg (row32 (sha lb)).toArray) ∧ Upd [] W w' := fun W u => tie_end (hP.y.at_.upd_nil u) (by omega)
      have heq1 := fun w : World => eq_same w (sha la)
      have heq2 := fun w : World => eq_same w (sha lb)
      generalize sha la = F1 at htie1 hof1 heq1
      generalize sha lb = F2 at htie2 hof2 heq2
      clear hP hla hlb hra hrb
      generalize la.length = na at *
      generalize lb.length = nb at *
      go_wp2_with (first
        | (go_at_call 11; refine (hof2 _ t7).mono ?_; rintro e w8 ⟨rfl, v8⟩; have t8 := t7.trans_nil v8)
        | (go_at_call 10; refine (htie2 _ t6).mono ?_; rintro e w7 ⟨rfl, v7⟩; have t7 := t6.trans_nil v7)
        | (go_at_call 11; refine (hof1 _ v5).mono ?_; rintro e w6 ⟨rfl, v6⟩; have t6 := v5.trans_nil v6)
        | (go_at_call 10; refine (htie1 _ (Upd.refl [] _)).mono ?_; rintro e w5 ⟨rfl, v5⟩))
      go_ret
      exact ⟨rfl, hu.trans_nil t8⟩

end Go.Proofs.YtcfoplnickdekaaDoor
