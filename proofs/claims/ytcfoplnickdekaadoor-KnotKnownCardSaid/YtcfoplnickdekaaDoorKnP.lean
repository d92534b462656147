/- KnotPieces: the walk. -/
import Derived.Test.YtcfoplnickdekaaDoorHxC
import Derived.Test.YtcfoplnickdekaaDoorBring
import Derived.Test.YtcfoplnickdekaaDoorOpen
import Derived.Test.YtcfoplnickdekaaDoorKnG
import Derived.Test.YtcfoplnickdekaaDoorReg
namespace Go.Proofs.YtcfoplnickdekaaDoor
open Go.RowKit

set_option maxRecDepth 100000 in
theorem len_walk {w : World} {B kb : Nat} {l : List Int} (hK : KnotAt w B kb l) :
    Calls Tryd.prog 14 #[.pointer (some ⟨kb, 0, none⟩)] w fun e w' => e = .returned (.int .i64 l.length) ∧ w = w' := by
  obtain ⟨hrl, rb, q, d, hk, hrb, hq, hqB, hd⟩ := hK
  have c10 := hk.cell 10 rfl
  go_enter Tryd.func14, Tryd.ntmps14
  go_wp2_with (go_at_call 20; refine (none_no hk).mono ?_; rintro e w1 ⟨rfl, rfl⟩)
  go_ret
  exact ⟨rfl, rfl⟩

theorem ByAt.adv {w : World} {p : Option Addr} {xs : List Int} (h : ByAt w p xs) (k c : Nat) (hc : xs.length ≤ c) : ByAt w (if c = k then p else p.map (·.add (k * 1))) (xs.drop k) := by
  by_cases hk : c = k
  · rw [if_pos hk, List.drop_of_length_le (by omega)]; exact ByAt.nil _ _
  · rw [if_neg hk]
    by_cases h0 : xs.length = 0
    · rw [List.drop_of_length_le (by omega)]; exact ByAt.nil _ _
    · obtain ⟨b, o, rfl⟩ := h.form (by omega)
      have e : Option.map (fun x : Addr => x.add (k * 1)) (some ⟨b, o, none⟩) = some ⟨b, o + k, none⟩ := by
        show some ((⟨b, o, none⟩ : Addr).add (k * 1)) = _
        rw [Nat.mul_one]
        unfold Addr.add
        split <;> simp_all
      rw [e]
      exact h.drop k

set_option maxRecDepth 100000 in
set_option maxHeartbeats 4000000 in
theorem pieces_walk (w : World) (p : Option Addr) (xs : List Int) (c : Nat) (hx : ByAt w p xs) (hr : Rng xs) (hl : xs.length ≤ 9223372036854775807) (hc : xs.length ≤ c)
    (q : Option Addr) (m d : Nat) (hq : IntsAt w w.heap.size q m) (hm : m ≤ 9223372036854775807) (ties : Int)
    (hdb : w.cell? ⟨3, 15, none⟩ = some (.int .u8 4)) :
    Calls Tryd.prog 5 #[.slice p xs.length c, .slice q m d, .int .i64 ties] w fun e w' => e = .returned (.bool true) ∧ Upd [] w w' := by
  go_enter Tryd.func5, Tryd.ntmps5
  go_upto_region 5 with (first
    | (go_at_call 7; refine (works_walk _ hdb).mono ?_; rintro e w1 ⟨rfl, u1⟩)
    | (go_at_call 8; refine (new_walk _).mono ?_; rintro e w2 ⟨kb, rfl, hkb, u2, hK⟩))
  have hmin : (min (xs.length : Int) 2000).toNat = (xs.take 2000).length := by rw [List.length_take]; omega
  have hy : ByAt w p (xs.take 2000) := hx.take 2000
  have hyr : Rng (xs.take 2000) := fun x hx => hr x (List.mem_of_mem_take hx)
  have hyl : (xs.take 2000).length ≤ c := by rw [List.length_take]; omega
  have hyl2 : (xs.take 2000).length ≤ 2000 := by rw [List.length_take]; omega
  rw [hmin]
  have u2' := u1.trans_nil u2
  have s1 := u1.size
  have hkw : w.heap.size ≤ kb := by omega
  have hK0 := hK 0
  clear hmin hx hr hK u1 u2
  generalize xs.take 2000 = ys at *
  go_wp2_with fail
  go_loopw [8, 9] (fun av iv wr => ∃ a i : Nat, a ≤ ys.length ∧ i ≤ 30 ∧ av = .int .i64 a ∧ iv = .int .i64 i ∧ Upd [] w wr ∧ ∃ B, KnotAt wr B kb (ys.take a)) (fun _ iv _ => 30 - (intOf iv).toNat)
  case atStart => exact ⟨0, 0, by omega, by omega, rfl, rfl, u2', 0, hK0⟩
  case round =>
    clear hK0 u2'
    obtain ⟨a, i, ha, hi, rfl, rfl, hu, B, hK⟩ := hrel
    obtain ⟨wo, rfl⟩ : ∃ wo, wo = wr := ⟨_, rfl⟩
    by_cases hgo : i < m ∧ i < 30
    · obtain ⟨hgo1, hgo2⟩ := hgo
      obtain ⟨qb, qo, z, rfl, hqb, hqc, hz1, hz2⟩ := hq i hgo1
      have hqc2 : wo.cell? ⟨qb, qo + i, none⟩ = some (.int .i64 z) := (hu.cell (a := ⟨qb, qo + i, none⟩) hqb (by simp)).trans hqc
      have hbr := bring_any z ((ys.length : Int) - a + 1) wo (by omega) (by omega) hz1 hz2
      obtain ⟨n, hn, hn2⟩ : ∃ n : Nat, z % ((ys.length : Int) - a + 1) = n ∧ n ≤ ys.length - a := by
        obtain ⟨h1, h2⟩ := bring_bd z ((ys.length : Int) - a + 1) (by omega)
        exact ⟨(z % ((ys.length : Int) - a + 1)).toNat, by omega, by omega⟩
      rw [hn] at hbr
      clear hn hqc
      go_upto_region 10 with (go_at_call 16; refine hbr.mono ?_; rintro e w3 ⟨rfl, rfl⟩)
      have hyw : ByAt wo p (ys.take (a + n)) := (hy.upd_nil hu).take (a + n)
      have hzl : ((ys.take (a + n)).drop a).length = n := by rw [List.length_drop, List.length_take]; omega
      have hadv := hyw.adv a c (by rw [List.length_take]; omega)
      rw [Nat.mul_one] at hadv
      have hadd := add_walk hK (if c = a then p else p.map (·.add a)) ((ys.take (a + n)).drop a) (c - a) hadv (fun x hx => hyr x (List.mem_of_mem_take (List.mem_of_mem_drop hx))) (by rw [List.length_take, hzl]; omega)
      rw [hzl, show ys.take a ++ (ys.take (a + n)).drop a = ys.take (a + n) from by
        have := List.take_append_drop a (ys.take (a + n))
        rw [List.take_take, show min a (a + n) = a by omega] at this
        exact this] at hadd
      clear hyw hzl hK hbr hadv
      generalize hp' : (if c = a then p else p.map (·.add a)) = p' at hadd
      go_upto_region 11 with (go_at_call 9; refine hadd.mono ?_; rintro e w4 ⟨rfl, u4, hK4⟩)
      clear hp' hadd
      have hu4 : Upd [] w w4 := hu.trans u4 (fun b hb => .inr (Nat.le_trans hkw (Nat.le_of_eq (List.mem_singleton.1 hb).symm)))
      have hy4 : ByAt w4 p (ys.take (a + n)) := (hy.upd_nil hu4).take (a + n)
      have hyl4 : (ys.take (a + n)).length = a + n := by rw [List.length_take]; omega
      have htie : ∀ W, Upd [] w4 W → Calls Tryd.prog 10 #[.pointer (some ⟨kb, 0, none⟩)] W fun e w' => e = .returned (.agg (row32 (sha (ys.take (a + n)))).toArray) ∧ Upd [] W w' := fun W u => tie_end (hK4.upd_nil u) (by omega)
      have hof : ∀ W, Upd [] w4 W → Calls Tryd.prog 11 #[.slice p (a + n) c] W fun e w' => e = .returned (.agg (row32 (sha (ys.take (a + n)))).toArray) ∧ Upd [] W w' := fun W u => by
        have := of_walk W p (ys.take (a + n)) c (hy4.upd_nil u) (fun x hx => hyr x (List.mem_of_mem_take hx)) (by omega)
        rw [hyl4] at this
        exact this
      have hlen : ∀ W, Upd [] w4 W → Calls Tryd.prog 14 #[.pointer (some ⟨kb, 0, none⟩)] W fun e w' => e = .returned (.int .i64 ((a : Int) + (n : Int))) ∧ Upd [] W w' := fun W u => by
        have := len_walk (hK4.upd_nil u)
        rw [hyl4, Int.natCast_add] at this
        exact this.mono fun e w' ⟨h1, h2⟩ => ⟨h1, h2 ▸ Upd.refl [] _⟩
      generalize sha (ys.take (a + n)) = F at htie hof
      obtain ⟨bv, Hbv⟩ : ∃ bv, Hid (bits BinOp.and IntKind.i64 (ties / 2 ^ i) 1 = bv) := ⟨_, Lib.hid rfl⟩
      obtain ⟨tb, Htb⟩ : ∃ tb, Hid ((bv == 1) = tb) := ⟨_, Lib.hid rfl⟩
      clear hyl4 hy4
      go_upto_region 12 with fail
      have hcast : (a : Int) + (n : Int) = ((a + n : Nat) : Int) := (Int.natCast_add a n).symm
      rw [hcast]
      rw [hcast] at hlen
      clear hcast
      obtain ⟨ge, he⟩ : ∃ ge, a + n = ge := ⟨_, rfl⟩
      have hge : ge ≤ ys.length := by omega
      have hgc : ge ≤ c := by omega
      rw [he] at hof hlen hK4 ⊢
      have He := Lib.hid he
      clear he
      refine wp_region_spec [(.eq (.int .i64 ties)), (.eq (.int .i64 (i : Int))), (.eq (.int .i64 (ties / 2 ^ i))), (.eq (.int .i64 bv)), (.eq (.bool tb)), (.eq (.bool tb)), (.wh (tb) (.pointer (some ⟨kb, 0, none⟩))), (.wh (tb) (.agg (row32 F).toArray)), (.wh (tb) (.slice p ys.length c)), (.wh (tb) (.int .i64 (ge : Int))), (.wh (tb) (.slice p ge c)), (.wh (tb) (.agg (row32 F).toArray)), (.wh (tb) (.bool false)), (.eq (.bool false)), (.eq (.bool false)), (.eq (.pointer (some ⟨kb, 0, none⟩))), (.eq (.int .i64 (ge : Int))), (.eq (.int .i64 (ge : Int))), (.eq (.bool false)), (.eq (.bool false))] (by kernel_rfl) (by kernel_rfl) rfl ?step ?fin
      case step =>
        intro i o ho a w' hS hold hneed K' hK
        match i, ho with
        | 0, ho =>
          obtain rfl := Option.some.inj ho
          have d2 := hold 2 _ (by kernel_rfl) rfl
          clear hold hneed ho
          (go_simp; (first | exact hK _ _ rfl (Upd.refl [] _) | exact hK _ _ (fun h => Bool.noConfusion h) (Upd.refl [] _) | exact hK _ _ (fun _ => rfl) (Upd.refl [] _)))
        | 1, ho =>
          obtain rfl := Option.some.inj ho
          have d9 := hold 9 _ (by kernel_rfl) rfl
          clear hold hneed ho
          (go_simp; (first | exact hK _ _ rfl (Upd.refl [] _) | exact hK _ _ (fun h => Bool.noConfusion h) (Upd.refl [] _) | exact hK _ _ (fun _ => rfl) (Upd.refl [] _)))
        | 2, ho =>
          obtain rfl := Option.some.inj ho
          have d50 := get_of_at (hneed 0 (of_decide_eq_true (by kernel_rfl)) 50 rfl) (by simp [undef])
          have d51 := get_of_at (hneed 1 (of_decide_eq_true (by kernel_rfl)) 51 rfl) (by simp [undef])
          clear hold hneed ho
          (go_simp; (first | exact hK _ _ rfl (Upd.refl [] _) | exact hK _ _ (fun h => Bool.noConfusion h) (Upd.refl [] _) | exact hK _ _ (fun _ => rfl) (Upd.refl [] _)))
        | 3, ho =>
          obtain rfl := Option.some.inj ho
          have d52 := get_of_at (hneed 2 (of_decide_eq_true (by kernel_rfl)) 52 rfl) (by simp [undef])
          clear hold hneed ho
          (go_simp; rw [Hbv.out]; exact hK _ _ rfl (Upd.refl [] _))
        | 4, ho =>
          obtain rfl := Option.some.inj ho
          have d53 := get_of_at (hneed 3 (of_decide_eq_true (by kernel_rfl)) 53 rfl) (by simp [undef])
          clear hold hneed ho
          (go_simp; rw [Htb.out]; exact hK _ _ rfl (Upd.refl [] _))
        | 5, ho =>
          obtain rfl := Option.some.inj ho
          have d54 := get_of_at (hneed 4 (of_decide_eq_true (by kernel_rfl)) 54 rfl) (by simp [undef])
          clear hold hneed ho
          (go_simp; (first | exact hK _ _ rfl (Upd.refl [] _) | exact hK _ _ (fun h => Bool.noConfusion h) (Upd.refl [] _) | exact hK _ _ (fun _ => rfl) (Upd.refl [] _)))
        | 6, ho =>
          obtain rfl := Option.some.inj ho
          have d7 := hold 7 _ (by kernel_rfl) rfl
          have d55 := get_of_at (hneed 5 (of_decide_eq_true (by kernel_rfl)) 55 rfl) (by simp [undef])
          clear hold hneed ho
          (cases tb <;> (go_simp; (first | exact hK _ _ rfl (Upd.refl [] _) | exact hK _ _ (fun h => Bool.noConfusion h) (Upd.refl [] _) | exact hK _ _ (fun _ => rfl) (Upd.refl [] _))))
        | 7, ho =>
          obtain rfl := Option.some.inj ho
          have d56 := fun h => get_of_at (hneed 6 (of_decide_eq_true (by kernel_rfl)) 56 rfl h) (by simp [undef])
          have d55 := get_of_at (hneed 5 (of_decide_eq_true (by kernel_rfl)) 55 rfl) (by simp [undef])
          clear hold hneed ho
          (cases tb <;> (try replace d56 := d56 rfl) <;> (go_simp; first | exact hK _ _ (fun h => Bool.noConfusion h) (Upd.refl [] _) | (refine (htie _ hS).mono ?_; rintro e w9 ⟨rfl, hu9⟩; exact hK _ _ (fun _ => rfl) hu9)))
        | 8, ho =>
          obtain rfl := Option.some.inj ho
          have d0 := hold 0 _ (by kernel_rfl) rfl
          have d55 := get_of_at (hneed 5 (of_decide_eq_true (by kernel_rfl)) 55 rfl) (by simp [undef])
          clear hold hneed ho
          (cases tb <;> (go_simp; (first | exact hK _ _ rfl (Upd.refl [] _) | exact hK _ _ (fun h => Bool.noConfusion h) (Upd.refl [] _) | exact hK _ _ (fun _ => rfl) (Upd.refl [] _))))
        | 9, ho =>
          obtain rfl := Option.some.inj ho
          have d8 := hold 8 _ (by kernel_rfl) rfl
          have d55 := get_of_at (hneed 5 (of_decide_eq_true (by kernel_rfl)) 55 rfl) (by simp [undef])
          clear hold hneed ho
          (cases tb <;> (go_simp; (first | exact hK _ _ rfl (Upd.refl [] _) | exact hK _ _ (fun h => Bool.noConfusion h) (Upd.refl [] _) | exact hK _ _ (fun _ => rfl) (Upd.refl [] _))))
        | 10, ho =>
          obtain rfl := Option.some.inj ho
          have d58 := fun h => get_of_at (hneed 8 (of_decide_eq_true (by kernel_rfl)) 58 rfl h) (by simp [undef])
          have d59 := fun h => get_of_at (hneed 9 (of_decide_eq_true (by kernel_rfl)) 59 rfl h) (by simp [undef])
          have d55 := get_of_at (hneed 5 (of_decide_eq_true (by kernel_rfl)) 55 rfl) (by simp [undef])
          clear hold hneed ho
          (cases tb <;> (try replace d58 := d58 rfl) <;> (try replace d59 := d59 rfl) <;> (go_simp; (first | exact hK _ _ rfl (Upd.refl [] _) | exact hK _ _ (fun h => Bool.noConfusion h) (Upd.refl [] _) | exact hK _ _ (fun _ => rfl) (Upd.refl [] _))))
        | 11, ho =>
          obtain rfl := Option.some.inj ho
          have d60 := fun h => get_of_at (hneed 10 (of_decide_eq_true (by kernel_rfl)) 60 rfl h) (by simp [undef])
          have d55 := get_of_at (hneed 5 (of_decide_eq_true (by kernel_rfl)) 55 rfl) (by simp [undef])
          clear hold hneed ho
          (cases tb <;> (try replace d60 := d60 rfl) <;> (go_simp; first | exact hK _ _ (fun h => Bool.noConfusion h) (Upd.refl [] _) | (refine (hof _ hS).mono ?_; rintro e w9 ⟨rfl, hu9⟩; exact hK _ _ (fun _ => rfl) hu9)))
        | 12, ho =>
          obtain rfl := Option.some.inj ho
          have d57 := fun h => get_of_at (hneed 7 (of_decide_eq_true (by kernel_rfl)) 57 rfl h) (by simp [undef])
          have d61 := fun h => get_of_at (hneed 11 (of_decide_eq_true (by kernel_rfl)) 61 rfl h) (by simp [undef])
          have d55 := get_of_at (hneed 5 (of_decide_eq_true (by kernel_rfl)) 55 rfl) (by simp [undef])
          clear hold hneed ho
          (cases tb <;> (try replace d57 := d57 rfl) <;> (try replace d61 := d61 rfl) <;> (go_simp; first | exact hK _ _ (fun h => Bool.noConfusion h) (Upd.refl [] _) | (rw [eq_same]; go_simp; exact hK _ _ (fun _ => rfl) (Upd.refl [] _))))
        | 13, ho =>
          obtain rfl := Option.some.inj ho
          have d55 := get_of_at (hneed 5 (of_decide_eq_true (by kernel_rfl)) 55 rfl) (by simp [undef])
          have d62 := fun h => get_of_at (hneed 12 (of_decide_eq_true (by kernel_rfl)) 62 rfl h) (by simp [undef])
          clear hold hneed ho
          (cases tb <;> (try replace d62 := d62 rfl) <;> (go_simp; (first | exact hK _ _ rfl (Upd.refl [] _) | exact hK _ _ (fun h => Bool.noConfusion h) (Upd.refl [] _) | exact hK _ _ (fun _ => rfl) (Upd.refl [] _))))
        | 14, ho =>
          obtain rfl := Option.some.inj ho
          have d63 := get_of_at (hneed 13 (of_decide_eq_true (by kernel_rfl)) 63 rfl) (by simp [undef])
          clear hold hneed ho
          (go_simp; (first | exact hK _ _ rfl (Upd.refl [] _) | exact hK _ _ (fun h => Bool.noConfusion h) (Upd.refl [] _) | exact hK _ _ (fun _ => rfl) (Upd.refl [] _)))
        | 15, ho =>
          obtain rfl := Option.some.inj ho
          have d7 := hold 7 _ (by kernel_rfl) rfl
          have d64 := get_of_at (hneed 14 (of_decide_eq_true (by kernel_rfl)) 64 rfl) (by simp [undef])
          clear hold hneed ho
          (go_simp; (first | exact hK _ _ rfl (Upd.refl [] _) | exact hK _ _ (fun h => Bool.noConfusion h) (Upd.refl [] _) | exact hK _ _ (fun _ => rfl) (Upd.refl [] _)))
        | 16, ho =>
          obtain rfl := Option.some.inj ho
          have d65 := get_of_at (hneed 15 (of_decide_eq_true (by kernel_rfl)) 65 rfl) (by simp [undef])
          have d64 := get_of_at (hneed 14 (of_decide_eq_true (by kernel_rfl)) 64 rfl) (by simp [undef])
          clear hold hneed ho
          (go_simp; refine (hlen _ hS).mono ?_; rintro e w9 ⟨rfl, hu9⟩; exact hK _ _ rfl hu9)
        | 17, ho =>
          obtain rfl := Option.some.inj ho
          have d8 := hold 8 _ (by kernel_rfl) rfl
          have d64 := get_of_at (hneed 14 (of_decide_eq_true (by kernel_rfl)) 64 rfl) (by simp [undef])
          clear hold hneed ho
          (go_simp; (first | exact hK _ _ rfl (Upd.refl [] _) | exact hK _ _ (fun h => Bool.noConfusion h) (Upd.refl [] _) | exact hK _ _ (fun _ => rfl) (Upd.refl [] _)))
        | 18, ho =>
          obtain rfl := Option.some.inj ho
          have d66 := get_of_at (hneed 16 (of_decide_eq_true (by kernel_rfl)) 66 rfl) (by simp [undef])
          have d67 := get_of_at (hneed 17 (of_decide_eq_true (by kernel_rfl)) 67 rfl) (by simp [undef])
          have d64 := get_of_at (hneed 14 (of_decide_eq_true (by kernel_rfl)) 64 rfl) (by simp [undef])
          clear hold hneed ho
          (go_simp; (first | exact hK _ _ rfl (Upd.refl [] _) | exact hK _ _ (fun h => Bool.noConfusion h) (Upd.refl [] _) | exact hK _ _ (fun _ => rfl) (Upd.refl [] _)))
        | 19, ho =>
          obtain rfl := Option.some.inj ho
          have d64 := get_of_at (hneed 14 (of_decide_eq_true (by kernel_rfl)) 64 rfl) (by simp [undef])
          have d68 := get_of_at (hneed 18 (of_decide_eq_true (by kernel_rfl)) 68 rfl) (by simp [undef])
          clear hold hneed ho
          (go_simp; (first | exact hK _ _ rfl (Upd.refl [] _) | exact hK _ _ (fun h => Bool.noConfusion h) (Upd.refl [] _) | exact hK _ _ (fun _ => rfl) (Upd.refl [] _)))
        | _ + 20, ho => exact absurd ho (by simp)
      case fin =>
        intro a w' hS hsz hdf hold hvals
        obtain ⟨v56, hv56⟩ : ∃ v, at_ a 56 = v := ⟨_, rfl⟩
        obtain ⟨v57, hv57⟩ : ∃ v, at_ a 57 = v := ⟨_, rfl⟩
        obtain ⟨v58, hv58⟩ : ∃ v, at_ a 58 = v := ⟨_, rfl⟩
        obtain ⟨v59, hv59⟩ : ∃ v, at_ a 59 = v := ⟨_, rfl⟩
        obtain ⟨v60, hv60⟩ : ∃ v, at_ a 60 = v := ⟨_, rfl⟩
        obtain ⟨v61, hv61⟩ : ∃ v, at_ a 61 = v := ⟨_, rfl⟩
        obtain ⟨v62, hv62⟩ : ∃ v, at_ a 62 = v := ⟨_, rfl⟩
        have ha := act_lit hsz hdf (RowIs.cons (at_of_get (hold 0 _ (by kernel_rfl) rfl)) (RowIs.cons (at_of_get (hold 1 _ (by kernel_rfl) rfl)) (RowIs.cons (at_of_get (hold 2 _ (by kernel_rfl) rfl)) (RowIs.cons (at_of_get (hold 3 _ (by kernel_rfl) rfl)) (RowIs.cons (at_of_get (hold 4 _ (by kernel_rfl) rfl)) (RowIs.cons (at_of_get (hold 5 _ (by kernel_rfl) rfl)) (RowIs.cons (at_of_get (hold 6 _ (by kernel_rfl) rfl)) (RowIs.cons (at_of_get (hold 7 _ (by kernel_rfl) rfl)) (RowIs.cons (at_of_get (hold 8 _ (by kernel_rfl) rfl)) (RowIs.cons (at_of_get (hold 9 _ (by kernel_rfl) rfl)) (RowIs.cons (at_of_get (hold 10 _ (by kernel_rfl) rfl)) (RowIs.cons (at_of_get (hold 11 _ (by kernel_rfl) rfl)) (RowIs.cons (at_of_get (hold 12 _ (by kernel_rfl) rfl)) (RowIs.cons (at_of_get (hold 13 _ (by kernel_rfl) rfl)) (RowIs.cons (at_of_get (hold 14 _ (by kernel_rfl) rfl)) (RowIs.cons (at_of_get (hold 15 _ (by kernel_rfl) rfl)) (RowIs.cons (at_of_get (hold 16 _ (by kernel_rfl) rfl)) (RowIs.cons (at_of_get (hold 17 _ (by kernel_rfl) rfl)) (RowIs.cons (at_of_get (hold 18 _ (by kernel_rfl) rfl)) (RowIs.cons (at_of_get (hold 19 _ (by kernel_rfl) rfl)) (RowIs.cons (at_of_get (hold 20 _ (by kernel_rfl) rfl)) (RowIs.cons (at_of_get (hold 21 _ (by kernel_rfl) rfl)) (RowIs.cons (at_of_get (hold 22 _ (by kernel_rfl) rfl)) (RowIs.cons (at_of_get (hold 23 _ (by kernel_rfl) rfl)) (RowIs.cons (at_of_get (hold 24 _ (by kernel_rfl) rfl)) (RowIs.cons (at_of_get (hold 25 _ (by kernel_rfl) rfl)) (RowIs.cons (at_of_get (hold 26 _ (by kernel_rfl) rfl)) (RowIs.cons (at_of_get (hold 27 _ (by kernel_rfl) rfl)) (RowIs.cons (at_of_get (hold 28 _ (by kernel_rfl) rfl)) (RowIs.cons (at_of_get (hold 29 _ (by kernel_rfl) rfl)) (RowIs.cons (at_of_get (hold 30 _ (by kernel_rfl) rfl)) (RowIs.cons (at_of_get (hold 31 _ (by kernel_rfl) rfl)) (RowIs.cons (at_of_get (hold 32 _ (by kernel_rfl) rfl)) (RowIs.cons (at_of_get (hold 33 _ (by kernel_rfl) rfl)) (RowIs.cons (at_of_get (hold 34 _ (by kernel_rfl) rfl)) (RowIs.cons (at_of_get (hold 35 _ (by kernel_rfl) rfl)) (RowIs.cons (at_of_get (hold 36 _ (by kernel_rfl) rfl)) (RowIs.cons (at_of_get (hold 37 _ (by kernel_rfl) rfl)) (RowIs.cons (at_of_get (hold 38 _ (by kernel_rfl) rfl)) (RowIs.cons (at_of_get (hold 39 _ (by kernel_rfl) rfl)) (RowIs.cons (at_of_get (hold 40 _ (by kernel_rfl) rfl)) (RowIs.cons (at_of_get (hold 41 _ (by kernel_rfl) rfl)) (RowIs.cons (at_of_get (hold 42 _ (by kernel_rfl) rfl)) (RowIs.cons (at_of_get (hold 43 _ (by kernel_rfl) rfl)) (RowIs.cons (at_of_get (hold 44 _ (by kernel_rfl) rfl)) (RowIs.cons (at_of_get (hold 45 _ (by kernel_rfl) rfl)) (RowIs.cons (at_of_get (hold 46 _ (by kernel_rfl) rfl)) (RowIs.cons (at_of_get (hold 47 _ (by kernel_rfl) rfl)) (RowIs.cons (at_of_get (hold 48 _ (by kernel_rfl) rfl)) (RowIs.cons (at_of_get (hold 49 _ (by kernel_rfl) rfl)) (RowIs.cons (hvals 0 50 rfl) (RowIs.cons (hvals 1 51 rfl) (RowIs.cons (hvals 2 52 rfl) (RowIs.cons (hvals 3 53 rfl) (RowIs.cons (hvals 4 54 rfl) (RowIs.cons (hvals 5 55 rfl) (RowIs.cons hv56 (RowIs.cons hv57 (RowIs.cons hv58 (RowIs.cons hv59 (RowIs.cons hv60 (RowIs.cons hv61 (RowIs.cons hv62 (RowIs.cons (hvals 13 63 rfl) (RowIs.cons (hvals 14 64 rfl) (RowIs.cons (hvals 15 65 rfl) (RowIs.cons (hvals 16 66 rfl) (RowIs.cons (hvals 17 67 rfl) (RowIs.cons (hvals 18 68 rfl) (RowIs.cons (hvals 19 69 rfl) (RowIs.cons (at_of_get (hold 70 _ (by kernel_rfl) rfl)) (RowIs.cons (at_of_get (hold 71 _ (by kernel_rfl) rfl)) (RowIs.cons (at_of_get (hold 72 _ (by kernel_rfl) rfl)) (RowIs.cons (at_of_get (hold 73 _ (by kernel_rfl) rfl)) (RowIs.cons (at_of_get (hold 74 _ (by kernel_rfl) rfl)) (RowIs.cons (at_of_get (hold 75 _ (by kernel_rfl) rfl)) (RowIs.cons (at_of_get (hold 76 _ (by kernel_rfl) rfl)) (RowIs.cons (at_of_get (hold 77 _ (by kernel_rfl) rfl)) (RowIs.cons (at_of_get (hold 78 _ (by kernel_rfl) rfl)) (RowIs.cons (at_of_get (hold 79 _ (by kernel_rfl) rfl)) (RowIs.cons (at_of_get (hold 80 _ (by kernel_rfl) rfl)) (RowIs.cons (at_of_get (hold 81 _ (by kernel_rfl) rfl)) (RowIs.cons (at_of_get (hold 82 _ (by kernel_rfl) rfl)) (RowIs.cons (at_of_get (hold 83 _ (by kernel_rfl) rfl)) (RowIs.cons (at_of_get (hold 84 _ (by kernel_rfl) rfl)) (RowIs.cons (at_of_get (hold 85 _ (by kernel_rfl) rfl)) (RowIs.cons (at_of_get (hold 86 _ (by kernel_rfl) rfl)) (RowIs.cons (at_of_get (hold 87 _ (by kernel_rfl) rfl)) (RowIs.cons (at_of_get (hold 88 _ (by kernel_rfl) rfl)) (RowIs.cons (at_of_get (hold 89 _ (by kernel_rfl) rfl)) (RowIs.cons (at_of_get (hold 90 _ (by kernel_rfl) rfl)) (RowIs.cons (at_of_get (hold 91 _ (by kernel_rfl) rfl)) (RowIs.cons (at_of_get (hold 92 _ (by kernel_rfl) rfl)) (RowIs.cons (at_of_get (hold 93 _ (by kernel_rfl) rfl)) (RowIs.nil _ _))))))))))))))))))))))))))))))))))))))))))))))))))))))))))))))))))))))))))))))))))))))))))))))) rfl
        clear hsz hdf hold hvals
        subst ha
        try simp only [List.getElem_toArray, List.getElem_cons_succ, List.getElem_cons_zero]
        go_wp2_with fail
        exact ⟨⟨ge, i + 1, hge, by omega, rfl, by go_num, hu4.trans_nil hS, _, hK4.upd_nil hS⟩, by simp [intOf]; omega⟩
    · have hadv := (hy.upd_nil hu).adv a c (by omega)
      rw [Nat.mul_one] at hadv
      have hadd := add_walk hK (if c = a then p else p.map (·.add a)) (ys.drop a) (c - a) hadv (fun x hx => hyr x (List.mem_of_mem_drop hx)) (by rw [List.length_take, List.length_drop]; omega)
      rw [List.take_append_drop, List.length_drop] at hadd
      clear hadv hK
      have hlit := eq_same
      rcases Nat.lt_or_ge i m with h1 | h1
      all_goals (
        have h2 : i < m → 30 ≤ i := fun h => by omega
        try have h3 := h2 h1
        clear h2 hgo
        generalize hp' : (if c = a then p else p.map (·.add a)) = p' at hadd
        go_upto_region 15 with (go_at_call 9; refine hadd.mono ?_; rintro e w4 ⟨rfl, u4, hK4⟩)
        clear hp' hadd
        have hu4 : Upd [] w w4 := hu.trans u4 (fun b hb => .inr (Nat.le_trans hkw (Nat.le_of_eq (List.mem_singleton.1 hb).symm)))
        have hy4 : ByAt w4 p ys := hy.upd_nil hu4
        have htie : ∀ W, Upd [] w4 W → Calls Tryd.prog 10 #[.pointer (some ⟨kb, 0, none⟩)] W fun e w' => e = .returned (.agg (row32 (sha ys)).toArray) ∧ Upd [] W w' := fun W u => tie_end (hK4.upd_nil u) (by omega)
        have hof : ∀ W, Upd [] w4 W → Calls Tryd.prog 11 #[.slice p ys.length c] W fun e w' => e = .returned (.agg (row32 (sha ys)).toArray) ∧ Upd [] W w' := fun W u => of_walk W p ys c (hy4.upd_nil u) hyr (by omega)
        have hlen : ∀ W, Upd [] w4 W → Calls Tryd.prog 14 #[.pointer (some ⟨kb, 0, none⟩)] W fun e w' => e = .returned (.int .i64 (ys.length : Int)) ∧ Upd [] W w' := fun W u =>
          (len_walk (hK4.upd_nil u)).mono fun e w' ⟨h1, h2⟩ => ⟨h1, h2 ▸ Upd.refl [] _⟩
        have heq := fun w : World => eq_same w (sha ys)
        generalize sha ys = F at htie hof heq
        clear hlit hy4 hK4 u4
        go_wp2_with (first
          | (go_at_call 10; refine (htie _ (Upd.refl [] _)).mono ?_; rintro e w5 ⟨rfl, v5⟩)
          | (go_at_call 11; refine (hof _ v5).mono ?_; rintro e w6 ⟨rfl, v6⟩; have t6 := v5.trans_nil v6)
          | (go_at_call 10; refine (htie _ t6).mono ?_; rintro e w7 ⟨rfl, v7⟩; have t7 := t6.trans_nil v7)
          | (go_at_call 11; refine (hof _ t7).mono ?_; rintro e w8 ⟨rfl, v8⟩; have t8 := t7.trans_nil v8)
          | (go_at_call 14; refine (hlen _ t8).mono ?_; rintro e w9 ⟨rfl, v9⟩; have t9 := t8.trans_nil v9))
        go_ret
        exact ⟨rfl, hu4.trans_nil t9⟩)

end Go.Proofs.YtcfoplnickdekaaDoor
