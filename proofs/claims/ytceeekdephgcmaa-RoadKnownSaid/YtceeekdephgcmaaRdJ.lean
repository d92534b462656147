/- RoadTurns. -/
import Derived.Test.YtceeekdephgcmaaRdI
import Derived.Laws.BitsAllLaws
namespace Go.Proofs.Ytceeekdephgcmaa
open Go.RowKit

theorem xorB_nat (a b : Nat) (ha : a < 256) (hb : b < 256) : xorB a b = ((a ^^^ b : Nat) : Int) := u8_xor_nat a b ha hb
theorem xorB_back (x y : Int) (h1 : 0 ≤ x ∧ x ≤ 255) (h2 : 0 ≤ y ∧ y ≤ 255) : xorB (xorB x y) y = x := by
  obtain ⟨a, rfl⟩ : ∃ a : Nat, x = a := ⟨x.toNat, by omega⟩
  obtain ⟨b, rfl⟩ : ∃ b : Nat, y = b := ⟨y.toNat, by omega⟩
  have hx : a ^^^ b < 2 ^ 8 := Nat.xor_lt_two_pow (by omega) (by omega)
  rw [xorB_nat a b (by omega) (by omega), xorB_nat _ b (by omega) (by omega), Nat.xor_assoc, Nat.xor_self, Nat.xor_zero]
theorem xorB_same (x y : Int) (h1 : 0 ≤ x ∧ x ≤ 255) (h2 : 0 ≤ y ∧ y ≤ 255) : xorB x y = x ↔ y = 0 := by
  obtain ⟨a, rfl⟩ : ∃ a : Nat, x = a := ⟨x.toNat, by omega⟩
  obtain ⟨b, rfl⟩ : ∃ b : Nat, y = b := ⟨y.toNat, by omega⟩
  rw [xorB_nat a b (by omega) (by omega)]
  constructor
  · intro h
    have h' : a ^^^ b = a := by exact_mod_cast h
    have : b = 0 := by
      have h2 : a ^^^ (a ^^^ b) = a ^^^ a := by rw [h']
      rw [← Nat.xor_assoc, Nat.xor_self, Nat.zero_xor] at h2
      exact h2
    exact_mod_cast this
  · intro h
    obtain rfl : b = 0 := by exact_mod_cast h
    rw [Nat.xor_zero]

theorem BytesAt.head {w : World} {p : Option Addr} {n c k : Nat} {xs : List Int} (h : BytesAt w (.slice p n c) xs) (hk : k ≤ xs.length) : BytesAt w (.slice p k c) (xs.take k) := by
  refine ⟨fun x hx => h.1 x (List.mem_of_mem_take hx), ?_⟩
  rcases h.2 with ⟨h1, h2⟩ | ⟨a, c', h1, h2⟩
  · subst h2
    simp at h1 hk
    obtain ⟨rfl, rfl, rfl⟩ := h1
    subst hk
    exact .inl ⟨rfl, rfl⟩
  · simp at h1
    obtain ⟨rfl, rfl, rfl⟩ := h1
    refine .inr ⟨a, c, by rw [List.length_take, Nat.min_eq_left hk], fun i hi => ?_⟩
    rw [List.length_take] at hi
    rw [h2 i (by omega), List.getD_eq_getElem?_getD, List.getD_eq_getElem?_getD, List.getElem?_take, if_pos (by omega)]

set_option maxHeartbeats 2000000 in
set_option maxRecDepth 100000 in
theorem turns_walk (p : Option Addr) (c : Nat) (xs : List Int) (at_ by_ : Int) (w : World) (hb : BytesAt w (.slice p xs.length c) xs) (hm : xs.length ≤ maxLen) (hc : xs.length ≤ c) (a1 : -9223372036854775808 ≤ at_) (a2 : at_ ≤ 9223372036854775807) (b1 : 0 ≤ by_ ∧ by_ ≤ 255) :
    Calls Try.prog 4 #[.slice p xs.length c, .int .i64 at_, .int .u8 by_] w fun e w' => e = .returned (.bool true) ∧ Upd [] w w' := by
  have hm' : xs.length ≤ 9223372036854775807 := hm
  go_enter Try.func4, Try.ntmps4
  go_upto_region 2 with (go_at_call 7; refine (newS w).mono ?_; rintro e w1 ⟨rfl, hS1⟩)
  go_cut [0] (fun s0 wx => ∃ ys : List Int, s0 = .slice p ys.length c ∧ ys.length ≤ 300 ∧ BytesAt w (.slice p ys.length c) ys ∧ Upd [] w1 wx)
  case first =>
    by_cases h3 : 300 ≤ xs.length
    · have hmin : min (xs.length : Int) 300 = 300 := by omega
      have h3c : 300 ≤ c := by omega
      have hl3 : (xs.take 300).length = 300 := by rw [List.length_take]; omega
      go_wp2_with fail
      go_meet
      exact ⟨xs.take 300, by rw [hl3], by omega, by rw [hl3]; exact hb.head h3, Upd.refl _ _⟩
    · have hmin : min (xs.length : Int) 300 = xs.length := by omega
      go_wp2_with fail
      go_meet
      exact ⟨xs, rfl, by omega, hb, Upd.refl _ _⟩
  case rest =>
    obtain ⟨ys, rfl, hy, hby, hu1⟩ := hcut
    have hS1' := hS1.next hu1
    have hu0 := hS1'.upd
    generalize hh : wc = w2 at *
    clear hb hm hm' hc hS1 hu1 hh
    have hbd := hby.1
    have hsc : sendCode 3 ys.length 0 = 0 := by unfold sendCode; rw [if_neg (by omega), if_neg (by omega), if_neg (by omega)]
    go_wp2_with fail
    refine (sendS hS1' 3 false _ ys (hby.frame hu0 (by simp)) (by omega) 0 [(3, false, ys)] hsc (by unfold sendM; rw [if_pos (show sendCode 3 ys.length ([] : List Key).length = 0 from hsc)]; rfl)).mono ?_
    rintro e w3 ⟨rfl, hS3⟩
    by_cases ha : 0 ≤ at_ ∧ at_ < ys.length
    · obtain ⟨j, rfl⟩ : ∃ j : Nat, at_ = j := ⟨at_.toNat, by omega⟩
      have hj : j < ys.length := by omega
      obtain ⟨y, hyj⟩ : ∃ y, ys[j]? = some y := ⟨_, List.getElem?_eq_getElem hj⟩
      have hyb := hbd y (List.mem_of_getElem? hyj)
      have hgd : ys.getD j 0 = y := by rw [List.getD_eq_getElem?_getD, hyj]; rfl
      have ht1 : turnCode [(3, false, ys)] 0 (j : Int) = 0 := by unfold turnCode; rw [if_pos ⟨rfl, by omega, by simpa [seeV, seeIs] using hj⟩]
      have hm1 : turnM [(3, false, ys)] 0 (j : Int) by_ = [(3, false, ys.set j (xorB y by_))] := by
        unfold turnM; rw [if_pos ht1]; simp [turnV, seeV, seeIs, hyj]
      have hset : (ys.set j (xorB y by_)).length = ys.length := by simp
      have ht2 : turnCode [(3, false, ys.set j (xorB y by_))] 0 (j : Int) = 0 := by unfold turnCode; rw [if_pos ⟨rfl, by omega, by simpa [seeV, seeIs] using hj⟩]
      have hm2 : turnM [(3, false, ys.set j (xorB y by_))] 0 (j : Int) by_ = [(3, false, ys)] := by
        unfold turnM; rw [if_pos ht2]
        simp [turnV, seeV, seeIs, hj, xorB_back y by_ hyb b1]
        have : ys[j] = y := by rw [List.getElem?_eq_getElem hj] at hyj; exact Option.some.inj hyj
        rw [← this, List.set_getElem_self]
      have hdec : decide (ys.set j (xorB y by_) = ys) = (by_ == 0) := by
        rw [Bool.eq_iff_iff, decide_eq_true_iff, beq_iff_eq, ← xorB_same y by_ hyb b1]
        have h1 : ys[j] = y := by rw [List.getElem?_eq_getElem hj] at hyj; exact Option.some.inj hyj
        constructor
        · intro h
          have : (ys.set j (xorB y by_))[j]? = ys[j]? := by rw [h]
          rw [hyj, List.getElem?_set_self hj] at this
          exact Option.some.inj this
        · intro h
          rw [h, ← h1, List.set_getElem_self]
      generalize ys.set j (xorB y by_) = zs at hm1 hset ht2 hm2 hdec
      clear hgd hyj
      go_wp2_with fail
      refine (turnS hS3 0 j by_ 0 _ ht1 hm1).mono ?_
      rintro e w4 ⟨rfl, hS4⟩
      go_wp2_with fail
      refine (seeS hS4 0 3 false zs true rfl rfl).mono ?_
      rintro e w5 ⟨⟨dv5, rfl, hob5, hfr5⟩, hS5, hu5⟩
      obtain ⟨p5, c5, rfl⟩ : ∃ p5 c5, dv5 = .slice p5 ys.length c5 := by rw [← hset]; exact hob5.form
      have u6 := (Upd.refl [] w5).alloc (.cells #[.int .i64 3, .bool false, .slice p5 ys.length c5] 33)
      obtain ⟨F4, n4, hK4, hF4, hu4⟩ := hS4
      have hK6 := (hK4.nil hu5).nil u6
      have hlt4 := hK4.lt
      have ho6 := hob5.frame u6 (by simp)
      have hs5 := hu5.size
      go_wp2_with fail
      refine (turnK hK6 0 j by_).mono ?_
      rw [ht2, hm2]
      rintro e w7 ⟨rfl, ⟨F7, hK7, hF7⟩, hu7⟩
      have hS7 : St w w7 w.heap.size [(3, false, ys)] := ⟨F7, n4, hK7, fun k hk => hF4 k (hF7 k hk), ((hu4.trans_nil hu5).trans_nil u6).trans hu7 (fun x hx => .inr (hF4 x hx))⟩
      have ho7 := ho6.frame hu7 (fun k hk hm => by have := hfr5 k hk; have := hlt4 k hm; omega)
      have hB7 := (Blk.new w5 #[.int .i64 3, .bool false, .slice p5 ys.length c5] 33).upd hu7 (fun hm => by have := hlt4 _ hm; omega)
      clear hS5 hK6 hK7 hF7 hu7 ho6 hob5
      go_wp2_with fail
      refine (seeS hS7 0 3 false ys true rfl rfl).mono ?_
      rintro e w8 ⟨⟨dv8, rfl, hob8, hfr8⟩, hS8, hu8⟩
      obtain ⟨p8, c8, rfl⟩ := hob8.form
      have u9 := (Upd.refl [] w8).alloc (.cells #[.int .i64 3, .bool false, .slice p8 ys.length c8] 33)
      have hS9 := hS8.next u9
      have ho9 := hob8.frame u9 (by simp)
      have hp9 := (ho7.frame hu8 (by simp)).frame u9 (by simp)
      have hB9 := (hB7.upd_nil hu8).upd_nil u9
      go_wp2_with fail
      refine (eq_any ho9.at_ (hby.frame hS9.upd (by simp)) (by simp only [maxLen]; omega)).mono ?_
      rw [decide_eq_true (rfl : ys = ys)]
      rintro e w10 ⟨rfl, hu10⟩
      have hB10 := hB9.upd_nil hu10
      have k2 := hB10.cell 2 rfl
      have hp10 := hp9.frame hu10 (by simp)
      have hS10 := hS9.next hu10
      go_wp2_with fail
      refine (eq_any hp10.at_ (hby.frame hS10.upd (by simp)) (by simp only [maxLen]; omega)).mono ?_
      rw [hdec]
      rintro e w11 ⟨rfl, hu11⟩
      go_wp2_with (go_at_call 15; refine (awake_any _).mono ?_; rintro e w12 ⟨rfl, hu12⟩)
      go_ret
      exact ⟨ret_bool (by simp), (hS10.upd.trans_nil hu11).trans_nil hu12⟩
    · have ht1 : turnCode [(3, false, ys)] 0 at_ = 9 := by
        unfold turnCode; rw [if_neg (fun h => ha ⟨h.2.1, by simpa [seeV, seeIs] using h.2.2⟩)]
      have hm1 : turnM [(3, false, ys)] 0 at_ by_ = [(3, false, ys)] := by unfold turnM; rw [if_neg (by rw [ht1]; decide)]
      by_cases ha0 : at_ < 0
      · go_wp2_with fail
        refine (turnS hS3 0 at_ by_ 9 _ ht1 hm1).mono ?_
        rintro e w4 ⟨rfl, hS4⟩
        go_wp2_with fail
        refine (seeS hS4 0 3 false ys true rfl rfl).mono ?_
        rintro e w5 ⟨⟨dv5, rfl, hob5, hfr5⟩, hS5, hu5⟩
        obtain ⟨p5, c5, rfl⟩ := hob5.form
        have u6 := (Upd.refl [] w5).alloc (.cells #[.int .i64 3, .bool false, .slice p5 ys.length c5] 33)
        have hS6 := hS5.next u6
        have ho6 := hob5.frame u6 (by simp)
        go_wp2_with (first
          | (go_at_call 16; refine (eq_any ho6.at_ (hby.frame hS6.upd (by simp)) (by simp only [maxLen]; omega)).mono ?_; rw [decide_eq_true (rfl : ys = ys)]; rintro e w7 ⟨rfl, hu7⟩)
          | (go_at_call 15; refine (awake_any _).mono ?_; rintro e w8 ⟨rfl, hu8⟩))
        go_ret
        exact ⟨rfl, (hS6.upd.trans_nil hu7).trans_nil hu8⟩
      · have ha3 : (ys.length : Int) ≤ at_ := by omega
        go_wp2_with fail
        refine (turnS hS3 0 at_ by_ 9 _ ht1 hm1).mono ?_
        rintro e w4 ⟨rfl, hS4⟩
        go_wp2_with fail
        refine (seeS hS4 0 3 false ys true rfl rfl).mono ?_
        rintro e w5 ⟨⟨dv5, rfl, hob5, hfr5⟩, hS5, hu5⟩
        obtain ⟨p5, c5, rfl⟩ := hob5.form
        have u6 := (Upd.refl [] w5).alloc (.cells #[.int .i64 3, .bool false, .slice p5 ys.length c5] 33)
        have hS6 := hS5.next u6
        have ho6 := hob5.frame u6 (by simp)
        go_wp2_with (first
          | (go_at_call 16; refine (eq_any ho6.at_ (hby.frame hS6.upd (by simp)) (by simp only [maxLen]; omega)).mono ?_; rw [decide_eq_true (rfl : ys = ys)]; rintro e w7 ⟨rfl, hu7⟩)
          | (go_at_call 15; refine (awake_any _).mono ?_; rintro e w8 ⟨rfl, hu8⟩))
        go_ret
        exact ⟨rfl, (hS6.upd.trans_nil hu7).trans_nil hu8⟩

end Go.Proofs.Ytceeekdephgcmaa
