/- AgentAlone: its walk. -/
import Derived.Test.YtpgilkemcaipiaaAgC
import Derived.Test.YtpgilkemcaipiaaAgP
import Derived.Test.YtpgilkemcaipiaaBring
import Derived.Deep.DeepCutAuto
namespace Go.Proofs.Ytpgilkemcaipiaa
open Go.RowKit

def codeOf (m : Bool) : Int := if m then 0 else 2
def stepSt (st : Nat → Win) (a s : Int) : Nat → Win := if mayB a s then setW st a.toNat (doneV (st a.toNat) a s) else st
def askV (st : Nat → Win) (a s : Int) : Int := if mayB a s then whatI (st a.toNat).H (st a.toNat).B s else 0

theorem may_bd {a s : Int} (h : mayB a s = true) : 1 ≤ a ∧ a ≤ 16 ∧ 1 ≤ s ∧ s ≤ 9007199254740991 := by
  unfold mayB at h; simpa using h

theorem stepSt_ok {st : Nat → Win} (h : ∀ i, WinOk (st i)) (a s : Int) : ∀ i, WinOk (stepSt st a s i) := by
  unfold stepSt
  cases hm : mayB a s
  · simpa using h
  · obtain ⟨h1, h2, h3, h4⟩ := may_bd hm
    simp only [if_true]
    exact setW_ok h _ (doneV_ok _ (h _) _ _ h3 h4)

theorem done_all {t bw : Nat} {st : Nat → Win} {n : Int} {w : World} (h : TabAt w t bw st n) (a s : Int) (hH : ∀ i, WinOk (st i)) :
    Calls Try.prog 11 #[.pointer (some ⟨t, 0, none⟩), .int .i64 a, .int .i64 s] w fun e w' =>
      e = .returned (.int .i64 (codeOf (mayB a s))) ∧ TabAt w' t bw (stepSt st a s) n ∧ Upd [bw] w w' := by
  unfold stepSt codeOf
  cases hm : mayB a s
  · refine (done_err h a s hm).mono fun e w' ⟨h1, h2⟩ => ?_
    subst h2
    exact ⟨h1, h, Upd.refl _ _⟩
  · obtain ⟨h1, h2, h3, h4⟩ := may_bd hm
    exact done_any h a s h1 h2 h3 h4 hH

theorem ask_all {t bw : Nat} {st : Nat → Win} {n : Int} {w : World} (h : TabAt w t bw st n) (a s : Int) (hH : ∀ i, WinOk (st i)) :
    Calls Try.prog 10 #[.pointer (some ⟨t, 0, none⟩), .int .i64 a, .int .i64 s] w fun e w' =>
      e = .returned (.tuple #[.int .i64 (askV st a s), .int .i64 (codeOf (mayB a s))]) ∧ (∃ n', TabAt w' t bw st n') ∧ Upd [t] w w' := by
  unfold askV codeOf
  cases hm : mayB a s
  · refine (ask_err h a s hm).mono fun e w' ⟨h1, h2⟩ => ?_
    subst h2
    exact ⟨h1, ⟨n, h⟩, Upd.refl _ _⟩
  · obtain ⟨h1, h2, h3, h4⟩ := may_bd hm
    exact (ask_any h a s h1 h2 h3 h4 hH).mono fun e w' ⟨h1, h2, h3⟩ => ⟨h1, ⟨_, h2⟩, h3⟩

theorem stepSt_at {st : Nat → Win} (a s : Int) (i : Nat) (h : mayB a s = false ∨ i ≠ a.toNat) : stepSt st a s i = st i := by
  unfold stepSt setW
  rcases h with h | h
  · simp [h]
  · split
    · simp [h]
    · rfl

theorem stepSt_same {st su : Nat → Win} (a s : Int) (i : Nat) (h : st i = su i) (ha : i = a.toNat) : stepSt st a s i = stepSt su a s i := by
  subst ha
  unfold stepSt setW
  split
  · simp [h]
  · exact h

set_option maxHeartbeats 1000000 in
set_option maxRecDepth 100000 in
theorem alone_walk (p : Option Addr) (len cap : Nat) (which : Int) (w : World) (hl : Ints3 w w.heap.size p len) (hlen : len ≤ maxLen) (hw1 : -9223372036854775808 ≤ which) (hw2 : which ≤ 9223372036854775807) :
    Calls Try.prog 4 #[.slice p len cap, .int .i64 which] w fun e w' => e = .returned (.bool true) ∧ Upd [] w w' := by
  unfold maxLen at hlen
  obtain ⟨m, hm⟩ : ∃ m : Nat, which % 16 = m := Int.eq_ofNat_of_zero_le (bring_bd which 16 (by omega)).1
  have hm2 := (bring_bd which 16 (by omega)).2
  rw [hm] at hm2
  have hbr : ∀ w, Calls Try.prog 9 #[.int .i64 which, .int .i64 16] w fun e w' => e = .returned (.int .i64 (m : Int)) ∧ w = w' := fun w => by rw [← hm]; exact bring_any which 16 w (by omega) (by omega) hw1 hw2
  have Hbr := Lib.hid hbr; clear hbr hm
  obtain ⟨k, hk⟩ : ∃ k : Nat, 1 + (m : Int) = k := ⟨m + 1, by omega⟩
  have hk1 : 1 ≤ k := by omega
  have hk2 : k ≤ 16 := by omega
  go_enter Try.func4, Try.ntmps4
  go_wp2_with fail
  refine (new_any _).mono ?_
  rintro e w1 ⟨rfl, ht1, hu1⟩
  go_wp2_with fail
  refine (new_any _).mono ?_
  rintro e w2 ⟨rfl, ht2, hu2⟩
  go_wp2_with fail
  refine (Hbr.out _).mono ?_
  rintro e w' ⟨rfl, rfl⟩
  have hz1 := ht1.head.lt
  go_wp2_with fail
  go_loopw [8] (fun iv wr => ∃ (i : Nat) (st su : Nat → Win) (n n' : Int), i ≤ 100 ∧ iv = .int .i64 i ∧ TabAt wr (w.heap.size + 1) w.heap.size st n ∧ TabAt wr (w1.heap.size + 1) w1.heap.size su n' ∧
      Upd [] w wr ∧ (∀ j, WinOk (st j)) ∧ (∀ j, WinOk (su j)) ∧ st k = su k)
    (fun iv _ => 100 - (intOf iv).toNat)
  case atStart =>
    exact ⟨0, fun _ => Win.zero, fun _ => Win.zero, 0, 0, by omega, rfl, ht1.upd hu2 (by simp) (by simp), ht2, hu1.trans_nil hu2, fun _ => winOk_zero, fun _ => winOk_zero, rfl⟩
  case round =>
    obtain ⟨i, st, su, n, n', hi, rfl, ht, hs, hu, hok, hok', heq⟩ := hrel
    have Heq := Lib.hid heq; clear heq
    by_cases hil : i < len
    · by_cases hi100 : i < 100
      · obtain ⟨b, off, kd, a, s, rfl, hb, c0, c1, c2, ⟨x1, x2⟩, _⟩ := (hl.upd (Nat.le_refl _) hu) i hil
        by_cases hk0 : kd.tmod 2 = 0
        · have e0 : (kd.tmod 2 != 0) = false := by simp [hk0]
          have Ek := Lib.hid hk0; clear hk0
          have hB := Blk.new wr #[.int .i64 kd, .int .i64 a, .int .i64 s] 35
          have hr := ht.head.lt
          have hr2 := hs.head.lt
          have hr3 := ht.rows.lt
          have hr4 := hs.rows.lt
          have hwr := hu.size
          go_wp2_with fail
          refine (ask_all (ht.upd ((Upd.refl [] _).alloc _) (by simp) (by simp)) k s hok).mono ?_
          rintro e w3 ⟨rfl, ⟨n3, ht3⟩, hu3⟩
          have b2 := (hB.upd hu3 (by simp; omega)).cell 2 rfl
          go_wp2_with fail
          refine (ask_all ((hs.upd ((Upd.refl [] _).alloc _) (by simp) (by simp)).upd hu3 (by simp; omega) (by simp; omega)) k s hok').mono ?_
          rintro e w4 ⟨rfl, ⟨n4, ht4⟩, hu4⟩
          have ea : askV su k s = askV st k s := by unfold askV; rw [Int.toNat_natCast, Heq.out]
          go_wp2_with fail
          have ht5 := ht3.upd hu4 (by simp; omega) (by simp; omega)
          exact ⟨⟨i + 1, st, su, n3, n4, by omega, by go_num, ht5, ht4, ((hu.alloc _).trans hu3 (by simp)).trans hu4 (by simp; omega), hok, hok', Heq.out⟩, by simp [intOf]; omega⟩
        · have e0 : (kd.tmod 2 != 0) = true := by simp [hk0]
          clear hk0
          have hB := Blk.new wr #[.int .i64 kd, .int .i64 a, .int .i64 s] 35
          have hr := ht.head.lt
          have hr2 := hs.head.lt
          have hr3 := ht.rows.lt
          have hr4 := hs.rows.lt
          have hwr := hu.size
          by_cases hak : a = k
          · subst hak
            go_wp2_with fail
            refine (done_all (ht.upd ((Upd.refl [] _).alloc _) (by simp) (by simp)) k s hok).mono ?_
            rintro e w3 ⟨rfl, ht3, hu3⟩
            have b1 := (hB.upd hu3 (by simp; omega)).cell 1 rfl
            have b2 := (hB.upd hu3 (by simp; omega)).cell 2 rfl
            go_wp2_with fail
            refine (done_all ((hs.upd ((Upd.refl [] _).alloc _) (by simp) (by simp)).upd hu3 (by simp; omega) (by simp; omega)) k s hok').mono ?_
            rintro e w4 ⟨rfl, ht4, hu4⟩
            go_wp2_with fail
            have ht5 := ht3.upd hu4 (by simp; omega) (by simp; omega)
            exact ⟨⟨i + 1, _, _, n, n', by omega, by go_num, ht5, ht4, ((hu.alloc _).trans hu3 (by simp)).trans hu4 (by simp; omega), stepSt_ok hok _ _, stepSt_ok hok' _ _, stepSt_same _ _ _ Heq.out (by simp)⟩, by simp [intOf]; omega⟩
          · have e1 : (a == (k : Int)) = false := by simpa using hak
            have Hk := Lib.hid hak; clear hak
            go_wp2_with fail
            refine (done_all (ht.upd ((Upd.refl [] _).alloc _) (by simp) (by simp)) a s hok).mono ?_
            rintro e w3 ⟨rfl, ht3, hu3⟩
            have b1 := (hB.upd hu3 (by simp; omega)).cell 1 rfl
            have b2 := (hB.upd hu3 (by simp; omega)).cell 2 rfl
            go_wp2_with fail
            have ek : stepSt st a s k = st k := stepSt_at a s k (by
              cases hm : mayB a s
              · exact .inl rfl
              · have := may_bd hm
                have := Hk.out
                exact .inr (by omega))
            exact ⟨⟨i + 1, _, su, n, n', by omega, by go_num, ht3, (hs.upd ((Upd.refl [] _).alloc _) (by simp) (by simp)).upd hu3 (by simp; omega) (by simp; omega), (hu.alloc _).trans hu3 (by simp), stepSt_ok hok _ _, hok', by rw [ek]; exact Heq.out⟩, by simp [intOf]; omega⟩
      · go_wp2_with (go_at_call 12; refine (awake_true _).mono ?_; rintro e w4 ⟨rfl, hu4⟩)
        go_ret
        exact ⟨rfl, hu.trans_nil hu4⟩
    · go_wp2_with (go_at_call 12; refine (awake_true _).mono ?_; rintro e w4 ⟨rfl, hu4⟩)
      go_ret
      exact ⟨rfl, hu.trans_nil hu4⟩

end Go.Proofs.Ytpgilkemcaipiaa
