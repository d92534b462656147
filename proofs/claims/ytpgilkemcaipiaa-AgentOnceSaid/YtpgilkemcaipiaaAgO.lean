/- AgentOnce: its walk. -/
import Derived.Test.YtpgilkemcaipiaaAgC
import Derived.Test.YtpgilkemcaipiaaAgP
import Derived.Test.YtpgilkemcaipiaaBring
import Derived.Deep.DeepCutAuto
namespace Go.Proofs.Ytpgilkemcaipiaa
open Go.RowKit

theorem ask_val {t bw : Nat} {st : Nat → Win} {n : Int} {w : World} (h : TabAt w t bw st n) (a s : Int) (h1 : 1 ≤ a) (h2 : a ≤ 16) (h3 : 1 ≤ s) (h4 : s ≤ 9007199254740991)
    (hH : ∀ i, WinOk (st i)) (x : Int) (hx : whatI (st a.toNat).H (st a.toNat).B s = x) :
    Calls Try.prog 10 #[.pointer (some ⟨t, 0, none⟩), .int .i64 a, .int .i64 s] w fun e w' =>
      e = .returned (.tuple #[.int .i64 x, .int .i64 0]) ∧ TabAt w' t bw st (wrap64 (n + 1)) ∧ Upd [t] w w' := by
  rw [← hx]; exact ask_any h a s h1 h2 h3 h4 hH

/-- What holds of agent 3's window, the highest number, what was done, what was old. -/
structure OnceInv (v : Win) (high : Int) (dn od : Nat → Bool) : Prop where
  ok : WinOk v
  top : v.H = high
  lo : 0 ≤ high
  hi : high ≤ 120
  came : ∀ k : Nat, 1 ≤ k → k ≤ 120 → (Came v k ↔ dn k = true ∧ high - k < 32)
  dnle : ∀ k : Nat, 1 ≤ k → k ≤ 120 → dn k = true → (k : Int) ≤ high
  old : ∀ k : Nat, 1 ≤ k → k ≤ 120 → od k = true → 32 ≤ high - k

def mark (f : Nat → Bool) (i : Nat) (b : Bool) : Nat → Bool := fun j => if j = i then b else f j

theorem once_zero : OnceInv Win.zero 0 (fun _ => false) (fun _ => false) :=
  ⟨winOk_zero, rfl, by omega, by omega, fun k _ _ => by simp [Came, Win.zero], fun k _ _ h => by simp at h, fun k _ _ h => by simp at h⟩

theorem once_step {v : Win} {high : Int} {dn od : Nat → Bool} (h : OnceInv v high dn od) (n : Nat) (h1 : 1 ≤ n) (h2 : n ≤ 120) (hw : whatI v.H v.B n = 0) :
    OnceInv (doneV v 3 n) (max high n) (mark dn n true) od := by
  have e : doneV v 3 n = doneW v 3 n := by unfold doneV; rw [if_pos hw]
  have hc := done_came v h.ok 3 n hw
  have hH := done_H v 3 n
  rw [h.top] at hH
  have hl := h.lo; have hh := h.hi
  rw [e]
  refine ⟨done_ok v h.ok 3 n (by omega) (by omega), hH, by omega, by omega, fun k k1 k2 => ?_, fun k k1 k2 hd => ?_, fun k k1 k2 ho => ?_⟩
  · rw [hc k, hH, h.came k k1 k2]
    have hle := h.dnle k k1 k2
    unfold mark
    by_cases ek : k = n
    · subst ek; simp
    · have ek' : ¬ ((k : Int) = n) := by omega
      simp only [ek, ek', if_false, false_or]
      constructor
      · rintro ⟨⟨a, b⟩, c⟩; exact ⟨a, c⟩
      · rintro ⟨a, c⟩; exact ⟨⟨a, by omega⟩, c⟩
  · unfold mark at hd
    by_cases ek : k = n
    · subst ek; omega
    · rw [if_neg ek] at hd
      have := h.dnle k k1 k2 hd
      omega
  · have := h.old k k1 k2 ho
    omega

theorem once_same {v : Win} {high : Int} {dn od : Nat → Bool} (h : OnceInv v high dn od) (n : Nat) (hw : whatI v.H v.B n ≠ 0) : doneV v 3 n = v := by
  unfold doneV; rw [if_neg hw]

/-- What is answered of number k: one of three, and what is known then. -/
theorem once_ask {v : Win} {high : Int} {dn od : Nat → Bool} (h : OnceInv v high dn od) (k : Nat) (h1 : 1 ≤ k) (h2 : k ≤ 120) :
    (whatI v.H v.B k = 0 ∧ dn k = false ∧ od k = false) ∨ (whatI v.H v.B k = 1 ∧ dn k = true ∧ od k = false) ∨ (whatI v.H v.B k = 2 ∧ 32 ≤ high - k) := by
  have hw := what_is v h.ok k
  have hc := h.came k h1 h2
  have ho := h.old k h1 h2
  rw [h.top] at hw ⊢
  by_cases a : 32 ≤ high - k
  · rw [if_pos a] at hw; exact .inr (.inr ⟨hw, a⟩)
  · rw [if_neg a] at hw
    have ho' : od k = false := by
      cases hx : od k
      · rfl
      · exact absurd (ho hx) a
    by_cases c : Came v k
    · rw [if_pos c] at hw; exact .inr (.inl ⟨hw, (hc.1 c).1, ho'⟩)
    · rw [if_neg c] at hw
      refine .inl ⟨hw, ?_, ho'⟩
      cases hx : dn k
      · rfl
      · exact absurd (hc.2 ⟨hx, by omega⟩) c

theorem once_mark {v : Win} {high : Int} {dn od : Nat → Bool} (h : OnceInv v high dn od) (k : Nat) (b : Bool) (hb : b = true → 32 ≤ high - k) : OnceInv v high dn (mark od k b) :=
  ⟨h.ok, h.top, h.lo, h.hi, h.came, h.dnle, fun j j1 j2 hj => by
    unfold mark at hj
    by_cases e : j = k
    · subst e; rw [if_pos rfl] at hj; exact hb hj
    · rw [if_neg e] at hj; exact h.old j j1 j2 hj⟩

def bools (f : Nat → Bool) : List Value := row 121 fun k => .bool (f k)
theorem bools_set (f : Nat → Bool) (i : Nat) (b : Bool) : (bools f).set i (.bool b) = bools (mark f i b) := by
  unfold bools
  rw [row_set]
  apply row_congr
  intro j _
  unfold put1 mark
  split <;> rfl


def zbools : Array Value := (bools fun _ => false).toArray
theorem zero_bools (w : World) : (zeroValue 25).run Try.prog w = .ok (.agg zbools) w := by kernel_rfl

set_option maxHeartbeats 1000000 in
set_option maxRecDepth 100000 in
theorem once_walk (p : Option Addr) (len cap : Nat) (w : World) (hl : IntsAt w w.heap.size p len) (hlen : len ≤ maxLen) :
    Calls Try.prog 3 #[.slice p len cap] w fun e w' => e = .returned (.bool true) ∧ Upd [] w w' := by
  unfold maxLen at hlen
  have hz := zero_bools
  go_enter Try.func3, Try.ntmps3
  go_wp2_with fail
  refine (new_any _).mono ?_
  rintro e w1 ⟨rfl, ht1, hu1⟩
  go_wp2_with fail
  go_loopw [6, 7] (fun hv iv wr => ∃ (i : Nat) (st : Nat → Win) (n high : Int) (dn od : Nat → Bool), i ≤ 100 ∧ iv = .int .i64 i ∧ hv = .int .i64 high ∧
      TabAt wr (w.heap.size + 1) w.heap.size st n ∧ Blk wr w1.heap.size (bools dn) 25 ∧ Blk wr (w1.heap.size + 1) (bools od) 25 ∧ Upd [] w wr ∧ (∀ j, WinOk (st j)) ∧ OnceInv (st 3) high dn od)
    (fun _ iv _ => 100 - (intOf iv).toNat)
  case atStart =>
    refine ⟨0, fun _ => Win.zero, 0, 0, fun _ => false, fun _ => false, by omega, rfl, rfl, ?_, ?_, ?_, ?_, fun _ => winOk_zero, once_zero⟩
    · exact (ht1.upd (Upd.refl [] _ |>.alloc _ |>.alloc _) (by simp) (by simp))
    · exact (Blk.new w1 _ _).alloc _
    · exact (by simpa [zbools] using Blk.new (w1.alloc (.cells zbools 25)) zbools 25)
    · exact (hu1.alloc _).alloc _
  case round =>
    obtain ⟨i, st, n, high, dn, od, hi, rfl, rfl, ht, hbd, hbo, hu, hok, hinv⟩ := hrel
    have hz1 := ht1.head.lt
    by_cases hil : i < len
    · by_cases hi100 : i < 100
      · obtain ⟨b, off, x, rfl, hb, hc, x1, x2⟩ := (hl.upd (Nat.le_refl _) hu) i hil
        obtain ⟨m, hm⟩ : ∃ m : Nat, x % 120 = m := Int.eq_ofNat_of_zero_le (bring_bd x 120 (by omega)).1
        have hm2 := (bring_bd x 120 (by omega)).2
        rw [hm] at hm2
        have hbr : ∀ w, Calls Try.prog 9 #[.int .i64 x, .int .i64 120] w fun e w' => e = .returned (.int .i64 (m : Int)) ∧ w = w' := fun w => by rw [← hm]; exact bring_any x 120 w (by omega) (by omega) x1 x2
        have Hbr := Lib.hid hbr; clear hbr hm
        obtain ⟨k, hk⟩ : ∃ k : Nat, 1 + (m : Int) = k := ⟨m + 1, by omega⟩
        have hk1 : 1 ≤ k := by omega
        have hk2 : k ≤ 120 := by omega
        obtain ⟨q, hq⟩ : ∃ q, whatI (st 3).H (st 3).B k = q := ⟨_, rfl⟩
        have Hq := Lib.hid hq; clear hq
        have hst' : ∀ j, WinOk (setW st 3 (doneV (st 3) 3 k) j) := setW_ok hok 3 (doneV_ok _ (hok 3) _ _ (by omega) (by omega))
        go_wp2_with fail
        refine (Hbr.out _).mono ?_
        rintro e w' ⟨rfl, rfl⟩
        go_wp2_with fail
        refine (ask_val ht 3 k (by omega) (by omega) (by omega) (by omega) hok q Hq.out).mono ?_
        rintro e w2 ⟨rfl, ht2, hu2⟩
        go_wp2_with fail
        refine (done_any ht2 3 k (by omega) (by omega) (by omega) (by omega) hok).mono ?_
        rintro e w3 ⟨rfl, ht3, hu3⟩
        have u3 : Upd [] w w3 := (hu.trans hu2 (by simp)).trans hu3 (by simp)
        have hbd3 := (hbd.upd hu2 (by simp; omega)).upd hu3 (by simp; omega)
        have hbo3 := (hbo.upd hu2 (by simp; omega)).upd hu3 (by simp; omega)
        have cd := hbd3.cell k (row_get _ (by omega))
        have fd := hbd3.free k
        go_upto_if 42 with fail
        go_cut [6] (fun s6 wx => ∃ (st' : Nat → Win) (n' high' : Int) (dn' : Nat → Bool), s6 = .int .i64 high' ∧ TabAt wx (w.heap.size + 1) w.heap.size st' n' ∧
            Blk wx w1.heap.size (bools dn') 25 ∧ Blk wx (w1.heap.size + 1) (bools od) 25 ∧ Upd [] w wx ∧ (∀ j, WinOk (st' j)) ∧ OnceInv (st' 3) high' dn' od)
        case first =>
          by_cases q0 : q = 0
          · subst q0
            go_wp2_with fail
            all_goals
              go_meet
              refine ⟨setW st 3 (doneV (st 3) 3 k), wrap64 (n + 1), max high k, mark dn k true, by (first | (rw [show max high (k : Int) = k by omega]) | (rw [show max high (k : Int) = high by omega])), ?_, ?_, ?_, ?_, hst', once_step hinv k hk1 hk2 Hq.out⟩
              · exact ht3.upd ((Upd.refl [w1.heap.size] _).setCell (Or.inl (by simp)) _) (by simp; omega) (by simp; omega)
              · rw [← bools_set]; exact hbd3.set k _
              · exact hbo3.set_ne _ (by simp) _
              · exact u3.setCell (Or.inr (by simp; omega)) _
          · have q1 : (q == 0) = false := by simpa using q0
            go_wp2_with fail
            go_meet
            refine ⟨st, wrap64 (n + 1), high, dn, rfl, ?_, hbd3, hbo3, u3, hok, hinv⟩
            have e := once_same hinv k (by rw [Hq.out]; exact q0)
            have ht4 := ht3
            rw [show Int.toNat 3 = 3 from rfl, e, setW_same] at ht4
            exact ht4
        case rest =>
          obtain ⟨st', n', high', dn', rfl, ht', hbd', hbo', hu', hok', hinv'⟩ := hcut
          clear hbd hbo ht hinv hok hst' Hq Hbr ht2 ht3 hbd3 hbo3 cd fd hu hu2 hu3 u3 hk hk1 hk2
          go_wp2_with fail
          go_loopw [11] (fun kv wq => ∃ (j : Nat) (n2 : Int) (od2 : Nat → Bool), 1 ≤ j ∧ j ≤ 121 ∧ kv = .int .i64 j ∧ TabAt wq (w.heap.size + 1) w.heap.size st' n2 ∧
              Blk wq w1.heap.size (bools dn') 25 ∧ Blk wq (w1.heap.size + 1) (bools od2) 25 ∧ Upd [] w wq ∧ OnceInv (st' 3) high' dn' od2)
            (fun kv _ => 121 - (intOf kv).toNat)
          case atStart => exact ⟨1, n', od, by omega, by omega, rfl, ht', hbd', hbo', hu', hinv'⟩
          case round =>
            obtain ⟨j, n2, od2, j1, j2, rfl, ht2, hbd2, hbo2, hu2, hinv2⟩ := hrel
            by_cases hj : j ≤ 120
            · have cd := hbd2.cell j (row_get _ (by omega))
              have co := hbo2.cell j (row_get _ (by omega))
              have fo := hbo2.free j
              obtain ⟨q, Hq⟩ : ∃ q, Hid (whatI (st' 3).H (st' 3).B j = q) := ⟨_, Lib.hid rfl⟩
              have hcase := once_ask hinv2 j j1 hj
              have hlo := hinv2.lo
              have hhi := hinv2.hi
              rw [Hq.out] at hcase
              rcases hcase with ⟨rfl, hdj, hoj⟩ | ⟨rfl, hdj, hoj⟩ | ⟨rfl, hlt⟩
              · rw [hdj] at cd
                rw [hoj] at co
                go_wp2_with (go_at_call 10; refine (ask_val ht2 3 j (by omega) (by omega) (by omega) (by omega) hok' 0 Hq.out).mono ?_; rintro e w4 ⟨rfl, ht4, hu4⟩; have cd4 := (hu4.cell (a := ⟨w1.heap.size, j, none⟩) hbd2.lt (by simp; omega)).trans cd; have co4 := (hu4.cell (a := ⟨w1.heap.size + 1, j, none⟩) hbo2.lt (by simp; omega)).trans co; have fo4 := (hu4.frozen (a := ⟨w1.heap.size + 1, j, none⟩) hbo2.lt (by simp; omega)).trans fo)
                exact ⟨⟨j + 1, wrap64 (n2 + 1), mark od2 j false, by omega, by omega, by go_num, ht4.upd ((Upd.refl [w1.heap.size + 1] _).setCell (Or.inl (by simp)) _) (by simp; omega) (by simp; omega),
                  (hbd2.upd hu4 (by simp; omega)).set_ne _ (by simp) _, by rw [← bools_set]; exact (hbo2.upd hu4 (by simp; omega)).set j _, (hu2.trans hu4 (by simp)).setCell (Or.inr (by simp; omega)) _, once_mark hinv2 j false (by simp)⟩, by simp [intOf]; omega⟩
              · rw [hdj] at cd
                rw [hoj] at co
                go_wp2_with (go_at_call 10; refine (ask_val ht2 3 j (by omega) (by omega) (by omega) (by omega) hok' 1 Hq.out).mono ?_; rintro e w4 ⟨rfl, ht4, hu4⟩; have cd4 := (hu4.cell (a := ⟨w1.heap.size, j, none⟩) hbd2.lt (by simp; omega)).trans cd; have co4 := (hu4.cell (a := ⟨w1.heap.size + 1, j, none⟩) hbo2.lt (by simp; omega)).trans co; have fo4 := (hu4.frozen (a := ⟨w1.heap.size + 1, j, none⟩) hbo2.lt (by simp; omega)).trans fo)
                exact ⟨⟨j + 1, wrap64 (n2 + 1), mark od2 j false, by omega, by omega, by go_num, ht4.upd ((Upd.refl [w1.heap.size + 1] _).setCell (Or.inl (by simp)) _) (by simp; omega) (by simp; omega),
                  (hbd2.upd hu4 (by simp; omega)).set_ne _ (by simp) _, by rw [← bools_set]; exact (hbo2.upd hu4 (by simp; omega)).set j _, (hu2.trans hu4 (by simp)).setCell (Or.inr (by simp; omega)) _, once_mark hinv2 j false (by simp)⟩, by simp [intOf]; omega⟩
              · cases hoj : od2 j
                · rw [hoj] at co
                  go_wp2_with (go_at_call 10; refine (ask_val ht2 3 j (by omega) (by omega) (by omega) (by omega) hok' 2 Hq.out).mono ?_; rintro e w4 ⟨rfl, ht4, hu4⟩; have cd4 := (hu4.cell (a := ⟨w1.heap.size, j, none⟩) hbd2.lt (by simp; omega)).trans cd; have co4 := (hu4.cell (a := ⟨w1.heap.size + 1, j, none⟩) hbo2.lt (by simp; omega)).trans co; have fo4 := (hu4.frozen (a := ⟨w1.heap.size + 1, j, none⟩) hbo2.lt (by simp; omega)).trans fo)
                  exact ⟨⟨j + 1, wrap64 (n2 + 1), mark od2 j true, by omega, by omega, by go_num, ht4.upd ((Upd.refl [w1.heap.size + 1] _).setCell (Or.inl (by simp)) _) (by simp; omega) (by simp; omega),
                    (hbd2.upd hu4 (by simp; omega)).set_ne _ (by simp) _, by rw [← bools_set]; exact (hbo2.upd hu4 (by simp; omega)).set j _, (hu2.trans hu4 (by simp)).setCell (Or.inr (by simp; omega)) _, once_mark hinv2 j true (fun _ => hlt)⟩, by simp [intOf]; omega⟩
                · rw [hoj] at co
                  go_wp2_with (go_at_call 10; refine (ask_val ht2 3 j (by omega) (by omega) (by omega) (by omega) hok' 2 Hq.out).mono ?_; rintro e w4 ⟨rfl, ht4, hu4⟩; have cd4 := (hu4.cell (a := ⟨w1.heap.size, j, none⟩) hbd2.lt (by simp; omega)).trans cd; have co4 := (hu4.cell (a := ⟨w1.heap.size + 1, j, none⟩) hbo2.lt (by simp; omega)).trans co; have fo4 := (hu4.frozen (a := ⟨w1.heap.size + 1, j, none⟩) hbo2.lt (by simp; omega)).trans fo)
                  exact ⟨⟨j + 1, wrap64 (n2 + 1), mark od2 j true, by omega, by omega, by go_num, ht4.upd ((Upd.refl [w1.heap.size + 1] _).setCell (Or.inl (by simp)) _) (by simp; omega) (by simp; omega),
                    (hbd2.upd hu4 (by simp; omega)).set_ne _ (by simp) _, by rw [← bools_set]; exact (hbo2.upd hu4 (by simp; omega)).set j _, (hu2.trans hu4 (by simp)).setCell (Or.inr (by simp; omega)) _, once_mark hinv2 j true (fun _ => hlt)⟩, by simp [intOf]; omega⟩
            · go_wp2_with fail
              exact ⟨⟨i + 1, st', n2, high', dn', od2, by omega, by go_num, rfl, ht2, hbd2, hbo2, hu2, hok', hinv2⟩, by simp [intOf]; omega⟩
      · go_wp2_with (go_at_call 12; refine (awake_true _).mono ?_; rintro e w4 ⟨rfl, hu4⟩)
        go_ret
        exact ⟨rfl, hu.trans_nil hu4⟩
    · go_wp2_with (go_at_call 12; refine (awake_true _).mono ?_; rintro e w4 ⟨rfl, hu4⟩)
      go_ret
      exact ⟨rfl, hu.trans_nil hu4⟩

end Go.Proofs.Ytpgilkemcaipiaa
