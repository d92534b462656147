/- What Windows hands over is what Of takes: plain. -/
import Derived.Test.YtpgilkemcaipiaaAgD
import Derived.Lib.ItoaNum
namespace Go.Proofs.Ytpgilkemcaipiaa
open Go.RowKit

theorem winVals_get (ws : List Win) (i : Nat) (v : Win) (h : ws[i]? = some v) :
    (winVals ws)[i * 3]? = some (.int .i64 v.A) ∧ (winVals ws)[i * 3 + 1]? = some (.int .i64 v.H) ∧ (winVals ws)[i * 3 + 2]? = some (.int .u32 v.B) := by
  induction ws generalizing i with
  | nil => simp at h
  | cons a l ih =>
    have e : winVals (a :: l) = [.int .i64 a.A, .int .i64 a.H, .int .u32 a.B] ++ winVals l := by simp [winVals]
    rw [e]
    cases i with
    | zero => simp at h; subst h; simp
    | succ i =>
      have := ih i (by simpa using h)
      refine ⟨?_, ?_, ?_⟩
      · rw [List.getElem?_append_right (by simp; omega), show (i + 1) * 3 - [Value.int .i64 a.A, .int .i64 a.H, .int .u32 a.B].length = i * 3 by simp; omega]; exact this.1
      · rw [List.getElem?_append_right (by simp; omega), show (i + 1) * 3 + 1 - [Value.int .i64 a.A, .int .i64 a.H, .int .u32 a.B].length = i * 3 + 1 by simp; omega]; exact this.2.1
      · rw [List.getElem?_append_right (by simp; omega), show (i + 1) * 3 + 2 - [Value.int .i64 a.A, .int .i64 a.H, .int .u32 a.B].length = i * 3 + 2 by simp; omega]; exact this.2.2

theorem winsAt_of_own {w : World} {base : Nat} {e : TypeId} {v : Value} {ws : List Win} (h : w.ownsRow base e 3 v ws.length (winVals ws)) (hf : ∀ v ∈ ws, WinFit v) :
    ∃ p cap, v = .slice p ws.length cap ∧ WinsAt w w.heap.size p ws ∧ ws.length ≤ 9223372036854775807 := by
  rcases h.2 with ⟨rfl, h0⟩ | ⟨g, cap, cur, rfl, _, hh, hc, hm, _⟩
  · refine ⟨none, 0, by rw [h0], fun i v hv => ?_, by omega⟩
    have : i < ws.length := (List.getElem?_eq_some_iff.1 hv).1
    omega
  · refine ⟨_, cap, rfl, fun i v hv => ⟨hf v (List.mem_of_getElem? hv), g, 0, rfl, (Array.getElem?_eq_some_iff.1 hh).1, ?_⟩, by simp only [maxLen] at hm; omega⟩
    obtain ⟨a1, a2, a3⟩ := winVals_get ws i v hv
    have c := h.cells (g := g) rfl
    have k : ∀ j u, (winVals ws)[j]? = some u → w.cell? ⟨g, 0 + j, none⟩ = some u := fun j u hj => by
      have := c j u hj
      rw [← this]
      unfold Addr.add; split
      · simp_all
      · rfl
    exact ⟨k _ _ a1, by rw [Nat.add_assoc]; exact k _ _ a2, by rw [Nat.add_assoc]; exact k _ _ a3⟩

/-- A window of agent i that tells something. -/
structure WinInv (i : Nat) (v : Win) : Prop where
  ok : WinOk v
  agent : v.A = i
  lo : 1 ≤ v.H
  odd : v.B.toNat.testBit 0 = true
  bits : ∀ k, v.B.toNat.testBit k = true → (k : Int) < v.H

structure StInv (st : Nat → Win) : Prop where
  out : ∀ i, i = 0 ∨ 17 ≤ i → st i = Win.zero
  inn : ∀ i, 1 ≤ i → i < 17 → st i = Win.zero ∨ WinInv i (st i)

theorem StInv.ok {st : Nat → Win} (h : StInv st) (i : Nat) : WinOk (st i) := by
  by_cases hi : 1 ≤ i ∧ i < 17
  · rcases h.inn i hi.1 hi.2 with e | e
    · rw [e]; exact winOk_zero
    · exact e.ok
  · rw [h.out i (by omega)]; exact winOk_zero

theorem StInv.zero : StInv (fun _ => Win.zero) := ⟨fun _ _ => rfl, fun _ _ _ => .inl rfl⟩

/-- A bit of a window tells a number that came. -/
theorem came_bit (v : Win) (k : Nat) (hk : k < 32) : v.B.toNat.testBit k = true ↔ Came v (v.H - k) := by
  unfold Came
  rw [show (v.H - (v.H - (k : Int))).toNat = k by omega]
  constructor
  · intro h; exact ⟨by omega, by omega, h⟩
  · intro h; exact h.2.2

theorem bit_lt (v : Win) (hv : WinOk v) (k : Nat) (h : v.B.toNat.testBit k = true) : k < 32 := by
  obtain ⟨_, _, h3, h4⟩ := hv
  by_cases hk : k < 32
  · exact hk
  · have : v.B.toNat < 2 ^ k := Nat.lt_of_lt_of_le (by omega : v.B.toNat < 2 ^ 32) (Nat.pow_le_pow_right (by decide) (by omega))
    rw [Nat.testBit_lt_two_pow this] at h; cases h

theorem done_inv {v : Win} {i : Nat} (hv : v = Win.zero ∨ WinInv i v) (s : Int) (h3 : 1 ≤ s) (h4 : s ≤ 9007199254740991) (hw : whatI v.H v.B s = 0) : WinInv i (doneW v i s) := by
  have hok : WinOk v := by
    rcases hv with rfl | h
    · exact winOk_zero
    · exact h.ok
  have hok2 := done_ok v hok i s h3 h4
  have hH := done_H v i s
  have hc := done_came v hok i s hw
  refine ⟨hok2, by unfold doneW; split <;> rfl, by rw [hH]; omega, ?_, fun k hk => ?_⟩
  · rw [came_bit _ 0 (by omega), hc, hH]
    refine ⟨?_, by omega⟩
    by_cases e : v.H < s
    · exact .inl (by omega)
    · right
      rcases hv with rfl | h
      · simp [Win.zero] at e; omega
      · have := (came_bit v 0 (by omega)).1 h.odd
        rw [show max v.H s - ((0 : Nat) : Int) = v.H - ((0 : Nat) : Int) by omega]; exact this
  · have hk32 := bit_lt _ hok2 k hk
    have hcm := (came_bit _ k hk32).1 hk
    obtain ⟨h5, _⟩ := (hc _).1 hcm
    rcases h5 with h5 | h5
    · omega
    · rcases hv with rfl | h
      · simp [Came, Win.zero] at h5
      · have := h.bits (v.H - ((doneW v i s).H - k)).toNat h5.2.2
        omega

theorem StInv.step {st : Nat → Win} (h : StInv st) (a s : Int) : StInv (stepSt st a s) := by
  unfold stepSt
  cases hm : mayB a s
  · simpa using h
  · obtain ⟨h1, h2, h3, h4⟩ := may_bd hm
    simp only [if_true]
    obtain ⟨i, rfl⟩ := Int.eq_ofNat_of_zero_le (show 0 ≤ a by omega)
    rw [Int.toNat_natCast]
    refine ⟨fun j hj => ?_, fun j j1 j2 => ?_⟩
    · unfold setW; rw [if_neg (by omega)]; exact h.out j hj
    · unfold setW
      by_cases e : j = i
      · subst e
        rw [if_pos rfl]
        unfold doneV
        split
        · exact .inr (done_inv (h.inn j j1 j2) s h3 h4 (by assumption))
        · exact h.inn j j1 j2
      · rw [if_neg e]; exact h.inn j j1 j2

theorem wins_prefix (st : Nat → Win) (k n : Nat) (h : k ≤ n) : wins st k <+: wins st n := by
  induction n with
  | zero => rw [show k = 0 by omega]; exact List.prefix_refl _
  | succ n ih =>
    by_cases e : k = n + 1
    · rw [e]; exact List.prefix_refl _
    · exact (ih (by omega)).trans (by show wins st n <+: wins st n ++ _; exact List.prefix_append _ _)

theorem inv_good {i : Nat} {v : Win} (h : WinInv i v) (i1 : 1 ≤ i) (i2 : i < 17) (last : Int) (hl : last < i) : winGood v last = true := by
  obtain ⟨o1, o2, o3, o4⟩ := h.ok
  have hA := h.agent
  have hlo := h.lo
  unfold winGood
  have e1 : mayB v.A v.H = true := by unfold mayB; simp; omega
  have e2 : decide (v.A ≤ last) = false := decide_eq_false (by omega)
  have e3 : (bits BinOp.and IntKind.u32 v.B 1 == 0) = false := by
    have hb := (bit_iff v.B 0 o3 o4).2 h.odd
    simp only [Int.pow_zero, Int.ediv_one] at hb
    rw [beq_iff_eq] at hb
    rw [hb]; rfl
  have e4 : decide (v.H - (lenOf v.B - 1) < 1) = false := decide_eq_false (by
    unfold lenOf Lib.bitLen
    have hne : v.B.toNat ≠ 0 := by
      intro h0; have := h.odd; rw [h0] at this; simp at this
    obtain ⟨l1, l2, l3⟩ := Lib.bitLenAux_bounds 64 v.B.toNat (by omega) hne
    have htop : v.B.toNat.testBit (Lib.bitLenAux 64 v.B.toNat - 1) = true := by
      rw [Nat.testBit_eq_decide_div_mod_eq, decide_eq_true_eq]
      have hdiv : v.B.toNat / 2 ^ (Lib.bitLenAux 64 v.B.toNat - 1) = 1 := by
        apply Nat.div_eq_of_lt_le
        · simpa using l2
        · have : 2 ^ Lib.bitLenAux 64 v.B.toNat = (1 + 1) * 2 ^ (Lib.bitLenAux 64 v.B.toNat - 1) := by
            conv => lhs; rw [show Lib.bitLenAux 64 v.B.toNat = (Lib.bitLenAux 64 v.B.toNat - 1) + 1 by omega]
            rw [Nat.pow_succ]; omega
          rw [← this]; exact l3
      rw [hdiv]
    have := h.bits _ htop
    omega)
  rw [e1, e2, e3, e4]; rfl

theorem ofTo_wins (st : Nat → Win) (h : StInv st) (N : Nat) (hN : N ≤ 17) (k : Nat) (hk : k ≤ N) :
    ∃ last : Int, (1 ≤ k → last < k) ∧ last < k + 1 ∧ ofTo (wins st N) (wins st k).length = some (last, fun i => if i < k then st i else Win.zero) := by
  induction k with
  | zero => exact ⟨0, by omega, by omega, by simp [wins, ofTo]⟩
  | succ k ih =>
    obtain ⟨last, hl2, hl, hto⟩ := ih (by omega)
    by_cases hH : 0 < (st k).H
    · have hk1 : 1 ≤ k := by
        rcases Nat.eq_zero_or_pos k with h0 | h0
        · subst h0; rw [h.out 0 (.inl rfl)] at hH; simp [Win.zero] at hH
        · exact h0
      have hinv : WinInv k (st k) := by
        rcases h.inn k hk1 (by omega) with e | e
        · rw [e] at hH; simp [Win.zero] at hH
        · exact e
      have e1 : wins st (k + 1) = wins st k ++ [st k] := by simp [wins, hH]
      have hget : (wins st N)[(wins st k).length]? = some (st k) := by
        obtain ⟨r, hr⟩ := wins_prefix st (k + 1) N (by omega)
        rw [← hr, e1]; simp
      have hgo := ofTo_go hto hget (inv_good hinv hk1 (by omega) last (hl2 hk1))
      have ef : setW (fun i => if i < k then st i else Win.zero) (st k).A.toNat (st k) = fun i => if i < k + 1 then st i else Win.zero := by
        funext j
        rw [hinv.agent, Int.toNat_natCast]
        unfold setW
        by_cases ej : j = k
        · subst ej; simp
        · rw [if_neg ej]
          show (if j < k then st j else Win.zero) = (if j < k + 1 then st j else Win.zero)
          by_cases hj : j < k
          · rw [if_pos hj, if_pos (by omega)]
          · rw [if_neg hj, if_neg (by omega)]
      rw [ef] at hgo
      exact ⟨(st k).A, by rw [hinv.agent]; omega, by rw [hinv.agent]; omega, by rw [e1, List.length_append, List.length_singleton]; exact hgo⟩
    · have e1 : wins st (k + 1) = wins st k := by simp [wins, hH]
      have hz : st k = Win.zero := by
        by_cases hk1 : 1 ≤ k
        · rcases h.inn k hk1 (by omega) with e | e
          · exact e
          · have := e.lo; omega
        · exact h.out k (by omega)
      have ef : (fun i => if i < k then st i else Win.zero) = fun i => if i < k + 1 then st i else Win.zero := by
        funext j
        by_cases ej : j = k
        · subst ej; simp [hz]
        · by_cases hj : j < k
          · rw [if_pos hj, if_pos (by omega)]
          · rw [if_neg hj, if_neg (by omega)]
      rw [ef] at hto
      refine ⟨last, fun _ => by omega, by omega, by rw [e1]; exact hto⟩

theorem ofTo_all (st : Nat → Win) (h : StInv st) (N : Nat) (hN : N = 17) : ∃ last, ofTo (wins st N) (wins st N).length = some (last, st) := by
  obtain ⟨last, _, _, h2⟩ := ofTo_wins st h N (by omega) N (Nat.le_refl _)
  have ef : (fun i => if i < N then st i else Win.zero) = st := by
    funext j
    by_cases hj : j < N
    · rw [if_pos hj]
    · rw [if_neg hj, h.out j (by omega)]
  rw [ef] at h2
  exact ⟨last, h2⟩

theorem wins_fit (st : Nat → Win) (h : ∀ i, WinOk (st i)) (hA : ∀ i, -9223372036854775808 ≤ (st i).A ∧ (st i).A ≤ 9223372036854775807) (k : Nat) : ∀ v ∈ wins st k, WinFit v := by
  induction k with
  | zero => intro v hv; simp [wins] at hv
  | succ k ih =>
    intro v hv
    unfold wins at hv
    rcases List.mem_append.1 hv with h1 | h1
    · exact ih v h1
    · split at h1
      · simp at h1; subst h1
        obtain ⟨o1, o2, o3, o4⟩ := h k
        exact ⟨(hA k).1, (hA k).2, by omega, by omega, by omega, by omega⟩
      · simp at h1

theorem StInv.fit {st : Nat → Win} (h : StInv st) : ∀ v ∈ wins st 17, WinFit v := by
  apply wins_fit st h.ok
  intro i
  by_cases hi : 1 ≤ i ∧ i < 17
  · rcases h.inn i hi.1 hi.2 with e | e
    · rw [e]; simp [Win.zero]
    · rw [e.agent]; omega
  · rw [h.out i (by omega)]; simp [Win.zero]

end Go.Proofs.Ytpgilkemcaipiaa
