/- The document's agent: its table, came, what, Ask. -/
import Derived.Test.YtpgilkemcaipiaaAgF
import Derived.Deep.AppendLies
namespace Go.Proofs.Ytpgilkemcaipiaa
open Go.RowKit

/-- The cells of the document's table. -/
def refCells (cm : Nat → Value) (st : Nat → Win) (n : Int) : List Value := row 35 fun j => if j < 17 then cm j else if j < 34 then .int .i64 (st (j - 17)).H else .int .i64 n

/-- A slice of numbers that is only read; not of block m, and not below base. -/
def ListAt (w : World) (m base L : Nat) (v : Value) (xs : List Int) : Prop :=
  ∃ p cap, v = .slice p xs.length cap ∧ xs.length ≤ L ∧ ∀ (i : Nat) (x : Int), xs[i]? = some x → ∃ b, p = some ⟨b, 0, none⟩ ∧ b ≠ m ∧ base ≤ b ∧ w.cell? ⟨b, i, none⟩ = some (.int .i64 x) ∧ 1 ≤ x ∧ x ≤ 9007199254740991

theorem ListAt.upd {w w' : World} {m base L : Nat} {v : Value} {xs : List Int} (h : ListAt w m base L v xs) {bs : List Nat} (u : Upd bs w w') (hb : ∀ x ∈ bs, x = m ∨ x < base) : ListAt w' m base L v xs := by
  obtain ⟨p, cap, h1, h2, h3⟩ := h
  refine ⟨p, cap, h1, h2, fun i x hx => ?_⟩
  obtain ⟨b, k1, k2, k3, k4, k5⟩ := h3 i x hx
  exact ⟨b, k1, k2, k3, by rw [u.cell (lt_of_cell k4) (fun hm => by rcases hb b hm with e | e <;> omega)]; exact k4, k5⟩
theorem ListAt.more {w : World} {m base L L' : Nat} {v : Value} {xs : List Int} (h : ListAt w m base L v xs) (hl : L ≤ L') : ListAt w m base L' v xs := by
  obtain ⟨p, cap, h1, h2, h3⟩ := h
  exact ⟨p, cap, h1, by omega, h3⟩
theorem ListAt.nil (w : World) (m base L : Nat) : ListAt w m base L (.slice none 0 0) [] := ⟨none, 0, rfl, by simp, fun i x h => by simp at h⟩

/-- The document's table at block m. -/
structure RTab (w : World) (m base L : Nat) (cm : Nat → Value) (st : Nat → Win) (n : Int) (Ls : Nat → List Int) : Prop where
  blk : Blk w m (refCells cm st n) 55
  lists : ∀ i, i < 17 → ListAt w m base L (cm i) (Ls i)
  low : base ≤ m

theorem RTab.upd {w w' : World} {m base L : Nat} {cm : Nat → Value} {st : Nat → Win} {n : Int} {Ls : Nat → List Int} (h : RTab w m base L cm st n Ls) {bs : List Nat} (u : Upd bs w w') (hb : ∀ x ∈ bs, x < base) : RTab w' m base L cm st n Ls :=
  ⟨h.blk.upd u (fun hm => by have := hb m hm; have := h.low; omega), fun i hi => (h.lists i hi).upd u (fun x hx => .inr (hb x hx)), h.low⟩

theorem RTab.high {w : World} {m base L : Nat} {cm : Nat → Value} {st : Nat → Win} {n : Int} {Ls : Nat → List Int} (h : RTab w m base L cm st n Ls) {i : Nat} (hi : i < 17) : w.cell? ⟨m, 17 + i, none⟩ = some (.int .i64 (st i).H) := by
  have := h.blk.cell (17 + i) (row_get _ (show 17 + i < 35 by omega))
  rw [if_neg (by omega), if_pos (by omega), show 17 + i - 17 = i by omega] at this
  exact this
theorem RTab.asked {w : World} {m base L : Nat} {cm : Nat → Value} {st : Nat → Win} {n : Int} {Ls : Nat → List Int} (h : RTab w m base L cm st n Ls) : w.cell? ⟨m, 34, none⟩ = some (.int .i64 n) := h.blk.cell 34 (by simp [refCells, row])
theorem RTab.list {w : World} {m base L : Nat} {cm : Nat → Value} {st : Nat → Win} {n : Int} {Ls : Nat → List Int} (h : RTab w m base L cm st n Ls) {i : Nat} (hi : i < 17) : w.cell? ⟨m, i, none⟩ = some (cm i) := by
  have := h.blk.cell i (row_get _ (show i < 35 by omega))
  rw [if_pos hi] at this
  exact this

/-- What the two tables have in common. -/
structure Rel (st : Nat → Win) (Ls : Nat → List Int) : Prop where
  inv : StInv st
  came : ∀ i, i < 17 → ∀ x, x ∈ Ls i ↔ Came (st i) x

theorem rmay_any (a s : Int) (w : World) :
    Calls Try.prog 28 #[.int .i64 a, .int .i64 s] w fun e w' => e = .returned (.bool (mayB a s)) ∧ w = w' := by
  by_cases h1 : 1 ≤ a
  · by_cases h2 : a ≤ 16
    · by_cases h3 : 1 ≤ s
      · by_cases h4 : s ≤ 9007199254740991
        · go_enter Try.func28, Try.ntmps28
          go_wp2
          go_ret
          exact ⟨ret_bool (decide_eq_true (by omega)).symm, rfl⟩
        · go_enter Try.func28, Try.ntmps28
          go_wp2
          go_ret
          exact ⟨ret_bool (decide_eq_false (by omega)).symm, rfl⟩
      · go_enter Try.func28, Try.ntmps28
        go_wp2
        go_ret
        exact ⟨ret_bool (decide_eq_false (by omega)).symm, rfl⟩
    · go_enter Try.func28, Try.ntmps28
      go_wp2
      go_ret
      exact ⟨ret_bool (decide_eq_false (by omega)).symm, rfl⟩
  · go_enter Try.func28, Try.ntmps28
    go_wp2
    go_ret
    exact ⟨ret_bool (decide_eq_false (by omega)).symm, rfl⟩

set_option maxRecDepth 100000 in
theorem rcame_any {w : World} {m base L : Nat} {cm : Nat → Value} {st : Nat → Win} {n : Int} {Ls : Nat → List Int} (h : RTab w m base L cm st n Ls) (hL : L ≤ 1000) (a : Nat) (ha : a < 17) (s : Int) (xs : List Int) (hxs : Hid (Ls a = xs)) :
    Calls Try.prog 32 #[.pointer (some ⟨m, 0, none⟩), .int .i64 a, .int .i64 s] w fun e w' => e = .returned (.bool (decide (s ∈ xs))) ∧ w = w' := by
  obtain ⟨p, cap, hcm, hlen, hx⟩ := h.lists a ha
  have c0 := h.list ha
  rw [hcm] at c0
  rw [hxs.out] at hlen hx c0
  clear hcm
  go_enter Try.func32, Try.ntmps32
  go_wp2_with fail
  go_loopw [7] (fun iv wr => ∃ i : Nat, i ≤ xs.length ∧ iv = .int .i64 i ∧ Hid (∀ j, j < i → xs[j]? ≠ some s) ∧ w = wr) (fun iv _ => xs.length - (intOf iv).toNat)
  case atStart => exact ⟨0, by omega, rfl, Lib.hid (fun j hj => by omega), rfl⟩
  case round =>
    obtain ⟨i, hi, rfl, hno, rfl⟩ := hrel
    by_cases hlt : i < xs.length
    · obtain ⟨x, hxi⟩ : ∃ x, xs[i]? = some x := ⟨_, List.getElem?_eq_getElem hlt⟩
      obtain ⟨b, rfl, _, _, hc, x1, x2⟩ := hx i x hxi
      have Hxi := Lib.hid hxi; clear hxi
      by_cases e : x = s
      · subst e
        go_wp2_with fail
        go_ret
        exact ⟨ret_bool (decide_eq_true (List.mem_of_getElem? Hxi.out)).symm, rfl⟩
      · have e' : (x == s) = false := by simpa using e
        go_wp2_with fail
        refine ⟨⟨i + 1, by omega, by go_num, Lib.hid fun j hj => ?_, (by first | rfl | trivial)⟩, by simp [intOf]; omega⟩
        by_cases ej : j = i
        · subst ej; rw [Hxi.out]; simpa using e
        · exact hno.out j (by omega)
    · go_wp2_with fail
      go_ret
      refine ⟨ret_bool (decide_eq_false fun hm => ?_).symm, rfl⟩
      obtain ⟨j, hj⟩ := List.getElem?_of_mem hm
      have : j < xs.length := (List.getElem?_eq_some_iff.1 hj).1
      exact hno.out j (by omega) hj

/-- 'what' of the document is the agent's. -/
theorem rwhat_any {w : World} {m base L : Nat} {cm : Nat → Value} {st : Nat → Win} {n : Int} {Ls : Nat → List Int} (h : RTab w m base L cm st n Ls) (hL : L ≤ 1000) (hr : Rel st Ls) (a : Nat) (ha : a < 17) (s : Int) (s1 : 1 ≤ s) (s2 : s ≤ 9007199254740991)
    (q : Int) (hq : Hid (whatI (st a).H (st a).B s = q)) :
    Calls Try.prog 29 #[.pointer (some ⟨m, 0, none⟩), .int .i64 a, .int .i64 s] w fun e w' => e = .returned (.int .i64 q) ∧ w = w' := by
  have ok := hr.inv.ok a
  have hw := what_is (st a) ok s
  rw [hq.out] at hw
  have hc := hr.came a ha s
  have ch := h.high ha
  obtain ⟨xs, hxs⟩ : ∃ xs, Hid (Ls a = xs) := ⟨_, Lib.hid rfl⟩
  rw [hxs.out] at hc
  obtain ⟨o1, o2, _, _⟩ := ok
  by_cases hm : s ∈ xs
  · have hcm := hc.1 hm
    have : q = 1 := by
      rw [hw, if_neg (by have := hcm.2.1; omega), if_pos hcm]
    subst this
    have d : decide (s ∈ xs) = true := decide_eq_true hm
    clear hw hc
    go_enter Try.func29, Try.ntmps29
    go_wp2_with (go_at_call 32; refine (rcame_any h hL a ha s xs hxs).mono ?_; rw [d]; rintro e w' ⟨rfl, rfl⟩)
    go_ret
    exact ⟨rfl, rfl⟩
  · have hncm : ¬ Came (st a) s := fun hh => hm (hc.2 hh)
    have d : decide (s ∈ xs) = false := decide_eq_false hm
    rw [if_neg hncm] at hw
    clear hc
    by_cases hlow : 32 ≤ (st a).H - s
    · rw [if_pos hlow] at hw
      subst hw
      go_enter Try.func29, Try.ntmps29
      go_wp2_with (go_at_call 32; refine (rcame_any h hL a ha s xs hxs).mono ?_; rw [d]; rintro e w' ⟨rfl, rfl⟩)
      go_ret
      exact ⟨rfl, rfl⟩
    · rw [if_neg hlow] at hw
      subst hw
      go_enter Try.func29, Try.ntmps29
      go_wp2_with (go_at_call 32; refine (rcame_any h hL a ha s xs hxs).mono ?_; rw [d]; rintro e w' ⟨rfl, rfl⟩)
      go_ret
      exact ⟨rfl, rfl⟩

theorem refCells_ask (cm : Nat → Value) (st : Nat → Win) (n k : Int) : (refCells cm st n).set 34 (.int .i64 k) = refCells cm st k := by
  unfold refCells
  rw [row_set]
  apply row_congr
  intro i hi
  unfold put1
  by_cases e : i = 34
  · subst e; simp
  · rw [if_neg e]
    dsimp only
    by_cases h1 : i < 17
    · rw [if_pos h1, if_pos h1]
    · rw [if_neg h1, if_neg h1, if_pos (by omega), if_pos (by omega)]

theorem rask_all {w : World} {m base L : Nat} {cm : Nat → Value} {st : Nat → Win} {n : Int} {Ls : Nat → List Int} (h : RTab w m base L cm st n Ls) (hL : L ≤ 1000) (hr : Rel st Ls) (a s : Int) :
    Calls Try.prog 17 #[.pointer (some ⟨m, 0, none⟩), .int .i64 a, .int .i64 s] w fun e w' =>
      e = .returned (.tuple #[.int .i64 (askV st a s), .int .i64 (codeOf (mayB a s))]) ∧ RTab w' m base L cm st (if mayB a s then wrap64 (n + 1) else n) Ls ∧ Upd [m] w w' := by
  cases hm : mayB a s
  · go_enter Try.func17, Try.ntmps17
    go_wp2_with (go_at_call 28; refine (rmay_any _ _ _).mono ?_; rw [hm]; rintro e w' ⟨rfl, rfl⟩)
    go_ret2
    exact ⟨by simp [askV, codeOf, hm], (by assumption), Upd.refl _ _⟩
  · obtain ⟨a1, a2, s1, s2⟩ := may_bd hm
    obtain ⟨i, rfl⟩ := Int.eq_ofNat_of_zero_le (show 0 ≤ a by omega)
    have ca := h.asked
    have fa := h.blk.free 34
    obtain ⟨q, hq⟩ : ∃ q, Hid (whatI (st i).H (st i).B s = q) := ⟨_, Lib.hid rfl⟩
    have hset : RTab (w.setCell ⟨m, 34, none⟩ (.int .i64 (wrap64 (n + 1)))) m base L cm st (wrap64 (n + 1)) Ls := by
      refine ⟨by rw [← refCells_ask cm st n]; exact h.blk.set 34 _, fun j hj => (h.lists j hj).upd ((Upd.refl [m] _).setCell (Or.inl (by simp)) _) (by simp), h.low⟩
    go_enter Try.func17, Try.ntmps17
    go_wp2_with (first
      | (go_at_call 28; refine (rmay_any _ _ _).mono ?_; rw [hm]; rintro e w' ⟨rfl, rfl⟩)
      | (go_at_call 29; refine (rwhat_any hset hL hr i (by omega) s s1 s2 q hq).mono ?_; rintro e w' ⟨rfl, rfl⟩))
    go_ret2
    refine ⟨?_, hset, (Upd.refl [m] _).setCell (Or.inl (by simp)) _⟩
    simp [askV, codeOf, hm, hq.out]

end Go.Proofs.Ytpgilkemcaipiaa
