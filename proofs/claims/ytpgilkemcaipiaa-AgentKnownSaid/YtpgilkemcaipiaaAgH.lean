/- The document's agent: Done. -/
import Derived.Test.YtpgilkemcaipiaaAgG
namespace Go.Proofs.Ytpgilkemcaipiaa
open Go.RowKit

theorem int_info : (Try.prog.info? 3).map (fun i => (i.zero, i.size, i.bytes)) = some (some (.int .i64 0), 1, 8) := by kernel_rfl

def ints (ys : List Int) : List Value := ys.map (Value.int .i64)

theorem listAt_own {w : World} {e : TypeId} {own base m L : Nat} {v : Value} {ys : List Int} (h : w.ownsRow own e 1 v ys.length (ints ys)) (hb : base ≤ own) (hm : m < own) (hl : ys.length ≤ L)
    (hx : ∀ x ∈ ys, 1 ≤ x ∧ x ≤ 9007199254740991) : ListAt w m base L v ys := by
  rcases h.2 with ⟨rfl, h0⟩ | ⟨g, cap, cur, rfl, hg, _⟩
  · refine ⟨none, 0, by rw [h0], hl, fun i x hi => ?_⟩
    have : i < ys.length := (List.getElem?_eq_some_iff.1 hi).1
    omega
  · refine ⟨_, cap, rfl, hl, fun i x hi => ⟨g, rfl, by omega, by omega, ?_, hx x (List.mem_of_getElem? hi)⟩⟩
    have := h.cells (g := g) rfl i (.int .i64 x) (by simp [ints, hi])
    rw [← this]
    unfold Addr.add; split
    · simp_all
    · simp

theorem refCells_high (cm : Nat → Value) (st : Nat → Win) (n : Int) (i : Nat) (hi : i < 17) (v : Win) : (refCells cm st n).set (17 + i) (.int .i64 v.H) = refCells cm (setW st i v) n := by
  unfold refCells
  rw [row_set]
  apply row_congr
  intro j hj
  unfold put1 setW
  by_cases e : j = 17 + i
  · subst e
    rw [if_pos rfl, if_neg (by omega), if_pos (by omega), show 17 + i - 17 = i by omega, if_pos rfl]
  · rw [if_neg e]
    dsimp only
    by_cases h1 : j < 17
    · rw [if_pos h1, if_pos h1]
    · rw [if_neg h1, if_neg h1]
      by_cases h2 : j < 34
      · rw [if_pos h2, if_pos h2, if_neg (by omega)]
      · rw [if_neg h2, if_neg h2]

def setL {α : Type} (f : Nat → α) (i : Nat) (v : α) : Nat → α := fun j => if j = i then v else f j

theorem refCells_list (cm : Nat → Value) (st : Nat → Win) (n : Int) (i : Nat) (hi : i < 17) (v : Value) : (refCells cm st n).set i v = refCells (setL cm i v) st n := by
  unfold refCells
  rw [row_set]
  apply row_congr
  intro j hj
  unfold put1 setL
  by_cases e : j = i
  · subst e; simp [hi]
  · simp [e]

/-- What Done keeps. -/
def keepL (H s : Int) (xs : List Int) (k : Nat) : List Int := s :: (xs.take k).filter fun x => decide (H - 32 < x)
theorem keepL_len (H s : Int) (xs : List Int) (k : Nat) : (keepL H s xs k).length ≤ k + 1 := by
  unfold keepL
  have := List.length_filter_le (fun x => decide (H - 32 < x)) (xs.take k)
  simp at this ⊢; omega
theorem keepL_take (H s : Int) (xs : List Int) (k : Nat) (x : Int) (h : xs[k]? = some x) : keepL H s xs (k + 1) = keepL H s xs k ++ (if H - 32 < x then [x] else []) := by
  unfold keepL
  rw [List.take_add_one, h]
  simp only [Option.toList_some, List.filter_append, List.cons_append]
  congr 2
  by_cases e : H - 32 < x <;> simp [e]

theorem rel_done {st : Nat → Win} {Ls : Nat → List Int} (hr : Rel st Ls) (i : Nat) (i1 : 1 ≤ i) (i2 : i < 17) (s : Int) (s1 : 1 ≤ s) (s2 : s ≤ 9007199254740991) (hw : whatI (st i).H (st i).B s = 0) :
    Rel (setW st i (doneW (st i) i s)) (setL Ls i (keepL (doneW (st i) i s).H s (Ls i) (Ls i).length)) := by
  have ok := hr.inv.ok i
  refine ⟨?_, fun j hj x => ?_⟩
  · have := hr.inv.step i s
    have hm : mayB i s = true := by simp [mayB]; omega
    unfold stepSt at this
    rw [hm] at this
    simp only [if_true, Int.toNat_natCast] at this
    unfold doneV at this
    rw [if_pos hw] at this
    exact this
  · unfold setW setL
    by_cases e : j = i
    · subst e
      rw [if_pos rfl, if_pos rfl, done_came (st j) ok j s hw x, ← hr.came j hj x]
      have hH := done_H (st j) j s
      have hlow : (st j).H - s < 32 := by
        rw [what_is (st j) ok s] at hw
        split at hw
        · cases hw
        · omega
      unfold keepL
      rw [List.take_length]
      simp only [List.mem_cons, List.mem_filter, decide_eq_true_eq]
      constructor
      · rintro (rfl | ⟨h1, h2⟩)
        · exact ⟨.inl rfl, by omega⟩
        · exact ⟨.inr h1, by omega⟩
      · rintro ⟨rfl | h1, h2⟩
        · exact .inl rfl
        · exact .inr ⟨h1, by omega⟩
    · rw [if_neg e, if_neg e]
      exact hr.came j hj x

set_option maxHeartbeats 2000000 in
set_option maxRecDepth 100000 in
theorem rdone_fresh {w : World} {m base L : Nat} {cm : Nat → Value} {st : Nat → Win} {n : Int} {Ls : Nat → List Int} (h : RTab w m base L cm st n Ls) (hL : L ≤ 1000) (hr : Rel st Ls) (i : Nat) (i1 : 1 ≤ i) (i2 : i < 17) (s : Int) (s1 : 1 ≤ s) (s2 : s ≤ 9007199254740991)
    (hw : Hid (whatI (st i).H (st i).B s = 0)) (v : Win) (hv : Hid (doneW (st i) i s = v)) :
    Calls Try.prog 18 #[.pointer (some ⟨m, 0, none⟩), .int .i64 i, .int .i64 s] w fun e w' =>
      e = .returned (.int .i64 0) ∧ (∃ cm', RTab w' m base (L + 1) cm' (setW st i v) n (setL Ls i (keepL v.H s (Ls i) (Ls i).length))) ∧ Upd [m] w w' := by
  have hmay : mayB i s = true := by simp [mayB]; omega
  have ch := h.high i2
  have fh := h.blk.free (17 + i)
  have hvH : v.H = max (st i).H s := by rw [← hv.out]; exact done_H _ _ _
  obtain ⟨p, cap, hcm, hlen, hx⟩ := h.lists i i2
  obtain ⟨xs, hxs⟩ : ∃ xs, Hid (Ls i = xs) := ⟨_, Lib.hid rfl⟩
  rw [hxs.out] at hlen hx hcm ⊢
  have hml := h.blk.lt
  have hlow := h.low
  obtain ⟨o1, o2, _, _⟩ := hr.inv.ok i
  obtain ⟨i0, hi, hz0, hz1, hz2⟩ := info_parts int_info
  have hblk : Blk (w.setCell ⟨m, 17 + i, none⟩ (.int .i64 v.H)) m (refCells cm (setW st i v) n) 55 := by
    rw [← refCells_high cm st n i i2 v]; exact h.blk.set (17 + i) _
  go_enter Try.func18, Try.ntmps18
  go_wp2_with (first
    | (go_at_call 28; refine (rmay_any _ _ _).mono ?_; rw [hmay]; rintro e w' ⟨rfl, rfl⟩)
    | (go_at_call 29; refine (rwhat_any h hL hr i i2 s s1 s2 0 hw).mono ?_; rintro e w' ⟨rfl, rfl⟩))
  go_region
  go_wp2_with fail
  go_loopw [7, 8] (fun lv kv wr => ∃ (k : Nat) (ys : List Int), k ≤ xs.length ∧ kv = .int .i64 k ∧ Hid (keepL v.H s xs k = ys) ∧ ys.length ≤ k + 1 ∧ wr.ownsRow w.heap.size 3 1 lv ys.length (ints ys) ∧
      Blk wr m (refCells cm (setW st i v) n) 55 ∧ Upd [m] w wr)
    (fun _ kv _ => xs.length - (intOf kv).toNat)
  case atStart =>
    refine ⟨0, [s], by omega, rfl, Lib.hid (by simp [keepL]), by simp, ?_, ?_, ?_⟩
    · have := World.ownsRow_lit (e := 3) (size := 1) (w.setCell ⟨m, 17 + i, none⟩ (.int .i64 (max (st i).H s))) #[.int .i64 s] 1 (base := w.heap.size) (by simp) (by simp [maxLen]) rfl
      exact (by simpa [ints] using this : World.ownsRow _ _ _ _ _ _ _).drew
    · rw [← hvH]; exact (hblk.drew).alloc _
    · exact (((Upd.refl [m] _).setCell (Or.inl (by simp)) _).drew).alloc _
  case round =>
    obtain ⟨k, ys, hk, rfl, hys, hyl, hown, hb, hu⟩ := hrel
    have c0 := hb.cell i (row_get _ (show i < 35 by omega))
    rw [if_pos i2, hcm] at c0
    have c1 := hb.cell (17 + i) (row_get _ (show 17 + i < 35 by omega))
    rw [if_neg (by omega), if_pos (by omega), show 17 + i - 17 = i by omega] at c1
    have c1' : wr.cell? ⟨m, 17 + i, none⟩ = some (.int .i64 v.H) := by rw [c1]; simp [setW]
    clear c1
    have hu2 := hu.size
    by_cases hlt : k < xs.length
    · obtain ⟨x, hxi⟩ : ∃ x, xs[k]? = some x := ⟨_, List.getElem?_eq_getElem hlt⟩
      obtain ⟨b, rfl, hbm, _, hc, x1, x2⟩ := hx k x hxi
      have hc' : wr.cell? ⟨b, k, none⟩ = some (.int .i64 x) := by rw [hu.cell (lt_of_cell hc) (by simpa using hbm)]; exact hc
      have htk := keepL_take v.H s xs k x hxi
      have Hxi := Lib.hid hxi; clear hxi
      by_cases e : v.H - 32 < x
      · rw [if_pos e, hys.out] at htk
        have Htk := Lib.hid htk; clear htk
        go_wp2_with fail
        go_quiet (fail)
        go_wp2_with (at_builtin; refine wpList_append_own _ rfl _ _ 22 rfl w.heap.size 3 i0 _ 1 8 Try.underlying22 hi hz0 hz1 hz2 rfl (by decide) _ _ _ rfl ((show World.ownsRow (wr.drewN nq) w.heap.size _ _ _ _ _ from hown).alloc _) ⟨wr.heap.size, 0, none⟩ 1 1 [.int .i64 x] rfl rfl ?c1 ?c2 ?c3 ?c4 ?c5 ?_)
        case c1 => intro j u hj; match j, hj with
          | 0, hj => cases hj; exact (Blk.new (wr.drewN nq) _ _).cell 0 rfl
        case c2 => intro u hu; simp at hu; subst hu; rfl
        case c3 => simp only [maxLen]; omega
        case c4 => omega
        case c5 => simp; omega
        intro v' w1 hown1 hgrow1 hnil1
        go_wp2_with fail
        have hug := (((hu.of_drewN nq).alloc (.cells #[.int .i64 x] 3))).grown hgrow1 (fun j hj => by
          have := (hown.lt j hj).1
          exact .inr this)
        refine ⟨⟨k + 1, ys ++ [x], by omega, by go_num, Htk, by simp; omega, (by simpa [ints] using hown1), ?_, hug⟩, by simp [intOf]; omega⟩
        refine (((hb.of_drewN nq).alloc (.cells #[.int .i64 x] 3))).of_heap (hgrow1.block m (by have := hb.lt; simp; omega) fun e => ?_)
        have := (hown.lt m e.symm).1
        omega
      · rw [if_neg e, hys.out, List.append_nil] at htk
        have Htk := Lib.hid htk; clear htk
        go_wp2_with fail
        go_quiet (fail)
        go_wp2_with fail
        exact ⟨⟨k + 1, ys, by omega, by go_num, Htk, by omega, hown, hb.of_drewN _, hu.of_drewN _⟩, by simp [intOf]; omega⟩
    · obtain rfl : k = xs.length := by omega
      have fr := hb.free i
      have hy1 : 0 < ys.length := by rw [← hys.out]; simp [keepL]
      obtain ⟨g, cp, rfl, hg1, hg2⟩ := hown.form hy1
      go_wp2_with fail
      go_ret
      have hup : Upd [m] w (wr.setCell ⟨m, i, none⟩ (.slice (some ⟨g, 0, none⟩) ys.length cp)) := hu.setCell (Or.inl (by simp)) _
      have hus : Upd [m] wr (wr.setCell ⟨m, i, none⟩ (.slice (some ⟨g, 0, none⟩) ys.length cp)) := (Upd.refl [m] _).setCell (Or.inl (by simp)) _
      refine ⟨rfl, ⟨setL cm i (.slice (some ⟨g, 0, none⟩) ys.length cp), ⟨?_, fun j hj => ?_, hlow⟩⟩, hup⟩
      · rw [← refCells_list cm _ n i i2]; exact hb.set i _
      · unfold setL
        by_cases e : j = i
        · rw [if_pos e, if_pos e, hys.out]
          refine (listAt_own hown (by omega) hml (by omega) fun x hm => ?_).upd hus (by simp)
          rw [← hys.out] at hm
          unfold keepL at hm
          rcases List.mem_cons.1 hm with rfl | hm
          · exact ⟨s1, s2⟩
          · rw [List.take_length] at hm
            obtain ⟨q, hq⟩ := List.getElem?_of_mem (List.mem_filter.1 hm).1
            obtain ⟨_, _, _, _, _, k5⟩ := hx q x hq
            exact k5
        · rw [if_neg e, if_neg e]
          exact ((h.lists j hj).upd hup (by simp)).more (by omega)

/-- Done of both tables. -/
theorem rdone_all {w : World} {m base L : Nat} {cm : Nat → Value} {st : Nat → Win} {n : Int} {Ls : Nat → List Int} (h : RTab w m base L cm st n Ls) (hL : L ≤ 1000) (hr : Rel st Ls) (a s : Int) :
    Calls Try.prog 18 #[.pointer (some ⟨m, 0, none⟩), .int .i64 a, .int .i64 s] w fun e w' =>
      e = .returned (.int .i64 (codeOf (mayB a s))) ∧ (∃ cm' Ls', RTab w' m base (L + 1) cm' (stepSt st a s) n Ls' ∧ Rel (stepSt st a s) Ls') ∧ Upd [m] w w' := by
  have hmore : RTab w m base (L + 1) cm st n Ls := ⟨h.blk, fun i hi => (h.lists i hi).more (by omega), h.low⟩
  cases hm : mayB a s
  · have e : stepSt st a s = st := by unfold stepSt; rw [hm]; rfl
    rw [e]
    go_enter Try.func18, Try.ntmps18
    go_wp2_with (go_at_call 28; refine (rmay_any _ _ _).mono ?_; rw [hm]; rintro e w' ⟨rfl, rfl⟩)
    go_ret
    exact ⟨ret_int (by simp [codeOf]), ⟨cm, Ls, hmore, hr⟩, Upd.refl _ _⟩
  · obtain ⟨a1, a2, s1, s2⟩ := may_bd hm
    obtain ⟨i, rfl⟩ := Int.eq_ofNat_of_zero_le (show 0 ≤ a by omega)
    by_cases hw : whatI (st i).H (st i).B s = 0
    · have e : stepSt st i s = setW st i (doneW (st i) i s) := by
        unfold stepSt doneV; rw [hm]; simp [hw]
      rw [e]
      exact (rdone_fresh h hL hr i (by omega) (by omega) s s1 s2 (Lib.hid hw) _ (Lib.hid rfl)).mono fun e w' ⟨h1, ⟨cm', h2⟩, h3⟩ =>
        ⟨by rw [h1]; rfl, ⟨cm', _, h2, rel_done hr i (by omega) (by omega) s s1 s2 hw⟩, h3⟩
    · have e : stepSt st i s = st := by
        unfold stepSt doneV; rw [hm]; simp [hw, setW_same]
      rw [e]
      obtain ⟨q, hq⟩ : ∃ q, Hid (whatI (st i).H (st i).B s = q) := ⟨_, Lib.hid rfl⟩
      rw [hq.out] at hw
      have hw' : (q != 0) = true := by simpa using hw
      go_enter Try.func18, Try.ntmps18
      go_wp2_with (first
        | (go_at_call 28; refine (rmay_any _ _ _).mono ?_; rw [hm]; rintro e w' ⟨rfl, rfl⟩)
        | (go_at_call 29; refine (rwhat_any h hL hr i (by omega) s s1 s2 q hq).mono ?_; rintro e w' ⟨rfl, rfl⟩))
      go_ret
      exact ⟨ret_int (by simp [codeOf]), ⟨cm, Ls, hmore, hr⟩, Upd.refl _ _⟩

end Go.Proofs.Ytpgilkemcaipiaa
