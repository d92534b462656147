/- The document's road by what it has. -/
import Derived.Test.YtceeekdephgcmaaRdP
namespace Go.Proofs.Ytceeekdephgcmaa
open Go.RowKit

/-- The document's road at block r has the packets m, has sent n, and stands on the blocks F. -/
def DocK (w : World) (F : List Nat) (r : Nat) (m : List Key) (n : Int) : Prop :=
  ∃ pv l, DocAt w r pv l n ∧ m = l.map Pk.key ∧ F = footR r pv l ∧ l.length ≤ 1024 ∧ ∀ p ∈ l, p.xs.length ≤ 16384

theorem DocK.frame {w w' : World} {F : List Nat} {r : Nat} {m : List Key} {n : Int} (h : DocK w F r m n) {bs : List Nat} (u : Upd bs w w') (hb : ∀ k ∈ F, k ∉ bs) : DocK w' F r m n := by
  obtain ⟨pv, l, hR, hm, rfl, hl, hx⟩ := h
  exact ⟨pv, l, hR.frame u hb, hm, rfl, hl, hx⟩

theorem DocK.nil {w w' : World} {F : List Nat} {r : Nat} {m : List Key} {n : Int} (h : DocK w F r m n) (u : Upd [] w w') : DocK w' F r m n := h.frame u (by simp)

theorem DocK.lt {w : World} {F : List Nat} {r : Nat} {m : List Key} {n : Int} (h : DocK w F r m n) : ∀ k ∈ F, k < w.heap.size := by
  obtain ⟨pv, l, hR, hm, rfl, hl, hx⟩ := h
  exact hR.lt

theorem dsendK {w : World} {F : List Nat} {r : Nat} {m : List Key} {n : Int} (h : DocK w F r m n) (A : Int) (up : Bool) (dv : Value) (xs : List Int) (hb : BytesAt w dv xs) (hsz : xs.length ≤ 9223372036854775807) :
    Calls Try.prog 27 #[.pointer (some ⟨r, 0, none⟩), .agg #[.int .i64 A, .bool up, dv]] w fun e w' =>
      e = .returned (.int .i64 (sendCode A xs.length m.length)) ∧ (∃ F', DocK w' F' r (sendM m A up xs) (sendN m A xs n) ∧ ∀ k ∈ F', k ∈ F ∨ w.heap.size ≤ k) ∧ Upd F w w' := by
  obtain ⟨pv, l, hR, rfl, rfl, hl, hx⟩ := h
  by_cases hc : sendCode A xs.length (l.map Pk.key).length = 0
  · unfold sendM sendN
    rw [if_pos hc, if_pos hc, hc]
    simp only [List.length_map] at hc
    have h1 : 1 ≤ A ∧ A ≤ 16 ∧ xs.length ≤ 16384 ∧ l.length < 1024 := by
      unfold sendCode at hc
      by_cases c1 : A < 1 ∨ 16 < A
      · rw [if_pos c1] at hc; omega
      · rw [if_neg c1] at hc
        by_cases c2 : 16384 < xs.length
        · rw [if_pos c2] at hc; omega
        · rw [if_neg c2] at hc
          by_cases c3 : 1024 ≤ l.length
          · rw [if_pos c3] at hc; omega
          · omega
    refine (dsend_ok hR A up dv xs hb h1.2.2.1 h1.2.2.2 h1.1 h1.2.1).mono ?_
    rintro e w' ⟨rfl, ⟨pv', dv', hR', hf⟩, hu⟩
    refine ⟨rfl, ⟨_, ⟨pv', _, hR', by simp [Pk.key], rfl, by simp; omega, fun p hp => ?_⟩, hf⟩, hu⟩
    rcases List.mem_append.1 hp with hp | hp
    · exact hx p hp
    · simp at hp; subst hp; exact h1.2.2.1
  · unfold sendM sendN
    rw [if_neg hc, if_neg hc]
    simp only [List.length_map] at hc ⊢
    refine (dsend_no hR A up dv xs hb hl hsz hc).mono ?_
    rintro e w' ⟨rfl, hu⟩
    exact ⟨rfl, ⟨_, ⟨pv, l, hR.nil hu, rfl, rfl, hl, hx⟩, fun k hk => .inl hk⟩, hu.mono (by simp)⟩

theorem dseeK {w : World} {F : List Nat} {r : Nat} {m : List Key} {n : Int} (h : DocK w F r m n) (i : Int) :
    Calls Try.prog 19 #[.pointer (some ⟨r, 0, none⟩), .int .i64 i] w fun e w' =>
      (∃ dv', e = .returned (.tuple #[.agg #[.int .i64 (seeV m i).1, .bool (seeV m i).2.1, dv'], .bool (seeIs m i)]) ∧ OwnBytes w' dv' (seeV m i).2.2 ∧ ∀ k, dv'.ownBlock = some k → w.heap.size ≤ k) ∧ Upd [] w w' := by
  obtain ⟨pv, l, hR, rfl, rfl, hl, hx⟩ := h
  by_cases hc : seeIs (l.map Pk.key) i = true
  · obtain ⟨j, p, rfl, hp⟩ := seeIs_map.1 hc
    rw [hc, seeV_map hp]
    exact dsee_yes hR hl j p hp (hx p (List.mem_of_getElem? hp))
  · refine (dsee_no hR hl i (seeIs_no hc)).mono ?_
    rintro e w' ⟨rfl, hu⟩
    have h1 : seeIs (l.map Pk.key) i = false := by simpa using hc
    refine ⟨⟨.slice none 0 0, ?_, ?_, fun k hk => by cases hk⟩, hu⟩
    · unfold seeV; rw [if_neg hc, h1]
    · unfold seeV; rw [if_neg hc]; exact OwnBytes.none_ _

theorem dtakeK {w : World} {F : List Nat} {r : Nat} {m : List Key} {n : Int} (h : DocK w F r m n) (i : Int) :
    Calls Try.prog 28 #[.pointer (some ⟨r, 0, none⟩), .int .i64 i] w fun e w' =>
      (∃ dv', e = .returned (.tuple #[.agg #[.int .i64 (seeV m i).1, .bool (seeV m i).2.1, dv'], .bool (seeIs m i)]) ∧ OwnBytes w' dv' (seeV m i).2.2 ∧ (∀ k, dv'.ownBlock = some k → w.heap.size ≤ k) ∧
        ∃ F', DocK w' F' r (takeM m i) n ∧ ∀ k ∈ F', k ∈ F ∨ w.heap.size ≤ k) ∧ Upd F w w' := by
  obtain ⟨pv, l, hR, rfl, rfl, hl, hx⟩ := h
  by_cases hc : seeIs (l.map Pk.key) i = true
  · obtain ⟨j, p, rfl, hp⟩ := seeIs_map.1 hc
    unfold takeM
    rw [hc, seeV_map hp, if_pos rfl]
    refine (dtake_yes hR hl j p hp (hx p (List.mem_of_getElem? hp))).mono ?_
    rintro e w' ⟨⟨dv', rfl, h2, h3, pv', h4, h5⟩, hu⟩
    refine ⟨⟨dv', rfl, h2, h3, _, ⟨pv', _, h4, ?_, rfl, ?_, fun q hq => hx q (List.mem_of_mem_eraseIdx hq)⟩, h5⟩, hu⟩
    · rw [List.eraseIdx_eq_take_drop_succ, List.eraseIdx_eq_take_drop_succ, List.map_append, List.map_take, List.map_drop]; rfl
    · have := (List.length_eraseIdx_le l j); omega
  · refine (dtake_no hR hl i (seeIs_no hc)).mono ?_
    rintro e w' ⟨rfl, hu⟩
    have h1 : seeIs (l.map Pk.key) i = false := by simpa using hc
    refine ⟨⟨.slice none 0 0, ?_, ?_, (fun k hk => by cases hk), ⟨_, ⟨pv, l, hR.nil hu, ?_, rfl, hl, hx⟩, fun k hk => .inl hk⟩⟩, hu.mono (by simp)⟩
    · unfold seeV; rw [if_neg hc, h1]
    · unfold seeV; rw [if_neg hc]; exact OwnBytes.none_ _
    · unfold takeM; rw [if_neg hc]

theorem ddblK {w : World} {F : List Nat} {r : Nat} {m : List Key} {n : Int} (h : DocK w F r m n) (i : Int) :
    Calls Try.prog 29 #[.pointer (some ⟨r, 0, none⟩), .int .i64 i] w fun e w' =>
      e = .returned (.int .i64 (dblCode m i)) ∧ (∃ F', DocK w' F' r (dblM m i) n ∧ ∀ k ∈ F', k ∈ F ∨ w.heap.size ≤ k) ∧ Upd F w w' := by
  obtain ⟨pv, l, hR, rfl, rfl, hl, hx⟩ := h
  by_cases hc : seeIs (l.map Pk.key) i = true
  · obtain ⟨j, p, rfl, hp⟩ := seeIs_map.1 hc
    have hj := (List.getElem?_eq_some_iff.1 hp).1
    by_cases hf : 1024 ≤ l.length
    · have hd : dblCode (l.map Pk.key) (j : Int) = 7 := by unfold dblCode; rw [if_pos hc, if_pos (by simpa using hf)]
      have hd2 : dblM (l.map Pk.key) (j : Int) = l.map Pk.key := by unfold dblM; rw [hd, if_neg (by decide)]
      rw [hd, hd2]
      refine (ddouble_full hR (by omega) j p hp (hx p (List.mem_of_getElem? hp))).mono ?_
      rintro e w' ⟨rfl, hu⟩
      exact ⟨rfl, ⟨_, ⟨pv, l, hR.nil hu, rfl, rfl, hl, hx⟩, fun k hk => .inl hk⟩, hu.mono (by simp)⟩
    · have hd : dblCode (l.map Pk.key) (j : Int) = 0 := by unfold dblCode; rw [if_pos hc, if_neg (by simpa using hf)]
      have hd2 : dblM (l.map Pk.key) (j : Int) = l.map Pk.key ++ [p.key] := by unfold dblM; rw [hd, if_pos rfl, seeV_map hp]
      rw [hd, hd2]
      refine (ddouble_yes hR (by omega) j p hp (hx p (List.mem_of_getElem? hp))).mono ?_
      rintro e w' ⟨rfl, ⟨pv', dv', hR', hf'⟩, hu⟩
      refine ⟨rfl, ⟨_, ⟨pv', _, hR', by simp [Pk.key], rfl, by simp; omega, fun q hq => ?_⟩, hf'⟩, hu⟩
      rcases List.mem_append.1 hq with hq | hq
      · exact hx q hq
      · simp at hq; subst hq; exact hx p (List.mem_of_getElem? hp)
  · have hd : dblCode (l.map Pk.key) i = 9 := by unfold dblCode; rw [if_neg hc]
    have hd2 : dblM (l.map Pk.key) i = l.map Pk.key := by unfold dblM; rw [hd, if_neg (by decide)]
    rw [hd, hd2]
    refine (ddouble_no hR hl i (seeIs_no hc)).mono ?_
    rintro e w' ⟨rfl, hu⟩
    exact ⟨rfl, ⟨_, ⟨pv, l, hR.nil hu, rfl, rfl, hl, hx⟩, fun k hk => .inl hk⟩, hu.mono (by simp)⟩

theorem dturnK {w : World} {F : List Nat} {r : Nat} {m : List Key} {n : Int} (h : DocK w F r m n) (i a b : Int) :
    Calls Try.prog 30 #[.pointer (some ⟨r, 0, none⟩), .int .i64 i, .int .i64 a, .int .u8 b] w fun e w' =>
      e = .returned (.int .i64 (turnCode m i a)) ∧ (∃ F', DocK w' F' r (turnM m i a b) n ∧ ∀ k ∈ F', k ∈ F ∨ w.heap.size ≤ k) ∧ Upd F w w' := by
  obtain ⟨pv, l, hR, rfl, rfl, hl, hx⟩ := h
  by_cases hc : seeIs (l.map Pk.key) i = true
  · obtain ⟨j, p, rfl, hp⟩ := seeIs_map.1 hc
    by_cases ha : 0 ≤ a ∧ a < p.xs.length
    · have hd : turnCode (l.map Pk.key) (j : Int) a = 0 := by unfold turnCode; rw [if_pos ⟨hc, ha.1, by rw [seeV_map hp]; exact ha.2⟩]
      have hd2 : turnM (l.map Pk.key) (j : Int) a b = (l.set j { p with xs := p.xs.set a.toNat (xorB (p.xs.getD a.toNat 0) b) }).map Pk.key := by
        unfold turnM; rw [hd, if_pos rfl, seeV_map hp, List.map_set]; rfl
      rw [hd, hd2]
      obtain ⟨t, rfl⟩ : ∃ t : Nat, a = t := ⟨a.toNat, by omega⟩
      have hg : p.xs[t]? = some (p.xs.getD t 0) := by rw [List.getD_eq_getElem?_getD, List.getElem?_eq_getElem (by omega)]; rfl
      refine (dturn_yes hR hl j p hp (hx p (List.mem_of_getElem? hp)) t b _ hg).mono ?_
      rintro e w' ⟨rfl, ⟨dv', hR', hf⟩, hu⟩
      refine ⟨rfl, ⟨_, ⟨pv, _, hR', ?_, rfl, by simpa using hl, fun q hq => ?_⟩, hf⟩, hu⟩
      · rw [List.map_set, List.map_set]; rfl
      · rcases List.mem_or_eq_of_mem_set hq with h | rfl
        · exact hx q h
        · simpa using hx p (List.mem_of_getElem? hp)
    · have hd : turnCode (l.map Pk.key) (j : Int) a = 9 := by unfold turnCode; rw [if_neg (fun h => ha ⟨h.2.1, by have := h.2.2; rw [seeV_map hp] at this; exact this⟩)]
      have hd2 : turnM (l.map Pk.key) (j : Int) a b = l.map Pk.key := by unfold turnM; rw [hd, if_neg (by decide)]
      rw [hd, hd2]
      refine (dturn_far hR hl j p hp (hx p (List.mem_of_getElem? hp)) a b (by omega)).mono ?_
      rintro e w' ⟨rfl, hu⟩
      exact ⟨rfl, ⟨_, ⟨pv, l, hR.nil hu, rfl, rfl, hl, hx⟩, fun k hk => .inl hk⟩, hu.mono (by simp)⟩
  · have hd : turnCode (l.map Pk.key) i a = 9 := by unfold turnCode; rw [if_neg (fun h => hc h.1)]
    have hd2 : turnM (l.map Pk.key) i a b = l.map Pk.key := by unfold turnM; rw [hd, if_neg (by decide)]
    rw [hd, hd2]
    refine (dturn_no hR hl i a b (seeIs_no hc)).mono ?_
    rintro e w' ⟨rfl, hu⟩
    exact ⟨rfl, ⟨_, ⟨pv, l, hR.nil hu, rfl, rfl, hl, hx⟩, fun k hk => .inl hk⟩, hu.mono (by simp)⟩

theorem DocK.cells {w : World} {F : List Nat} {r : Nat} {m : List Key} {n : Int} (h : DocK w F r m n) : ∃ p c, w.cell? ⟨r, 0, none⟩ = some (.slice p m.length c) ∧ w.cell? ⟨r, 1, none⟩ = some (.int .i64 n) ∧ m.length ≤ 1024 := by
  obtain ⟨pv, l, hR, rfl, rfl, hl, hx⟩ := h
  obtain ⟨p, c, rfl⟩ := hR.rows.len
  exact ⟨p, c, by rw [hR.head.cell 0 rfl]; simp, hR.head.cell 1 rfl, by simpa using hl⟩

theorem DocK.new {w : World} (w' : World) (u : Upd [] w w') (h : Blk w' w.heap.size [.slice none 0 0, .int .i64 0] 49) : DocK w' [w.heap.size] w.heap.size [] 0 :=
  ⟨_, [], ⟨h, ⟨World.ownsRow_nil _ _ _ _, by simp, by simp⟩⟩, rfl, rfl, by simp, by simp⟩

end Go.Proofs.Ytceeekdephgcmaa
