/- The road by what it has: contracts with the memory's shape put away. -/
import Derived.Test.YtceeekdephgcmaaRdF
import Derived.Lib.SmallJoins
import Derived.Laws.BytesArg
namespace Go.Proofs.Ytceeekdephgcmaa
open Go.RowKit

/-- What a packet says. -/
abbrev Key := Int × Bool × List Int
def Pk.key (p : Pk) : Key := (p.A, p.up, p.xs)

/-- The road at block r has the packets m, has sent n, and stands on the blocks F. -/
def RoadK (w : World) (F : List Nat) (r : Nat) (m : List Key) (n : Int) : Prop :=
  ∃ pv l, RoadAt w r pv l n ∧ m = l.map Pk.key ∧ F = footR r pv l ∧ l.length ≤ 1024 ∧ ∀ p ∈ l, p.xs.length ≤ 16384

theorem RoadK.frame {w w' : World} {F : List Nat} {r : Nat} {m : List Key} {n : Int} (h : RoadK w F r m n) {bs : List Nat} (u : Upd bs w w') (hb : ∀ k ∈ F, k ∉ bs) : RoadK w' F r m n := by
  obtain ⟨pv, l, hR, hm, rfl, hl, hx⟩ := h
  exact ⟨pv, l, hR.frame u hb, hm, rfl, hl, hx⟩
theorem RoadK.nil {w w' : World} {F : List Nat} {r : Nat} {m : List Key} {n : Int} (h : RoadK w F r m n) (u : Upd [] w w') : RoadK w' F r m n := h.frame u (by simp)
theorem RoadK.lt {w : World} {F : List Nat} {r : Nat} {m : List Key} {n : Int} (h : RoadK w F r m n) : ∀ k ∈ F, k < w.heap.size := by
  obtain ⟨pv, l, hR, hm, rfl, hl, hx⟩ := h
  exact hR.lt

/-- The blocks hold a road, packets or bytes. -/
theorem RoadK.types {w : World} {F : List Nat} {r : Nat} {m : List Key} {n : Int} (h : RoadK w F r m n) : ∀ k ∈ F, ∃ cs T fr, w.heap[k]? = some (.cells cs T fr) ∧ (T = 57 ∨ T = 33 ∨ T = 5) := by
  obtain ⟨pv, l, hR, hm, rfl, hl, hx⟩ := h
  intro k hk
  rcases List.mem_cons.1 hk with rfl | hk
  · exact ⟨_, _, _, hR.head, .inl rfl⟩
  · rcases foot_cases hk with e | ⟨p, hp, e⟩
    · rcases hR.rows.row.2 with ⟨h1, _⟩ | ⟨g, cap, cur, h1, _, hg, _⟩
      · subst h1; cases e
      · subst h1; simp [Value.ownBlock] at e; subst e; exact ⟨_, _, _, hg, .inr (.inl rfl)⟩
    · rcases (hR.rows.data p hp).own.2 with ⟨h1, _⟩ | ⟨g, cap, cur, h1, _, hg, _⟩
      · rw [h1] at e; cases e
      · rw [h1] at e; simp [Value.ownBlock] at e; subst e; exact ⟨_, _, _, hg, .inr (.inr rfl)⟩

theorem RoadK.not_own {w : World} {F : List Nat} {r : Nat} {m : List Key} {n : Int} (h : RoadK w F r m n) {b sz k : Nat} {e : TypeId} {v : Value} {xs : List Value} (h' : w.ownsRow b e sz v k xs) (he : e ≠ 57 ∧ e ≠ 33 ∧ e ≠ 5) {g : Nat} (hg : v.ownBlock = some g) : g ∉ F := by
  intro hm
  obtain ⟨cs, T, fr, h1, h2⟩ := h.types g hm
  rcases h'.2 with ⟨rfl, _⟩ | ⟨g', cap, cur, rfl, _, hg', _⟩
  · cases hg
  · simp [Value.ownBlock] at hg; subst hg
    rw [h1] at hg'
    simp at hg'
    rcases h2 with h2 | h2 | h2 <;> simp_all

def sendM (m : List Key) (A : Int) (up : Bool) (xs : List Int) : List Key := if sendCode A xs.length m.length = 0 then m ++ [(A, up, xs)] else m
def sendN (m : List Key) (A : Int) (xs : List Int) (n : Int) : Int := if sendCode A xs.length m.length = 0 then wrap64 (n + 1) else n
def seeIs (m : List Key) (i : Int) : Bool := decide (0 ≤ i ∧ i < m.length)
def seeV (m : List Key) (i : Int) : Key := if seeIs m i = true then m.getD i.toNat (0, false, []) else (0, false, [])
def takeM (m : List Key) (i : Int) : List Key := if seeIs m i = true then m.eraseIdx i.toNat else m
def dblCode (m : List Key) (i : Int) : Int := if seeIs m i = true then (if 1024 ≤ m.length then 7 else 0) else 9
def dblM (m : List Key) (i : Int) : List Key := if dblCode m i = 0 then m ++ [seeV m i] else m
def turnCode (m : List Key) (i a : Int) : Int := if seeIs m i = true ∧ 0 ≤ a ∧ a < (seeV m i).2.2.length then 0 else 9
def turnV (p : Key) (a b : Int) : Key := (p.1, p.2.1, p.2.2.set a.toNat (xorB (p.2.2.getD a.toNat 0) b))
def turnM (m : List Key) (i a b : Int) : List Key := if turnCode m i a = 0 then m.set i.toNat (turnV (seeV m i) a b) else m

theorem newK (w : World) :
    Calls Try.prog 7 #[] w fun e w' => e = .returned (.pointer (some ⟨w.heap.size, 0, none⟩)) ∧ RoadK w' [w.heap.size] w.heap.size [] 0 ∧ Upd [] w w' :=
  (new_road w).mono fun e w' ⟨h1, h2, h3⟩ => ⟨h1, ⟨_, _, h2, rfl, rfl, by simp, by simp⟩, h3⟩

theorem lenK {w : World} {F : List Nat} {r : Nat} {m : List Key} {n : Int} (h : RoadK w F r m n) :
    Calls Try.prog 14 #[.pointer (some ⟨r, 0, none⟩)] w fun e w' => e = .returned (.int .i64 m.length) ∧ w = w' := by
  obtain ⟨pv, l, hR, rfl, rfl, hl, hx⟩ := h
  exact (len_any hR).mono fun e w' ⟨h1, h2⟩ => ⟨by rw [h1]; simp, h2⟩

theorem sentK {w : World} {F : List Nat} {r : Nat} {m : List Key} {n : Int} (h : RoadK w F r m n) :
    Calls Try.prog 18 #[.pointer (some ⟨r, 0, none⟩)] w fun e w' => e = .returned (.int .i64 n) ∧ w = w' := by
  obtain ⟨pv, l, hR, rfl, rfl, hl, hx⟩ := h
  exact sent_any hR

theorem Upd.wide {bs cs : List Nat} {w w' : World} (u : Upd [] w w') : Upd cs w w' := u.mono (by simp)

theorem sendK {w : World} {F : List Nat} {r : Nat} {m : List Key} {n : Int} (h : RoadK w F r m n) (A : Int) (up : Bool) (dv : Value) (xs : List Int) (hb : BytesAt w dv xs) (hsz : xs.length ≤ 9223372036854775807) :
    Calls Try.prog 9 #[.pointer (some ⟨r, 0, none⟩), .agg #[.int .i64 A, .bool up, dv]] w fun e w' =>
      e = .returned (.int .i64 (sendCode A xs.length m.length)) ∧ (∃ F', RoadK w' F' r (sendM m A up xs) (sendN m A xs n) ∧ ∀ k ∈ F', k ∈ F ∨ w.heap.size ≤ k) ∧ Upd F w w' := by
  obtain ⟨pv, l, hR, rfl, rfl, hl, hx⟩ := h
  by_cases hc : sendCode A xs.length (l.map Pk.key).length = 0
  · unfold sendM sendN
    rw [if_pos hc, if_pos hc, hc]
    simp only [List.length_map] at hc
    have h1 : 1 ≤ A ∧ A ≤ 16 ∧ xs.length ≤ 16384 ∧ l.length < 1024 := by
      unfold sendCode at hc
      by_cases c1 : A < 1 ∨ 16 < A
      · rw [if_pos c1] at hc; omega
      · rw [if_neg c1] at hc
        by_cases c2 : 16384 < xs.length
        · rw [if_pos c2] at hc; omega
        · rw [if_neg c2] at hc
          by_cases c3 : 1024 ≤ l.length
          · rw [if_pos c3] at hc; omega
          · omega
    refine (send_ok hR A up dv xs hb h1.2.2.1 h1.2.2.2 h1.1 h1.2.1).mono ?_
    rintro e w' ⟨rfl, ⟨pv', dv', hR', hf⟩, hu⟩
    refine ⟨rfl, ⟨_, ⟨pv', _, hR', by simp [Pk.key], rfl, by simp; omega, fun p hp => ?_⟩, hf⟩, hu⟩
    rcases List.mem_append.1 hp with hp | hp
    · exact hx p hp
    · simp at hp; subst hp; exact h1.2.2.1
  · unfold sendM sendN
    rw [if_neg hc, if_neg hc]
    simp only [List.length_map] at hc ⊢
    refine (send_no hR A up dv xs hb hl hsz hc).mono ?_
    rintro e w' ⟨rfl, hu⟩
    exact ⟨rfl, ⟨_, ⟨pv, l, hR.nil hu, rfl, rfl, hl, hx⟩, fun k hk => .inl hk⟩, hu.mono (by simp)⟩

theorem seeIs_map {l : List Pk} {i : Int} : (seeIs (l.map Pk.key) i = true) ↔ ∃ j p, i = ((j : Nat) : Int) ∧ l[j]? = some p := by
  unfold seeIs
  simp only [List.length_map, decide_eq_true_eq]
  constructor
  · intro ⟨h1, h2⟩
    exact ⟨i.toNat, _, by omega, List.getElem?_eq_getElem (by omega)⟩
  · rintro ⟨j, p, rfl, hp⟩
    have := (List.getElem?_eq_some_iff.1 hp).1
    omega

theorem seeV_map {l : List Pk} {j : Nat} {p : Pk} (hp : l[j]? = some p) : seeV (l.map Pk.key) (j : Int) = p.key := by
  unfold seeV
  rw [if_pos (seeIs_map.2 ⟨j, p, rfl, hp⟩)]
  simp [List.getD_eq_getElem?_getD, hp]

theorem seeIs_no {l : List Pk} {i : Int} (h : ¬ seeIs (l.map Pk.key) i = true) : i < 0 ∨ (l.length : Int) ≤ i := by
  unfold seeIs at h
  simp only [List.length_map, decide_eq_true_eq] at h
  omega

theorem OwnBytes.none_ (w : World) : OwnBytes w (.slice none 0 0) [] := ⟨World.ownsRow_nil _ _ _ _, by simp⟩

theorem seeK {w : World} {F : List Nat} {r : Nat} {m : List Key} {n : Int} (h : RoadK w F r m n) (i : Int) :
    Calls Try.prog 13 #[.pointer (some ⟨r, 0, none⟩), .int .i64 i] w fun e w' =>
      (∃ dv', e = .returned (.tuple #[.agg #[.int .i64 (seeV m i).1, .bool (seeV m i).2.1, dv'], .bool (seeIs m i)]) ∧ OwnBytes w' dv' (seeV m i).2.2 ∧ ∀ k, dv'.ownBlock = some k → w.heap.size ≤ k) ∧ Upd [] w w' := by
  obtain ⟨pv, l, hR, rfl, rfl, hl, hx⟩ := h
  by_cases hc : seeIs (l.map Pk.key) i = true
  · obtain ⟨j, p, rfl, hp⟩ := seeIs_map.1 hc
    rw [hc, seeV_map hp]
    exact see_yes hR hl j p hp (hx p (List.mem_of_getElem? hp))
  · refine (see_no hR hl i (seeIs_no hc)).mono ?_
    rintro e w' ⟨rfl, hu⟩
    have h1 : seeIs (l.map Pk.key) i = false := by simpa using hc
    refine ⟨⟨.slice none 0 0, ?_, ?_, fun k hk => by cases hk⟩, hu⟩
    · unfold seeV; rw [if_neg hc, h1]
    · unfold seeV; rw [if_neg hc]; exact OwnBytes.none_ _

theorem takeK {w : World} {F : List Nat} {r : Nat} {m : List Key} {n : Int} (h : RoadK w F r m n) (i : Int) :
    Calls Try.prog 21 #[.pointer (some ⟨r, 0, none⟩), .int .i64 i] w fun e w' =>
      (∃ dv', e = .returned (.tuple #[.agg #[.int .i64 (seeV m i).1, .bool (seeV m i).2.1, dv'], .bool (seeIs m i)]) ∧ OwnBytes w' dv' (seeV m i).2.2 ∧ (∀ k, dv'.ownBlock = some k → w.heap.size ≤ k) ∧
        ∃ F', RoadK w' F' r (takeM m i) n ∧ ∀ k ∈ F', k ∈ F) ∧ Upd F w w' := by
  obtain ⟨pv, l, hR, rfl, rfl, hl, hx⟩ := h
  by_cases hc : seeIs (l.map Pk.key) i = true
  · obtain ⟨j, p, rfl, hp⟩ := seeIs_map.1 hc
    unfold takeM
    rw [hc, seeV_map hp, if_pos rfl]
    refine (take_yes hR hl j p hp (hx p (List.mem_of_getElem? hp))).mono ?_
    rintro e w' ⟨⟨dv', rfl, h2, h3, pv', h4, h5⟩, hu⟩
    refine ⟨⟨dv', rfl, h2, h3, _, ⟨pv', _, h4, ?_, rfl, ?_, fun q hq => hx q (List.mem_of_mem_eraseIdx hq)⟩, h5⟩, hu⟩
    · rw [List.eraseIdx_eq_take_drop_succ, List.eraseIdx_eq_take_drop_succ, List.map_append, List.map_take, List.map_drop]; rfl
    · have := (List.length_eraseIdx_le l j); omega
  · refine (take_no hR hl i (seeIs_no hc)).mono ?_
    rintro e w' ⟨rfl, hu⟩
    have h1 : seeIs (l.map Pk.key) i = false := by simpa using hc
    refine ⟨⟨.slice none 0 0, ?_, ?_, (fun k hk => by cases hk), ⟨_, ⟨pv, l, hR.nil hu, ?_, rfl, hl, hx⟩, fun k hk => hk⟩⟩, hu.mono (by simp)⟩
    · unfold seeV; rw [if_neg hc, h1]
    · unfold seeV; rw [if_neg hc]; exact OwnBytes.none_ _
    · unfold takeM; rw [if_neg hc]

theorem dblK {w : World} {F : List Nat} {r : Nat} {m : List Key} {n : Int} (h : RoadK w F r m n) (i : Int) :
    Calls Try.prog 11 #[.pointer (some ⟨r, 0, none⟩), .int .i64 i] w fun e w' =>
      e = .returned (.int .i64 (dblCode m i)) ∧ (∃ F', RoadK w' F' r (dblM m i) n ∧ ∀ k ∈ F', k ∈ F ∨ w.heap.size ≤ k) ∧ Upd F w w' := by
  obtain ⟨pv, l, hR, rfl, rfl, hl, hx⟩ := h
  by_cases hc : seeIs (l.map Pk.key) i = true
  · obtain ⟨j, p, rfl, hp⟩ := seeIs_map.1 hc
    have hj := (List.getElem?_eq_some_iff.1 hp).1
    by_cases hf : 1024 ≤ l.length
    · have hd : dblCode (l.map Pk.key) (j : Int) = 7 := by unfold dblCode; rw [if_pos hc, if_pos (by simpa using hf)]
      have hd2 : dblM (l.map Pk.key) (j : Int) = l.map Pk.key := by unfold dblM; rw [hd, if_neg (by decide)]
      rw [hd, hd2]
      refine (double_full hR (by omega) j (by omega)).mono ?_
      rintro e w' ⟨rfl, hu⟩
      exact ⟨rfl, ⟨_, ⟨pv, l, hR.nil hu, rfl, rfl, hl, hx⟩, fun k hk => .inl hk⟩, hu.mono (by simp)⟩
    · have hd : dblCode (l.map Pk.key) (j : Int) = 0 := by unfold dblCode; rw [if_pos hc, if_neg (by simpa using hf)]
      have hd2 : dblM (l.map Pk.key) (j : Int) = l.map Pk.key ++ [p.key] := by unfold dblM; rw [hd, if_pos rfl, seeV_map hp]
      rw [hd, hd2]
      refine (double_yes hR (by omega) j p hp (hx p (List.mem_of_getElem? hp))).mono ?_
      rintro e w' ⟨rfl, ⟨pv', dv', hR', hf'⟩, hu⟩
      refine ⟨rfl, ⟨_, ⟨pv', _, hR', by simp [Pk.key], rfl, by simp; omega, fun q hq => ?_⟩, hf'⟩, hu⟩
      rcases List.mem_append.1 hq with hq | hq
      · exact hx q hq
      · simp at hq; subst hq; exact hx p (List.mem_of_getElem? hp)
  · have hd : dblCode (l.map Pk.key) i = 9 := by unfold dblCode; rw [if_neg hc]
    have hd2 : dblM (l.map Pk.key) i = l.map Pk.key := by unfold dblM; rw [hd, if_neg (by decide)]
    rw [hd, hd2]
    refine (double_no hR hl i (seeIs_no hc)).mono ?_
    rintro e w' ⟨rfl, rfl⟩
    exact ⟨rfl, ⟨_, ⟨pv, l, hR, rfl, rfl, hl, hx⟩, fun k hk => .inl hk⟩, Upd.refl _ _⟩

theorem footR_set {r : Nat} {pv : Value} {l : List Pk} {j : Nat} {p q : Pk} (hp : l[j]? = some p) (hq : q.dv = p.dv) : ∀ k ∈ footR r pv (l.set j q), k ∈ footR r pv l := by
  intro k hk
  rcases List.mem_cons.1 hk with rfl | hk
  · simp [footR]
  · simp only [footR, List.mem_cons]
    refine .inr ?_
    rcases foot_cases hk with e | ⟨p', hp', e⟩
    · exact foot_row e
    · rcases List.mem_or_eq_of_mem_set hp' with h | rfl
      · exact foot_data h e
      · exact foot_data (List.mem_of_getElem? hp) (by rw [← hq]; exact e)

theorem turnK {w : World} {F : List Nat} {r : Nat} {m : List Key} {n : Int} (h : RoadK w F r m n) (i a b : Int) :
    Calls Try.prog 12 #[.pointer (some ⟨r, 0, none⟩), .int .i64 i, .int .i64 a, .int .u8 b] w fun e w' =>
      e = .returned (.int .i64 (turnCode m i a)) ∧ (∃ F', RoadK w' F' r (turnM m i a b) n ∧ ∀ k ∈ F', k ∈ F) ∧ Upd F w w' := by
  obtain ⟨pv, l, hR, rfl, rfl, hl, hx⟩ := h
  by_cases hc : seeIs (l.map Pk.key) i = true
  · obtain ⟨j, p, rfl, hp⟩ := seeIs_map.1 hc
    by_cases ha : 0 ≤ a ∧ a < p.xs.length
    · have hd : turnCode (l.map Pk.key) (j : Int) a = 0 := by unfold turnCode; rw [if_pos ⟨hc, ha.1, by rw [seeV_map hp]; exact ha.2⟩]
      have hd2 : turnM (l.map Pk.key) (j : Int) a b = (l.set j { p with xs := p.xs.set a.toNat (xorB (p.xs.getD a.toNat 0) b) }).map Pk.key := by
        unfold turnM; rw [hd, if_pos rfl, seeV_map hp, List.map_set]; rfl
      rw [hd, hd2]
      obtain ⟨t, rfl⟩ : ∃ t : Nat, a = t := ⟨a.toNat, by omega⟩
      have hg : p.xs[t]? = some (p.xs.getD t 0) := by rw [List.getD_eq_getElem?_getD, List.getElem?_eq_getElem (by omega)]; rfl
      refine (turn_yes hR hl j p hp t b _ hg).mono ?_
      rintro e w' ⟨rfl, hR', hu⟩
      refine ⟨rfl, ⟨_, ⟨pv, _, hR', rfl, rfl, by simpa using hl, fun q hq => ?_⟩, footR_set hp rfl⟩, hu⟩
      rcases List.mem_or_eq_of_mem_set hq with h | rfl
      · exact hx q h
      · simpa using hx p (List.mem_of_getElem? hp)
    · have hd : turnCode (l.map Pk.key) (j : Int) a = 9 := by unfold turnCode; rw [if_neg (fun h => ha ⟨h.2.1, by have := h.2.2; rw [seeV_map hp] at this; exact this⟩)]
      have hd2 : turnM (l.map Pk.key) (j : Int) a b = l.map Pk.key := by unfold turnM; rw [hd, if_neg (by decide)]
      rw [hd, hd2]
      refine (turn_far hR hl j p hp a b (by omega)).mono ?_
      rintro e w' ⟨rfl, rfl⟩
      exact ⟨rfl, ⟨_, ⟨pv, l, hR, rfl, rfl, hl, hx⟩, fun k hk => hk⟩, Upd.refl _ _⟩
  · have hd : turnCode (l.map Pk.key) i a = 9 := by unfold turnCode; rw [if_neg (fun h => hc h.1)]
    have hd2 : turnM (l.map Pk.key) i a b = l.map Pk.key := by unfold turnM; rw [hd, if_neg (by decide)]
    rw [hd, hd2]
    refine (turn_no hR hl i a b (seeIs_no hc)).mono ?_
    rintro e w' ⟨rfl, rfl⟩
    exact ⟨rfl, ⟨_, ⟨pv, l, hR, rfl, rfl, hl, hx⟩, fun k hk => hk⟩, Upd.refl _ _⟩

/-- Own bytes as a string. -/
theorem bytes_str {w : World} {p : Option Addr} {c k : Nat} {xs : List Int} (h : OwnBytes w (.slice p k c) xs) :
    (convert 26 9 (.slice p k c)).run Try.prog w = .ok (.string (strOfNums xs)) w := by
  rcases h.own.2 with ⟨h1, h2⟩ | ⟨g, cap, cur, h1, _⟩
  · simp at h1
    obtain ⟨rfl, rfl, rfl⟩ := h1
    obtain rfl : xs = [] := List.eq_nil_of_length_eq_zero h2
    exact run_convert_bytes_nil w 26 5 Try.underlying26 Try.underlying5 0 0 _ Try.underlying9
  · simp at h1
    obtain ⟨rfl, rfl, rfl⟩ := h1
    exact run_convert_bytes_arg w 26 5 Try.underlying26 Try.underlying5 g 0 _ _ xs rfl (fun i hi => by
      have := h.own.cells (g := g) rfl i (.int .u8 (xs.getD i 0)) (by simp [u8s, List.getD_eq_getElem?_getD, List.getElem?_eq_getElem hi])
      rw [add_at0] at this
      exact this) _ Try.underlying9

set_option maxRecDepth 100000 in
theorem takesK {w : World} {F : List Nat} {r : Nat} {m : List Key} {n : Int} (h : RoadK w F r m n) (i A : Int) (up : Bool) (xs : List Int) (his : seeIs m i = true) (hv : seeV m i = (A, up, xs)) :
    Calls Try.prog 10 #[.pointer (some ⟨r, 0, none⟩), .int .i64 i, .int .i64 A, .bool up, .string (strOfNums xs)] w fun e w' =>
      e = .returned (.bool true) ∧ (∃ F', RoadK w' F' r (takeM m i) n ∧ ∀ k ∈ F', k ∈ F) ∧ Upd F w w' := by
  go_enter Try.func10, Try.ntmps10
  go_wp2_with (go_at_call 21; refine (takeK h i).mono ?_; rw [his, hv]; rintro e w3 ⟨⟨dv', rfl, hob, hfr, F', hK, hF⟩, hu3⟩; dsimp only at hob; obtain ⟨p', c', rfl⟩ := hob.form; have u4 : Upd [] w3 (w3.alloc (.cells #[.int .i64 A, .bool up, .slice p' xs.length c'] 33)) := (Upd.refl [] w3).alloc _; have hcv := bytes_str (hob.frame u4 (by simp)); have hK4 := hK.nil u4)
  go_ret
  exact ⟨rfl, ⟨F', hK4, hF⟩, hu3.trans_nil u4⟩

end Go.Proofs.Ytceeekdephgcmaa
