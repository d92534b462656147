/- The road: its memory, and contracts of its small functions. -/
import Derived.Test.YtceeekdephgcmaaChecked
import Derived.Test.YtceeekdephgcmaaBase
import Derived.Test.YtceeekdephgcmaaShelf
import Derived.RegionTactic
import Derived.ChangeAlike
import Derived.Deep.AppendLies
import Derived.Deep.RegionHeld3
import Derived.Deep.CutBlock
import Derived.Deep.DeepCutAuto
import Derived.StillTailTactics
namespace Go.Proofs.Ytceeekdephgcmaa
open Go.RowKit

/-- A packet: its cells, and its bytes. -/
structure Pk where
  A : Int
  up : Bool
  dv : Value
  xs : List Int

def pkVals (l : List Pk) : List Value := l.flatMap fun p => [.int .i64 p.A, .bool p.up, p.dv]
theorem pkVals_cons (p : Pk) (l : List Pk) : pkVals (p :: l) = .int .i64 p.A :: .bool p.up :: p.dv :: pkVals l := by simp [pkVals]
theorem pkVals_app (l m : List Pk) : pkVals (l ++ m) = pkVals l ++ pkVals m := by simp [pkVals]
theorem pkVals_len (l : List Pk) : (pkVals l).length = l.length * 3 := by
  induction l with
  | nil => rfl
  | cons a l ih => rw [pkVals_cons]; simp [ih]; omega
theorem pkVals_get (l : List Pk) (i : Nat) (p : Pk) (h : l[i]? = some p) : (pkVals l)[i * 3]? = some (.int .i64 p.A) ∧ (pkVals l)[i * 3 + 1]? = some (.bool p.up) ∧ (pkVals l)[i * 3 + 2]? = some p.dv := by
  induction l generalizing i with
  | nil => simp at h
  | cons a l ih =>
    cases i with
    | zero => simp at h; subst h; simp [pkVals_cons]
    | succ i =>
      have := ih i (by simpa using h)
      rw [show (i + 1) * 3 = i * 3 + 1 + 1 + 1 by omega, pkVals_cons]
      exact this

def u8s (xs : List Int) : List Value := xs.map (Value.int .u8)

/-- Bytes in memory that is the road's own. -/
structure OwnBytes (w : World) (v : Value) (xs : List Int) : Prop where
  own : w.ownsRow 0 5 1 v xs.length (u8s xs)
  bd : ∀ x ∈ xs, 0 ≤ x ∧ x ≤ 255

/-- Packets in a row, each with bytes of its own. -/
structure RowAt (w : World) (T : TypeId) (pv : Value) (l : List Pk) : Prop where
  row : w.ownsRow 0 T 3 pv l.length (pkVals l)
  data : ∀ p ∈ l, OwnBytes w p.dv p.xs
  sep : l.Pairwise fun p q => ∀ k, p.dv.ownBlock = some k → q.dv.ownBlock ≠ some k

/-- The blocks that a row of packets stands on. -/
def foot (pv : Value) (l : List Pk) : List Nat := pv.ownBlock.toList ++ l.flatMap fun p => p.dv.ownBlock.toList

theorem own_frame {w w' : World} {base : Nat} {e : TypeId} {size n : Nat} {v : Value} {xs : List Value} (h : w.ownsRow base e size v n xs) {bs : List Nat} (u : Upd bs w w') (hb : ∀ k, v.ownBlock = some k → k ∉ bs) : w'.ownsRow base e size v n xs := by
  refine ⟨h.1, ?_⟩
  rcases h.2 with hn | ⟨g, cap, cur, rfl, hg, hgg, rest⟩
  · exact .inl hn
  · refine .inr ⟨g, cap, cur, rfl, hg, ?_, rest⟩
    rw [u.block g (Array.getElem?_eq_some_iff.1 hgg).1 (hb g rfl)]
    exact hgg

theorem OwnBytes.frame {w w' : World} {v : Value} {xs : List Int} (h : OwnBytes w v xs) {bs : List Nat} (u : Upd bs w w') (hb : ∀ k, v.ownBlock = some k → k ∉ bs) : OwnBytes w' v xs := ⟨own_frame h.own u hb, h.bd⟩

theorem foot_row {pv : Value} {l : List Pk} {k : Nat} (h : pv.ownBlock = some k) : k ∈ foot pv l := by simp [foot, h]
theorem foot_data {pv : Value} {l : List Pk} {p : Pk} (hp : p ∈ l) {k : Nat} (h : p.dv.ownBlock = some k) : k ∈ foot pv l := by
  simp only [foot, List.mem_append, List.mem_flatMap]
  exact .inr ⟨p, hp, by simp [h]⟩
theorem foot_cases {pv : Value} {l : List Pk} {k : Nat} (h : k ∈ foot pv l) : pv.ownBlock = some k ∨ ∃ p ∈ l, p.dv.ownBlock = some k := by
  simp only [foot, List.mem_append, List.mem_flatMap, Option.mem_toList] at h
  exact h

theorem RowAt.frame {w w' : World} {T : TypeId} {pv : Value} {l : List Pk} (h : RowAt w T pv l) {bs : List Nat} (u : Upd bs w w') (hb : ∀ k ∈ foot pv l, k ∉ bs) : RowAt w' T pv l :=
  ⟨own_frame h.row u (fun k hk => hb k (foot_row hk)), fun p hp => (h.data p hp).frame u (fun k hk => hb k (foot_data hp hk)), h.sep⟩

theorem RowAt.lt {w : World} {T : TypeId} {pv : Value} {l : List Pk} (h : RowAt w T pv l) : ∀ k ∈ foot pv l, k < w.heap.size := by
  intro k hk
  rcases foot_cases hk with e | ⟨p, hp, e⟩
  · exact (h.row.lt k e).2
  · exact ((h.data p hp).own.lt k e).2

/-- The cells of one packet of a row. -/
theorem RowAt.at_ {w : World} {T : TypeId} {pv : Value} {l : List Pk} (h : RowAt w T pv l) {i : Nat} {p : Pk} (hp : l[i]? = some p) :
    ∃ g cap, pv = .slice (some ⟨g, 0, none⟩) l.length cap ∧ w.cell? ⟨g, i * 3, none⟩ = some (.int .i64 p.A) ∧ w.cell? ⟨g, i * 3 + 1, none⟩ = some (.bool p.up) ∧ w.cell? ⟨g, i * 3 + 2, none⟩ = some p.dv ∧ w.frozen? ⟨g, i * 3 + 2, none⟩ = false := by
  have hi : i < l.length := (List.getElem?_eq_some_iff.1 hp).1
  obtain ⟨g, cap, rfl, _, _⟩ := h.row.form (by omega)
  obtain ⟨h1, h2, h3⟩ := pkVals_get l i p hp
  exact ⟨g, cap, rfl, by rw [h.row.cellAt _ (by omega)]; exact h1, by rw [h.row.cellAt _ (by omega)]; exact h2, by rw [h.row.cellAt _ (by omega)]; exact h3, h.row.frozenAt _⟩

/-- A block holds cells of one type. -/
theorem own_type {w : World} {a b : Nat} {e e' : TypeId} {s s' n n' : Nat} {v v' : Value} {xs xs' : List Value} (h : w.ownsRow a e s v n xs) (h' : w.ownsRow b e' s' v' n' xs') (hne : e ≠ e') {k : Nat} (hk : v.ownBlock = some k) : v'.ownBlock ≠ some k := by
  intro hk'
  rcases h.2 with ⟨rfl, _⟩ | ⟨g, cap, cur, rfl, _, hg, _⟩
  · cases hk
  · rcases h'.2 with ⟨rfl, _⟩ | ⟨g', cap', cur', rfl, _, hg', _⟩
    · cases hk'
    · simp [Value.ownBlock] at hk hk'
      subst hk; subst hk'
      rw [hg] at hg'
      simp at hg'
      exact hne hg'.2

/-- The road at block r. -/
structure RoadAt (w : World) (r : Nat) (pv : Value) (l : List Pk) (n : Int) : Prop where
  head : Blk w r [.bool true, pv, .int .i64 n] 57
  rows : RowAt w 33 pv l

/-- The blocks that the road stands on. -/
def footR (r : Nat) (pv : Value) (l : List Pk) : List Nat := r :: foot pv l

theorem blk_type {w : World} {r : Nat} {cs : List Value} {T : TypeId} (h : Blk w r cs T) {e : TypeId} {a s n : Nat} {v : Value} {xs : List Value} (h' : w.ownsRow a e s v n xs) (hne : T ≠ e) : v.ownBlock ≠ some r := by
  intro hk
  rcases h'.2 with ⟨rfl, _⟩ | ⟨g, cap, cur, rfl, _, hg, _⟩
  · cases hk
  · simp [Value.ownBlock] at hk
    subst hk
    unfold Blk at h
    rw [h] at hg
    simp at hg
    exact hne hg.2

theorem RoadAt.frame {w w' : World} {r : Nat} {pv : Value} {l : List Pk} {n : Int} (h : RoadAt w r pv l n) {bs : List Nat} (u : Upd bs w w') (hb : ∀ k ∈ footR r pv l, k ∉ bs) : RoadAt w' r pv l n :=
  ⟨h.head.upd u (hb r (by simp [footR])), h.rows.frame u (fun k hk => hb k (by simp [footR, hk]))⟩
theorem RoadAt.nil {w w' : World} {r : Nat} {pv : Value} {l : List Pk} {n : Int} (h : RoadAt w r pv l n) (u : Upd [] w w') : RoadAt w' r pv l n := h.frame u (by simp)
theorem RoadAt.lt {w : World} {r : Nat} {pv : Value} {l : List Pk} {n : Int} (h : RoadAt w r pv l n) : ∀ k ∈ footR r pv l, k < w.heap.size := by
  intro k hk
  rcases List.mem_cons.1 hk with rfl | hk
  · exact h.head.lt
  · exact h.rows.lt k hk

theorem rnone_no {w : World} {r : Nat} {pv : Value} {l : List Pk} {n : Int} (h : RoadAt w r pv l n) :
    Calls Try.prog 22 #[.pointer (some ⟨r, 0, none⟩)] w fun e w' => e = .returned (.bool false) ∧ w = w' := by
  have c0 := h.head.cell 0 rfl
  go_enter Try.func22, Try.ntmps22
  go_wp2
  go_ret
  exact ⟨rfl, rfl⟩

theorem new_road (w : World) :
    Calls Try.prog 7 #[] w fun e w' => e = .returned (.pointer (some ⟨w.heap.size, 0, none⟩)) ∧ RoadAt w' w.heap.size (.slice none 0 0) [] 0 ∧ Upd [] w w' := by
  go_enter Try.func7, Try.ntmps7
  go_wp2
  go_ret
  exact ⟨rfl, ⟨(by simpa using Blk.new w _ _), ⟨World.ownsRow_nil _ _ _ _, by simp, by simp⟩⟩, (Upd.refl _ _).alloc _⟩

theorem RowAt.len {w : World} {T : TypeId} {pv : Value} {l : List Pk} (h : RowAt w T pv l) : ∃ p cap, pv = .slice p l.length cap := by
  rcases h.row.2 with ⟨h1, h2⟩ | ⟨g, cap, cur, h1, _⟩
  · exact ⟨none, 0, by rw [h1, h2]⟩
  · exact ⟨_, cap, h1⟩

theorem len_any {w : World} {r : Nat} {pv : Value} {l : List Pk} {n : Int} (h : RoadAt w r pv l n) :
    Calls Try.prog 14 #[.pointer (some ⟨r, 0, none⟩)] w fun e w' => e = .returned (.int .i64 l.length) ∧ w = w' := by
  have c1 := h.head.cell 1 rfl
  obtain ⟨p, cap, rfl⟩ := h.rows.len
  go_enter Try.func14, Try.ntmps14
  go_wp2_with (go_at_call 22; refine (rnone_no h).mono ?_; rintro e w' ⟨rfl, rfl⟩)
  go_ret
  exact ⟨rfl, rfl⟩

theorem sent_any {w : World} {r : Nat} {pv : Value} {l : List Pk} {n : Int} (h : RoadAt w r pv l n) :
    Calls Try.prog 18 #[.pointer (some ⟨r, 0, none⟩)] w fun e w' => e = .returned (.int .i64 n) ∧ w = w' := by
  have c2 := h.head.cell 2 rfl
  go_enter Try.func18, Try.ntmps18
  go_wp2_with (go_at_call 22; refine (rnone_no h).mono ?_; rintro e w' ⟨rfl, rfl⟩)
  go_ret
  exact ⟨rfl, rfl⟩

/-- May a place be of a packet? -/
def atCode (len : Nat) (i : Int) : Int := if i < 0 ∨ (len : Int) ≤ i then 9 else 0

theorem at_any {w : World} {r : Nat} {pv : Value} {l : List Pk} {n : Int} (h : RoadAt w r pv l n) (i : Int) (hl : l.length ≤ 1024) :
    Calls Try.prog 24 #[.pointer (some ⟨r, 0, none⟩), .int .i64 i] w fun e w' => e = .returned (.int .i64 (atCode l.length i)) ∧ w = w' := by
  have c1 := h.head.cell 1 rfl
  obtain ⟨p, cap, rfl⟩ := h.rows.len
  by_cases h0 : i < 0
  · have d0 : decide (i < 0) = true := decide_eq_true h0
    go_enter Try.func24, Try.ntmps24
    go_wp2_with (go_at_call 22; refine (rnone_no h).mono ?_; rintro e w' ⟨rfl, rfl⟩)
    go_ret
    exact ⟨ret_int (by simp [atCode, h0]), rfl⟩
  · by_cases h1 : (l.length : Int) ≤ i
    · go_enter Try.func24, Try.ntmps24
      go_wp2_with (go_at_call 22; refine (rnone_no h).mono ?_; rintro e w' ⟨rfl, rfl⟩)
      go_ret
      exact ⟨ret_int (by simp [atCode, h1]), rfl⟩
    · go_enter Try.func24, Try.ntmps24
      go_wp2_with (go_at_call 22; refine (rnone_no h).mono ?_; rintro e w' ⟨rfl, rfl⟩)
      go_ret
      exact ⟨ret_int (by simp [atCode, h0, h1]), rfl⟩

end Go.Proofs.Ytceeekdephgcmaa
