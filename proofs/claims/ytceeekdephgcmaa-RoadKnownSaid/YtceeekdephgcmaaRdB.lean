/- The road: a packet's copy. -/
import Derived.Test.YtceeekdephgcmaaRdA
import Derived.Deep.Onto
namespace Go.Proofs.Ytceeekdephgcmaa
open Go.RowKit

/-- Bytes that can be read. -/
def BytesAt (w : World) (v : Value) (xs : List Int) : Prop :=
  (∀ x ∈ xs, 0 ≤ x ∧ x ≤ 255) ∧ ((v = .slice none 0 0 ∧ xs = []) ∨ ∃ a c, v = .slice (some a) xs.length c ∧ ∀ i, i < xs.length → w.cell? (a.add i) = some (.int .u8 (xs.getD i 0)))

theorem add_block (a : Addr) (n : Nat) : (a.add n).block = a.block := by unfold Addr.add; split <;> rfl

theorem BytesAt.frame {w w' : World} {v : Value} {xs : List Int} (h : BytesAt w v xs) {bs : List Nat} (u : Upd bs w w') (hb : ∀ k, v.ownBlock = some k → k ∉ bs) : BytesAt w' v xs := by
  obtain ⟨hx, h⟩ := h
  refine ⟨hx, ?_⟩
  rcases h with h | ⟨a, c, rfl, h⟩
  · exact .inl h
  · refine .inr ⟨a, c, rfl, fun i hi => ?_⟩
    have := h i hi
    rw [u.cell (lt_of_cell this) (by rw [add_block]; exact hb _ rfl)]; exact this

theorem OwnBytes.at_ {w : World} {v : Value} {xs : List Int} (h : OwnBytes w v xs) : BytesAt w v xs := by
  refine ⟨h.bd, ?_⟩
  rcases h.own.2 with ⟨h1, h2⟩ | ⟨g, cap, cur, rfl, _⟩
  · exact .inl ⟨h1, List.eq_nil_of_length_eq_zero h2⟩
  · refine .inr ⟨⟨g, 0, none⟩, cap, rfl, fun i hi => ?_⟩
    have := h.own.cells (g := g) rfl i (.int .u8 (xs.getD i 0)) (by simp [u8s, List.getD_eq_getElem?_getD, List.getElem?_eq_getElem hi])
    exact this

set_option maxRecDepth 100000 in
theorem clone_any (A : Int) (up : Bool) (dv : Value) (xs : List Int) (w : World) (hb : BytesAt w dv xs) (hlen : xs.length ≤ 16384) :
    Calls Try.prog 25 #[.agg #[.int .i64 A, .bool up, dv]] w fun e w' =>
      (∃ dv', e = .returned (.agg #[.int .i64 A, .bool up, dv']) ∧ OwnBytes w' dv' xs ∧ ∀ k, dv'.ownBlock = some k → w.heap.size ≤ k) ∧ Upd [] w w' := by
  obtain ⟨hx, hb⟩ := hb
  rcases hb with ⟨rfl, rfl⟩ | ⟨a, c, rfl, hc⟩
  · go_enter Try.func25, Try.ntmps25
    go_wp2_with (go_at_call 33; refine (Try.bytes_Clone_nil 0 0 _).mono ?_; rintro e w' ⟨rfl, rfl⟩)
    refine bodyPost_ret (v := .agg #[.int .i64 A, .bool up, .slice none 0 0]) (by simp [results, Try.results25, go_sem]) rfl ⟨⟨_, rfl, ⟨World.ownsRow_nil _ _ _ _, by simp⟩, fun k hk => by cases hk⟩, ((Upd.refl [] w).alloc _).alloc _⟩
  · have ha : ∀ i, i < xs.length → a.block < w.heap.size := fun i hi => by have := lt_of_cell (hc i hi); rwa [add_block] at this
    go_enter Try.func25, Try.ntmps25
    go_wp2_with fail
    refine (Try.bytes_Clone_at a xs.length c xs _ rfl (by omega) (fun i hi => ?_)).mono ?_
    · rw [((Upd.refl [] w).alloc _ |>.alloc _).cell (by rw [add_block]; exact ha i hi) (by simp)]; exact hc i hi
    rintro e w3 ⟨dv', rfl, hown, hnn, hbel⟩
    have u3 := Upd.of_below hbel (Nat.le_refl _) []
    have hB1 := ((Blk.new w #[.int .i64 A, .bool up, .slice (some a) xs.length c] 33).alloc (.cells #[.int .i64 0, .bool false, .slice none 0 0] 33)).upd_nil u3
    have hB2 := (Blk.new (w.alloc (.cells #[.int .i64 A, .bool up, .slice (some a) xs.length c] 33)) #[.int .i64 0, .bool false, .slice none 0 0] 33).upd_nil u3
    obtain ⟨g, cp, rfl, hg⟩ : ∃ g cp, dv' = .slice (some ⟨g, 0, none⟩) xs.length cp ∧ w.heap.size + 2 ≤ g := by
      rcases hown.2 with ⟨h1, _⟩ | ⟨g, cap, cur, h1, h2, _⟩
      · exact absurd h1 hnn
      · exact ⟨g, cap, h1, by simpa using h2⟩
    have b0 := hB1.cell 0 rfl
    have b1 := hB1.cell 1 rfl
    have b2 := hB1.cell 2 rfl
    have f2 := hB1.free 2
    simp at hB2
    have d0 := hB2.cell 0 rfl
    have d1 := hB2.cell 1 rfl
    have d2 := hB2.cell 2 rfl
    have e0 := hB2.free 0
    have e1 := hB2.free 1
    have e2 := hB2.free 2
    go_wp2_with fail
    have hF := (((hB2.set_ne ⟨w.heap.size, 2, none⟩ (by simp) (.slice (some ⟨g, 0, none⟩) xs.length cp)).set 0 (.int .i64 A)).set 1 (.bool up)).set 2 (.slice (some ⟨g, 0, none⟩) xs.length cp)
    have uF : Upd [w.heap.size, w.heap.size + 1] w3 _ := ((((Upd.refl [w.heap.size, w.heap.size + 1] w3).setCell (p := ⟨w.heap.size, 2, none⟩) (Or.inl (by simp)) (.slice (some ⟨g, 0, none⟩) xs.length cp)).setCell (p := ⟨w.heap.size + 1, 0, none⟩) (Or.inl (by simp)) (.int .i64 A)).setCell (p := ⟨w.heap.size + 1, 1, none⟩) (Or.inl (by simp)) (.bool up)).setCell (p := ⟨w.heap.size + 1, 2, none⟩) (Or.inl (by simp)) (.slice (some ⟨g, 0, none⟩) xs.length cp)
    generalize ((((w3.setCell ⟨w.heap.size, 2, none⟩ (.slice (some ⟨g, 0, none⟩) xs.length cp)).setCell ⟨w.heap.size + 1, 0, none⟩ (.int .i64 A)).setCell ⟨w.heap.size + 1, 1, none⟩ (.bool up)).setCell ⟨w.heap.size + 1, 2, none⟩ (.slice (some ⟨g, 0, none⟩) xs.length cp)) = W at hF uF ⊢
    clear b0 b1 b2 f2 d0 d1 d2 e0 e1 e2
    have z0 := hF.cell 0 rfl
    have z1 := hF.cell 1 rfl
    have z2 := hF.cell 2 rfl
    refine bodyPost_ret (v := .agg #[.int .i64 A, .bool up, .slice (some ⟨g, 0, none⟩) xs.length cp]) (by simp [results, Try.results25, go_sem, z0, z1, z2]) rfl ⟨⟨_, rfl, ⟨own_frame (hown.mono (Nat.zero_le _)) uF (fun k hk => ?_), hx⟩, fun k hk => ?_⟩, ?_⟩
    · simp [Value.ownBlock] at hk; subst hk; simp; omega
    · simp [Value.ownBlock] at hk; subst hk; omega
    · exact ((((Upd.refl [] w).alloc _).alloc _).trans_nil u3).trans uF (by simp)

end Go.Proofs.Ytceeekdephgcmaa
