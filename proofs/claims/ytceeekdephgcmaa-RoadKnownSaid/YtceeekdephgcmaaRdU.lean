/- Roads that are none. -/
import Derived.Test.YtceeekdephgcmaaRdT
import Derived.Laws.MakeOwn
namespace Go.Proofs.Ytceeekdephgcmaa
open Go.RowKit

/-- No road: nil, or one that was not made. -/
def NoRoad (w : World) (p : Option Addr) : Prop := p = none ∨ ∃ b, p = some ⟨b, 0, none⟩ ∧ Blk w b [.bool false, .slice none 0 0, .int .i64 0] 57

theorem NoRoad.upd {w w' : World} {p : Option Addr} (h : NoRoad w p) (u : Upd [] w w') : NoRoad w' p := by
  rcases h with h | ⟨b, h1, h2⟩
  · exact .inl h
  · exact .inr ⟨b, h1, h2.upd_nil u⟩

theorem none_no {w : World} {p : Option Addr} (h : NoRoad w p) : Calls Try.prog 22 #[.pointer p] w fun e w' => e = .returned (.bool true) ∧ w = w' := by
  rcases h with rfl | ⟨b, rfl, hb⟩
  · go_enter Try.func22, Try.ntmps22
    go_wp2
    go_ret
    exact ⟨rfl, rfl⟩
  · have c0 := hb.cell 0 rfl
    go_enter Try.func22, Try.ntmps22
    go_wp2
    go_ret
    exact ⟨rfl, rfl⟩

theorem at_none {w : World} {p : Option Addr} (h : NoRoad w p) (i : Int) : Calls Try.prog 24 #[.pointer p, .int .i64 i] w fun e w' => e = .returned (.int .i64 1) ∧ w = w' := by
  go_enter Try.func24, Try.ntmps24
  go_wp2_with (go_at_call 22; refine (none_no h).mono ?_; rintro e w' ⟨rfl, rfl⟩)
  go_ret
  exact ⟨rfl, rfl⟩

theorem len_none {w : World} {p : Option Addr} (h : NoRoad w p) : Calls Try.prog 14 #[.pointer p] w fun e w' => e = .returned (.int .i64 0) ∧ w = w' := by
  go_enter Try.func14, Try.ntmps14
  go_wp2_with (go_at_call 22; refine (none_no h).mono ?_; rintro e w' ⟨rfl, rfl⟩)
  go_ret
  exact ⟨rfl, rfl⟩

theorem sent_none {w : World} {p : Option Addr} (h : NoRoad w p) : Calls Try.prog 18 #[.pointer p] w fun e w' => e = .returned (.int .i64 0) ∧ w = w' := by
  go_enter Try.func18, Try.ntmps18
  go_wp2_with (go_at_call 22; refine (none_no h).mono ?_; rintro e w' ⟨rfl, rfl⟩)
  go_ret
  exact ⟨rfl, rfl⟩

theorem dbl_none {w : World} {p : Option Addr} (h : NoRoad w p) (i : Int) : Calls Try.prog 11 #[.pointer p, .int .i64 i] w fun e w' => e = .returned (.int .i64 1) ∧ w = w' := by
  go_enter Try.func11, Try.ntmps11
  go_wp2_with (go_at_call 24; refine (at_none h i).mono ?_; rintro e w' ⟨rfl, rfl⟩)
  go_ret
  exact ⟨rfl, rfl⟩

theorem turn_none {w : World} {p : Option Addr} (h : NoRoad w p) (i a b : Int) : Calls Try.prog 12 #[.pointer p, .int .i64 i, .int .i64 a, .int .u8 b] w fun e w' => e = .returned (.int .i64 1) ∧ w = w' := by
  go_enter Try.func12, Try.ntmps12
  go_wp2_with (go_at_call 24; refine (at_none h i).mono ?_; rintro e w' ⟨rfl, rfl⟩)
  go_ret
  exact ⟨rfl, rfl⟩

theorem send_none {w : World} {p : Option Addr} (h : NoRoad w p) (A : Int) : Calls Try.prog 9 #[.pointer p, .agg #[.int .i64 A, .bool false, .slice none 0 0]] w fun e w' => e = .returned (.int .i64 1) ∧ Upd [] w w' := by
  have ub : Upd [] w (w.alloc (.cells #[.int .i64 A, .bool false, .slice none 0 0] 33)) := (Upd.refl [] w).alloc _
  go_enter Try.func9, Try.ntmps9
  go_wp2_with (go_at_call 22; refine (none_no (h.upd ub)).mono ?_; rintro e w' ⟨rfl, rfl⟩)
  go_ret
  exact ⟨rfl, ub⟩

set_option maxRecDepth 100000 in
theorem see_none {w : World} {p : Option Addr} (h : NoRoad w p) (i : Int) :
    Calls Try.prog 13 #[.pointer p, .int .i64 i] w fun e w' => e = .returned (.tuple #[.agg #[.int .i64 0, .bool false, .slice none 0 0], .bool false]) ∧ Upd [] w w' := by
  have ua : Upd [] w (w.alloc (.cells #[.int .i64 0, .bool false, .slice none 0 0] 33)) := (Upd.refl [] w).alloc _
  go_enter Try.func13, Try.ntmps13
  go_wp2_with (go_at_call 24; refine (at_none (h.upd ua) i).mono ?_; rintro e w' ⟨rfl, rfl⟩)
  exact bodyPost_ret (v := .tuple #[.agg #[.int .i64 0, .bool false, .slice none 0 0], .bool false]) (by simp [results, Try.results13, go_sem]) rfl ⟨rfl, ua⟩

set_option maxRecDepth 100000 in
theorem take_none {w : World} {p : Option Addr} (h : NoRoad w p) (i : Int) :
    Calls Try.prog 21 #[.pointer p, .int .i64 i] w fun e w' => e = .returned (.tuple #[.agg #[.int .i64 0, .bool false, .slice none 0 0], .bool false]) ∧ Upd [] w w' := by
  have ua : Upd [] w (w.alloc (.cells #[.int .i64 0, .bool false, .slice none 0 0] 33)) := (Upd.refl [] w).alloc _
  go_enter Try.func21, Try.ntmps21
  go_wp2_with (go_at_call 13; refine (see_none (h.upd ua) i).mono ?_; rintro e w3 ⟨rfl, hu3⟩; have hB := (Blk.new w #[.int .i64 0, .bool false, .slice none 0 0] 33).upd_nil hu3; have u4 : Upd [] w3 (w3.alloc (.cells #[.int .i64 0, .bool false, .slice none 0 0] 33)) := (Upd.refl [] w3).alloc _; have hB4 := hB.upd_nil u4; have d0 := hB4.cell 0 rfl; have d1 := hB4.cell 1 rfl; have d2 := hB4.cell 2 rfl; have e0 := hB4.free 0; have e1 := hB4.free 1; have e2 := hB4.free 2)
  have hF := ((hB4.set 0 (.int .i64 0)).set 1 (.bool false)).set 2 (.slice none 0 0)
  have uF : Upd [w.heap.size] (w3.alloc (.cells #[.int .i64 0, .bool false, .slice none 0 0] 33)) _ := (((Upd.refl [w.heap.size] _).setCell (p := ⟨w.heap.size, 0, none⟩) (Or.inl (by simp)) (.int .i64 0)).setCell (p := ⟨w.heap.size, 1, none⟩) (Or.inl (by simp)) (.bool false)).setCell (p := ⟨w.heap.size, 2, none⟩) (Or.inl (by simp)) (.slice none 0 0)
  generalize ((((w3.alloc (.cells #[.int .i64 0, .bool false, .slice none 0 0] 33)).setCell ⟨w.heap.size, 0, none⟩ (.int .i64 0)).setCell ⟨w.heap.size, 1, none⟩ (.bool false)).setCell ⟨w.heap.size, 2, none⟩ (.slice none 0 0)) = W at hF uF ⊢
  clear d0 d1 d2 e0 e1 e2
  have z0 := hF.cell 0 rfl
  have z1 := hF.cell 1 rfl
  have z2 := hF.cell 2 rfl
  exact bodyPost_ret (v := .tuple #[.agg #[.int .i64 0, .bool false, .slice none 0 0], .bool false]) (by simp [results, Try.results21, go_sem, z0, z1, z2]) rfl ⟨rfl, ((ua.trans_nil hu3).trans_nil u4).trans uF (by simp)⟩

/-- make([]byte, n). -/
theorem mk_zero (n : Nat) (hn : n ≤ 140737488351232) : ∃ Z : Array Value, (∀ i, i < n → Z[i]? = some (.int .u8 0)) ∧
    ∀ w, (Instr.makeSlice 26 (.int .i64 n) (.int .i64 n)).run Try.prog w = .ok (.slice (some ⟨w.heap.size, 0, none⟩) n n) (w.alloc (.cells Z 5)) := by
  obtain ⟨i0, hi, hz0, hz1, hz2⟩ := info_parts u8_info
  refine ⟨madeCells #[.int .u8 0] n, fun i hi => by simp [madeCells, hi, Nat.mod_one], fun w => ?_⟩
  have := run_make (P := Try.prog) w 26 5 i0 (.int .u8 0) Try.underlying26 hi hz0 .i64 .i64 n n (by omega) (by omega) (by rw [hz2]; omega) (by omega)
  rw [hz1] at this
  simpa [Value.cells] using this

theorem zero_at {w : World} {Z : Array Value} {n : Nat} (h : ∀ i, i < n → Z[i]? = some (.int .u8 0)) (g : Nat) (hg : g = w.heap.size) (T : TypeId) : BytesAt (w.alloc (.cells Z T)) (.slice (some ⟨g, 0, none⟩) n n) (List.replicate n 0) := by
  subst hg
  refine ⟨fun x hx => ?_, .inr ⟨_, _, by rw [List.length_replicate], fun i hi => ?_⟩⟩
  · have := List.eq_of_mem_replicate hx; omega
  · rw [List.length_replicate] at hi
    rw [add_at0, cell_of_row _ w.heap.size _ _ _ _ (heap_alloc_new w _)]
    simp [h i hi, List.getD_eq_getElem?_getD, hi]

end Go.Proofs.Ytceeekdephgcmaa
