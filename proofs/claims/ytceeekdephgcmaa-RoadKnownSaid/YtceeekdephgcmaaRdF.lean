/- The road: Take. -/
import Derived.Test.YtceeekdephgcmaaRdE
namespace Go.Proofs.Ytceeekdephgcmaa
open Go.RowKit

theorem RowAt.erase {w1 w2 : World} {T : TypeId} {pv pv' : Value} {l : List Pk} {i : Nat} (h : RowAt w1 T pv l) (hi : i < l.length) (hown : w2.ownsRow 0 T 3 pv' (l.length - 1) (pkVals (l.eraseIdx i))) (u : Upd pv.ownBlock.toList w1 w2) (hT : T ≠ 5) : RowAt w2 T pv' (l.eraseIdx i) := by
  refine ⟨by rw [List.length_eraseIdx_of_lt hi]; exact hown, fun p hp => ?_, h.sep.sublist (List.eraseIdx_sublist _ _)⟩
  have hp' := List.mem_of_mem_eraseIdx hp
  exact (h.data p hp').frame u (fun k hk hm => own_type h.row (h.data p hp').own hT (by simpa [Option.mem_toList] using hm) hk)

theorem OwnBytes.one {w : World} {v : Value} {xs : List Int} (h : OwnBytes w v xs) : v.oneCell' = true := by
  obtain ⟨p, c, rfl⟩ := h.form
  rfl

theorem RowAt.one {w : World} {T : TypeId} {pv : Value} {l : List Pk} (h : RowAt w T pv l) : ∀ u ∈ pkVals l, u.oneCell' = true := by
  intro u hu
  simp only [pkVals, List.mem_flatMap] at hu
  obtain ⟨p, hp, hu⟩ := hu
  simp at hu
  rcases hu with rfl | rfl | rfl
  · rfl
  · rfl
  · exact (h.data p hp).one

set_option maxHeartbeats 2000000 in
set_option maxRecDepth 100000 in
theorem take_yes {w : World} {r : Nat} {pv : Value} {l : List Pk} {n : Int} (hR : RoadAt w r pv l n) (hl : l.length ≤ 1024) (i : Nat) (p : Pk) (hp : l[i]? = some p) (hx : p.xs.length ≤ 16384) :
    Calls Try.prog 21 #[.pointer (some ⟨r, 0, none⟩), .int .i64 i] w fun e w' =>
      (∃ dv', e = .returned (.tuple #[.agg #[.int .i64 p.A, .bool p.up, dv'], .bool true]) ∧ OwnBytes w' dv' p.xs ∧ (∀ k, dv'.ownBlock = some k → w.heap.size ≤ k) ∧
        ∃ pv', RoadAt w' r pv' (l.eraseIdx i) n ∧ ∀ k ∈ footR r pv' (l.eraseIdx i), k ∈ footR r pv l) ∧ Upd (footR r pv l) w w' := by
  have hi : i < l.length := (List.getElem?_eq_some_iff.1 hp).1
  obtain ⟨M, hM⟩ : ∃ M, l.length = i + M + 1 := ⟨l.length - i - 1, by omega⟩
  obtain ⟨g, cap, hpv, _, hgl⟩ := hR.rows.row.form (by omega)
  have ua : Upd [] w (w.alloc (.cells #[.int .i64 0, .bool false, .slice none 0 0] 33)) := (Upd.refl [] w).alloc _
  have hra := hR.nil ua
  have hrl := hR.head.lt
  have hrg : r ≠ g := fun e => blk_type hR.head hR.rows.row (by decide) (by rw [hpv, e]; rfl)
  obtain ⟨A, up, dv, xs⟩ := p
  dsimp only at hx
  go_enter Try.func21, Try.ntmps21
  go_wp2_with (first
    | (go_at_call 13; refine (see_yes hra hl i _ hp hx).mono ?_; rintro e w3 ⟨⟨dv', rfl, hob, hfr⟩, hu3⟩; dsimp only at hob; obtain ⟨p', c', rfl⟩ := hob.form; have hB := (Blk.new w #[.int .i64 0, .bool false, .slice none 0 0] 33).upd_nil hu3; have hR3 := hra.nil hu3; have u4 : Upd [] w3 (w3.alloc (.cells #[.int .i64 A, .bool up, .slice p' xs.length c'] 33)) := (Upd.refl [] w3).alloc _; have hR4 := hR3.nil u4; have c4 := hR4.head.cell 1 rfl; rw [hpv, hM] at c4)
    | (go_at_call 32; refine (delete_any g cap l i M hM (by omega) _ (by have := hR4.rows.row; rw [hpv, hM] at this; exact this) hR4.rows.one).mono ?_; rintro e w5 ⟨rfl, hown5, hu5⟩; have s3 := hu3.size; have hB5 := (hB.upd_nil ((Upd.refl [] w3).alloc (.cells #[.int .i64 A, .bool up, .slice p' xs.length c'] 33))).upd hu5 (by simp; omega); have hC5 := (Blk.new w3 #[.int .i64 A, .bool up, .slice p' xs.length c'] 33).upd hu5 (by simp at s3 ⊢; omega); have hH5 := hR4.head.upd hu5 (by simp; exact hrg); have k5 := hH5.cell 1 rfl; have f5 := hH5.free 1; have hC6 := hC5.set_ne ⟨r, 1, none⟩ (by simp at s3 ⊢; omega) (.slice (some ⟨g, 0, none⟩) (i + M) cap); have hB6 := hB5.set_ne ⟨r, 1, none⟩ (by simp; omega) (.slice (some ⟨g, 0, none⟩) (i + M) cap); have q0 := hC6.cell 0 rfl; have q1 := hC6.cell 1 rfl; have q2 := hC6.cell 2 rfl; have d0 := hB6.cell 0 rfl; have d1 := hB6.cell 1 rfl; have d2 := hB6.cell 2 rfl; have e0 := hB6.free 0; have e1 := hB6.free 1; have e2 := hB6.free 2))
  have hF := ((hB6.set 0 (.int .i64 A)).set 1 (.bool up)).set 2 (.slice p' xs.length c')
  have uR : Upd [r] w5 (w5.setCell ⟨r, 1, none⟩ (.slice (some ⟨g, 0, none⟩) (i + M) cap)) := (Upd.refl [r] w5).setCell (p := ⟨r, 1, none⟩) (Or.inl (by simp)) _
  have hHR := hH5.set 1 (.slice (some ⟨g, 0, none⟩) (i + M) cap)
  clear d0 d1 d2 e0 e1 e2 q0 q1 q2
  generalize w5.setCell ⟨r, 1, none⟩ (.slice (some ⟨g, 0, none⟩) (i + M) cap) = w6 at hF uR hHR ⊢
  have uF : Upd [w.heap.size] w6 _ := (((Upd.refl [w.heap.size] w6).setCell (p := ⟨w.heap.size, 0, none⟩) (Or.inl (by simp)) (.int .i64 A)).setCell (p := ⟨w.heap.size, 1, none⟩) (Or.inl (by simp)) (.bool up)).setCell (p := ⟨w.heap.size, 2, none⟩) (Or.inl (by simp)) (.slice p' xs.length c')
  generalize (((w6.setCell ⟨w.heap.size, 0, none⟩ (.int .i64 A)).setCell ⟨w.heap.size, 1, none⟩ (.bool up)).setCell ⟨w.heap.size, 2, none⟩ (.slice p' xs.length c')) = W at hF uF ⊢
  have z0 := hF.cell 0 rfl
  have z1 := hF.cell 1 rfl
  have z2 := hF.cell 2 rfl
  have hrows5 : RowAt w5 33 (.slice (some ⟨g, 0, none⟩) (i + M) cap) (l.eraseIdx i) := hR4.rows.erase hi (by rw [hM]; exact hown5) (by rw [hpv]; exact hu5) (by decide)
  have hft : ∀ k ∈ foot (.slice (some ⟨g, 0, none⟩) (i + M) cap) (l.eraseIdx i), k ∈ foot pv l := fun k hk => by
    rcases foot_cases hk with e | ⟨p, hp, e⟩
    · exact foot_row (by rw [hpv]; exact e)
    · exact foot_data (List.mem_of_mem_eraseIdx hp) e
  have hob5 : OwnBytes w5 (.slice p' xs.length c') xs := (hob.frame u4 (by simp)).frame hu5 (fun k hk hm => by
    have := hfr k hk; simp at this hm; omega)
  have hob6 := hob5.frame uR (fun k hk hm => by have := hfr k hk; simp at this hm; omega)
  have hobW := hob6.frame uF (fun k hk hm => by have := hfr k hk; simp at this hm; omega)
  have hrows6 := hrows5.frame uR (fun k hk hm => by
    simp at hm; subst hm
    rcases foot_cases hk with e | ⟨p, hp, e⟩
    · exact blk_type hH5 hrows5.row (by decide) e
    · exact blk_type hH5 (hrows5.data p hp).own (by decide) e)
  have hrowsW := hrows6.frame uF (fun k hk hm => by
    have := hR.rows.lt k (hft k hk); simp at hm; omega)
  refine bodyPost_ret (v := .tuple #[.agg #[.int .i64 A, .bool up, .slice p' xs.length c'], .bool true]) (by simp [results, Try.results21, go_sem, z0, z1, z2]) rfl ⟨⟨_, rfl, hobW, fun k hk => ?_, _, ⟨hHR.upd uF (by simp; omega), hrowsW⟩, fun k hk => ?_⟩, ?_⟩
  · have := hfr k hk; simp at this; omega
  · rcases List.mem_cons.1 hk with rfl | hk
    · simp [footR]
    · simp only [footR, List.mem_cons]; exact .inr (hft k hk)
  · have k0 : Upd (footR r pv l) w w5 := ((((ua.trans_nil hu3).trans_nil u4).mono (by simp)).trans hu5 (fun x hx => .inl (by simp at hx; subst hx; simp [footR, foot_row (show pv.ownBlock = some x by rw [hpv]; rfl)])))
    exact (k0.trans uR (fun x hx => .inl (by simp at hx; subst hx; simp [footR]))).trans uF (fun x hx => .inr (by simp at hx; omega))

set_option maxRecDepth 100000 in
theorem take_no {w : World} {r : Nat} {pv : Value} {l : List Pk} {n : Int} (hR : RoadAt w r pv l n) (hl : l.length ≤ 1024) (i : Int) (hi : i < 0 ∨ (l.length : Int) ≤ i) :
    Calls Try.prog 21 #[.pointer (some ⟨r, 0, none⟩), .int .i64 i] w fun e w' =>
      e = .returned (.tuple #[.agg #[.int .i64 0, .bool false, .slice none 0 0], .bool false]) ∧ Upd [] w w' := by
  have ua : Upd [] w (w.alloc (.cells #[.int .i64 0, .bool false, .slice none 0 0] 33)) := (Upd.refl [] w).alloc _
  have hra := hR.nil ua
  go_enter Try.func21, Try.ntmps21
  go_wp2_with (go_at_call 13; refine (see_no hra hl i hi).mono ?_; rintro e w3 ⟨rfl, hu3⟩; have hB := (Blk.new w #[.int .i64 0, .bool false, .slice none 0 0] 33).upd_nil hu3; have u4 : Upd [] w3 (w3.alloc (.cells #[.int .i64 0, .bool false, .slice none 0 0] 33)) := (Upd.refl [] w3).alloc _; have hB4 := hB.upd_nil u4; have d0 := hB4.cell 0 rfl; have d1 := hB4.cell 1 rfl; have d2 := hB4.cell 2 rfl; have e0 := hB4.free 0; have e1 := hB4.free 1; have e2 := hB4.free 2)
  have hF := ((hB4.set 0 (.int .i64 0)).set 1 (.bool false)).set 2 (.slice none 0 0)
  have uF : Upd [w.heap.size] (w3.alloc (.cells #[.int .i64 0, .bool false, .slice none 0 0] 33)) _ := (((Upd.refl [w.heap.size] _).setCell (p := ⟨w.heap.size, 0, none⟩) (Or.inl (by simp)) (.int .i64 0)).setCell (p := ⟨w.heap.size, 1, none⟩) (Or.inl (by simp)) (.bool false)).setCell (p := ⟨w.heap.size, 2, none⟩) (Or.inl (by simp)) (.slice none 0 0)
  generalize ((((w3.alloc (.cells #[.int .i64 0, .bool false, .slice none 0 0] 33)).setCell ⟨w.heap.size, 0, none⟩ (.int .i64 0)).setCell ⟨w.heap.size, 1, none⟩ (.bool false)).setCell ⟨w.heap.size, 2, none⟩ (.slice none 0 0)) = W at hF uF ⊢
  clear d0 d1 d2 e0 e1 e2
  have z0 := hF.cell 0 rfl
  have z1 := hF.cell 1 rfl
  have z2 := hF.cell 2 rfl
  exact bodyPost_ret (v := .tuple #[.agg #[.int .i64 0, .bool false, .slice none 0 0], .bool false]) (by simp [results, Try.results21, go_sem, z0, z1, z2]) rfl ⟨rfl, ((ua.trans_nil hu3).trans_nil u4).trans uF (by simp)⟩

end Go.Proofs.Ytceeekdephgcmaa
