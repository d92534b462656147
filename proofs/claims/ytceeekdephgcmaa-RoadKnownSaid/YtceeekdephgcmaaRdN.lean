/- The document's road: what Send refuses, See, Double, Take. -/
import Derived.Test.YtceeekdephgcmaaRdM
namespace Go.Proofs.Ytceeekdephgcmaa
open Go.RowKit

set_option maxRecDepth 100000 in
theorem dsend_no {w : World} {r : Nat} {pv : Value} {l : List Pk} {n : Int} (hR : DocAt w r pv l n) (A : Int) (up : Bool) (dv : Value) (xs : List Int) (hb : BytesAt w dv xs) (hl2 : l.length ≤ 1024) (hx : xs.length ≤ 9223372036854775807) (hc : sendCode A xs.length l.length ≠ 0) :
    Calls Try.prog 27 #[.pointer (some ⟨r, 0, none⟩), .agg #[.int .i64 A, .bool up, dv]] w fun e w' => e = .returned (.int .i64 (sendCode A xs.length l.length)) ∧ Upd [] w w' := by
  obtain ⟨dp, dc, rfl⟩ := hb.form
  obtain ⟨pp, pc, rfl⟩ := hR.rows.len
  have ub : Upd [] w (w.alloc (.cells #[.int .i64 A, .bool up, .slice dp xs.length dc] 51)) := (Upd.refl [] w).alloc _
  have hrb := hR.nil ub
  have c0 := hrb.head.cell 0 rfl
  unfold sendCode at hc ⊢
  by_cases h1 : A < 1
  · go_enter Try.func27, Try.ntmps27
    go_wp2_with fail
    go_ret
    exact ⟨ret_int (by first | rfl | rw [if_pos (Or.inl h1)]), ub⟩
  · by_cases h2 : 16 < A
    · go_enter Try.func27, Try.ntmps27
      go_wp2_with fail
      go_ret
      exact ⟨ret_int (by first | rfl | rw [if_pos (Or.inr h2)]), ub⟩
    · rw [if_neg (by omega)] at hc ⊢
      by_cases h3 : 16384 < xs.length
      · go_enter Try.func27, Try.ntmps27
        go_wp2_with fail
        go_ret
        exact ⟨ret_int (by first | rfl | rw [if_pos h3]), ub⟩
      · rw [if_neg h3] at hc ⊢
        have h4 : 1024 ≤ l.length := by
          by_cases h4 : 1024 ≤ l.length
          · exact h4
          · rw [if_neg h4] at hc; exact absurd rfl hc
        rw [if_pos h4]
        go_enter Try.func27, Try.ntmps27
        go_wp2_with fail
        go_ret
        exact ⟨rfl, ub⟩

set_option maxRecDepth 100000 in
theorem dsee_yes {w : World} {r : Nat} {pv : Value} {l : List Pk} {n : Int} (hR : DocAt w r pv l n) (hl : l.length ≤ 1024) (i : Nat) (p : Pk) (hp : l[i]? = some p) (hx : p.xs.length ≤ 16384) :
    Calls Try.prog 19 #[.pointer (some ⟨r, 0, none⟩), .int .i64 i] w fun e w' =>
      (∃ dv', e = .returned (.tuple #[.agg #[.int .i64 p.A, .bool p.up, dv'], .bool true]) ∧ OwnBytes w' dv' p.xs ∧ ∀ k, dv'.ownBlock = some k → w.heap.size ≤ k) ∧ Upd [] w w' := by
  have hi : i < l.length := (List.getElem?_eq_some_iff.1 hp).1
  have hpm := List.mem_of_getElem? hp
  have ua : Upd [] w (w.alloc (.cells #[.int .i64 0, .bool false, .slice none 0 0] 51)) := (Upd.refl [] w).alloc _
  have hra := hR.nil ua
  have hba := (hra.rows.data p hpm).at_
  obtain ⟨A, up, dv, xs⟩ := p
  obtain ⟨g, cap, rfl, a0, a1, a2, _⟩ := hra.rows.at_ hp
  dsimp only at a0 a1 a2 hx hba
  have c0 := hra.head.cell 0 rfl
  go_enter Try.func19, Try.ntmps19
  go_wp2_with (go_at_call 31; refine (copied_any A up dv xs _ hba (by omega)).mono ?_; rintro e w3 ⟨⟨dv', rfl, hob, hfr⟩, hu3⟩; obtain ⟨p', c', rfl⟩ := hob.form; have hB := (Blk.new w #[.int .i64 0, .bool false, .slice none 0 0] 51).upd_nil hu3; have d0 := hB.cell 0 rfl; have d1 := hB.cell 1 rfl; have d2 := hB.cell 2 rfl; have e0 := hB.free 0; have e1 := hB.free 1; have e2 := hB.free 2)
  have hF := ((hB.set 0 (.int .i64 A)).set 1 (.bool up)).set 2 (.slice p' xs.length c')
  have uF : Upd [w.heap.size] w3 _ := (((Upd.refl [w.heap.size] w3).setCell (p := ⟨w.heap.size, 0, none⟩) (Or.inl (by simp)) (.int .i64 A)).setCell (p := ⟨w.heap.size, 1, none⟩) (Or.inl (by simp)) (.bool up)).setCell (p := ⟨w.heap.size, 2, none⟩) (Or.inl (by simp)) (.slice p' xs.length c')
  generalize (((w3.setCell ⟨w.heap.size, 0, none⟩ (.int .i64 A)).setCell ⟨w.heap.size, 1, none⟩ (.bool up)).setCell ⟨w.heap.size, 2, none⟩ (.slice p' xs.length c')) = W at hF uF ⊢
  clear d0 d1 d2 e0 e1 e2
  have z0 := hF.cell 0 rfl
  have z1 := hF.cell 1 rfl
  have z2 := hF.cell 2 rfl
  refine bodyPost_ret (v := .tuple #[.agg #[.int .i64 A, .bool up, .slice p' xs.length c'], .bool true]) (by simp [results, Try.results19, go_sem, z0, z1, z2]) rfl ⟨⟨_, rfl, hob.frame uF (fun k hk hm => ?_), fun k hk => ?_⟩, ?_⟩
  · have := hfr k hk; simp at this hm; omega
  · have := hfr k hk; simp at this; omega
  · exact (ua.trans_nil hu3).trans uF (by simp)

set_option maxRecDepth 100000 in
theorem dsee_no {w : World} {r : Nat} {pv : Value} {l : List Pk} {n : Int} (hR : DocAt w r pv l n) (hl : l.length ≤ 1024) (i : Int) (hi : i < 0 ∨ (l.length : Int) ≤ i) :
    Calls Try.prog 19 #[.pointer (some ⟨r, 0, none⟩), .int .i64 i] w fun e w' =>
      e = .returned (.tuple #[.agg #[.int .i64 0, .bool false, .slice none 0 0], .bool false]) ∧ Upd [] w w' := by
  have ua : Upd [] w (w.alloc (.cells #[.int .i64 0, .bool false, .slice none 0 0] 51)) := (Upd.refl [] w).alloc _
  have hra := hR.nil ua
  obtain ⟨pp, pc, rfl⟩ := hR.rows.len
  have c0 := hra.head.cell 0 rfl
  have hB := Blk.new w #[.int .i64 0, .bool false, .slice none 0 0] 51
  have hF := ((hB.set 0 (.int .i64 0)).set 1 (.bool false)).set 2 (.slice none 0 0)
  have z0 := hF.cell 0 rfl
  have z1 := hF.cell 1 rfl
  have z2 := hF.cell 2 rfl
  have uF : Upd [] w _ := ua.trans (((((Upd.refl [w.heap.size] _).setCell (p := ⟨w.heap.size, 0, none⟩) (Or.inl (by simp)) (.int .i64 0)).setCell (p := ⟨w.heap.size, 1, none⟩) (Or.inl (by simp)) (.bool false)).setCell (p := ⟨w.heap.size, 2, none⟩) (Or.inl (by simp)) (.slice none 0 0))) (by simp)
  by_cases h0 : i < 0
  · go_enter Try.func19, Try.ntmps19
    go_wp2_with fail
    first
      | exact bodyPost_ret (v := .tuple #[.agg #[.int .i64 0, .bool false, .slice none 0 0], .bool false]) (by simp [results, Try.results19, go_sem]) rfl ⟨rfl, ua⟩
      | exact bodyPost_ret (v := .tuple #[.agg #[.int .i64 0, .bool false, .slice none 0 0], .bool false]) (by simp [results, Try.results19, go_sem, z0, z1, z2]) rfl ⟨rfl, uF⟩
  · have h1 : (l.length : Int) ≤ i := by omega
    go_enter Try.func19, Try.ntmps19
    go_wp2_with fail
    first
      | exact bodyPost_ret (v := .tuple #[.agg #[.int .i64 0, .bool false, .slice none 0 0], .bool false]) (by simp [results, Try.results19, go_sem]) rfl ⟨rfl, ua⟩
      | exact bodyPost_ret (v := .tuple #[.agg #[.int .i64 0, .bool false, .slice none 0 0], .bool false]) (by simp [results, Try.results19, go_sem, z0, z1, z2]) rfl ⟨rfl, uF⟩

set_option maxRecDepth 100000 in
theorem ddouble_no {w : World} {r : Nat} {pv : Value} {l : List Pk} {n : Int} (hR : DocAt w r pv l n) (hl : l.length ≤ 1024) (i : Int) (hi : i < 0 ∨ (l.length : Int) ≤ i) :
    Calls Try.prog 29 #[.pointer (some ⟨r, 0, none⟩), .int .i64 i] w fun e w' => e = .returned (.int .i64 9) ∧ Upd [] w w' := by
  go_enter Try.func29, Try.ntmps29
  go_wp2_with (go_at_call 19; refine (dsee_no hR hl i hi).mono ?_; rintro e w' ⟨rfl, hu⟩)
  go_ret
  exact ⟨rfl, hu.alloc _⟩

set_option maxRecDepth 100000 in
theorem ddouble_full {w : World} {r : Nat} {pv : Value} {l : List Pk} {n : Int} (hR : DocAt w r pv l n) (hl : l.length = 1024) (i : Nat) (p : Pk) (hp : l[i]? = some p) (hx : p.xs.length ≤ 16384) :
    Calls Try.prog 29 #[.pointer (some ⟨r, 0, none⟩), .int .i64 i] w fun e w' => e = .returned (.int .i64 7) ∧ Upd [] w w' := by
  obtain ⟨A, up, dv, xs⟩ := p
  obtain ⟨pp, pc, rfl⟩ := hR.rows.len
  go_enter Try.func29, Try.ntmps29
  go_wp2_with (go_at_call 19; refine (dsee_yes hR (by omega) i _ hp hx).mono ?_; rintro e w3 ⟨⟨dv', rfl, hob, hfr⟩, hu3⟩; dsimp only at hob; obtain ⟨p', c', rfl⟩ := hob.form; have u4 := hu3.alloc (.cells #[.int .i64 A, .bool up, .slice p' xs.length c'] 51); have c0 := (hR.nil u4).head.cell 0 rfl)
  go_ret
  exact ⟨rfl, u4⟩

set_option maxHeartbeats 2000000 in
set_option maxRecDepth 100000 in
theorem ddouble_yes {w : World} {r : Nat} {pv : Value} {l : List Pk} {n : Int} (hR : DocAt w r pv l n) (hl : l.length < 1024) (i : Nat) (p : Pk) (hp : l[i]? = some p) (hx : p.xs.length ≤ 16384) :
    Calls Try.prog 29 #[.pointer (some ⟨r, 0, none⟩), .int .i64 i] w fun e w' =>
      e = .returned (.int .i64 0) ∧ (∃ pv' dv', DocAt w' r pv' (l ++ [⟨p.A, p.up, dv', p.xs⟩]) n ∧ ∀ k ∈ footR r pv' (l ++ [⟨p.A, p.up, dv', p.xs⟩]), k ∈ footR r pv l ∨ w.heap.size ≤ k) ∧ Upd (footR r pv l) w w' := by
  obtain ⟨i0, hi, hz0, hz1, hz2⟩ := info_parts dp_info
  obtain ⟨A, up, dv, xs⟩ := p
  obtain ⟨pp, pc, rfl⟩ := hR.rows.len
  have hlt := hR.head.lt
  go_enter Try.func29, Try.ntmps29
  go_upto_region 6 with (go_at_call 19; refine (dsee_yes hR (by omega) i _ hp hx).mono ?_; rintro e w3 ⟨⟨dv', rfl, hob, hfr⟩, hu3⟩; dsimp only at hob; obtain ⟨p', c', rfl⟩ := hob.form; have u4 := hu3.alloc (.cells #[.int .i64 A, .bool up, .slice p' xs.length c'] 51); have hR4 := hR.nil u4; have c0 := hR4.head.cell 0 rfl)
  have uW : Upd [] w (w3.alloc (.cells #[.int .i64 A, .bool up, .slice p' xs.length c'] 51)).drew := u4.drew
  have hobW : OwnBytes (w3.alloc (.cells #[.int .i64 A, .bool up, .slice p' xs.length c'] 51)).drew (.slice p' xs.length c') xs := hob.frame (((Upd.refl [] w3).alloc _).drew) (by simp)
  have hBW : Blk (w3.alloc (.cells #[.int .i64 A, .bool up, .slice p' xs.length c'] 51)).drew w3.heap.size [.int .i64 A, .bool up, .slice p' xs.length c'] 51 := (Blk.new w3 _ _).drew
  have hszW : (w3.alloc (.cells #[.int .i64 A, .bool up, .slice p' xs.length c'] 51)).drew.heap.size = w3.heap.size + 1 := by simp
  clear c0 hR4
  have hRW := hR.nil uW
  have k1 := hRW.head.cell 0 rfl
  have q0 := hBW.cell 0 rfl
  have q1 := hBW.cell 1 rfl
  have q2 := hBW.cell 2 rfl
  have hRX := ((hR.nil u4).nil ((Upd.refl [] _).alloc (.cells #[.int .i64 A, .bool up, .slice p' xs.length c'] 51))).nil ((Upd.refl [] _).drew)
  have k1a := hRX.head.cell 0 rfl
  have k1f := hRX.head.free 0
  have hrne := blk_type hRW.head hRW.rows.row (by decide)
  have hs3 := hu3.size
  go_region_law (refine step_append_lies _ (by rfl) _ _ _ (by rfl) 0 51 i0 _ 3 40 Try.underlying47 hi hz0 hz1 hz2 rfl (by omega) (.slice pp l.length pc) l.length (pkVals l) (by rfl) hRX.rows.row ⟨w3.heap.size + 1, 0, none⟩ 1 1 [.int .i64 A, .bool up, .slice p' xs.length c'] (by rfl) (by rfl) (World.news_of_block (cs := #[.int .i64 A, .bool up, .slice p' xs.length c']) (t := 51) (fr := (0, 0)) (by rw [← hszW]; exact heap_alloc_new (w3.alloc _).drew _)) (by simp [Value.oneCell']) (by omega) (by simp only [maxLen]; omega) (by omega) (Nat.zero_le _) (w3.heap.size + 2) (by simp) ?_; intro gg cap w1 hown1 hgrow hat hlt1; have cz := (hgrow.cell_far ⟨r, 0, none⟩ (by simp; omega) (fun e => hrne e.symm)).trans k1a; have fz := (hgrow.frozen_far ⟨r, 0, none⟩ (by simp; omega) (fun e => hrne e.symm)).trans k1f)
  all_goals
    obtain ⟨⟨pv', dv', hD, hf⟩, hu⟩ := doc_post hR uW hobW hfr hown1 hgrow (hat.imp id (fun e => by omega))
    generalize w1.setCell ⟨r, 0, none⟩ (.slice (some ⟨gg, 0, none⟩) (l.length + 1) cap) = W at hD hu ⊢
    go_wp2_with fail
    go_ret
    exact ⟨rfl, ⟨pv', dv', hD, hf⟩, hu⟩

end Go.Proofs.Ytceeekdephgcmaa
