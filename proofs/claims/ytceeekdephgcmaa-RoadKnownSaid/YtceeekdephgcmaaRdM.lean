/- The document's road: its memory, CopyBytes, copied, See. -/
import Derived.Test.YtceeekdephgcmaaRdJ
import Derived.Test.YtceeekdephgcmaaApp
import Derived.Deep.RegionLaw
namespace Go.Proofs.Ytceeekdephgcmaa
open Go.RowKit

theorem u8_info : (Try.prog.info? 5).map (fun i => (i.zero, i.size, i.bytes)) = some (some (.int .u8 0), 1, 1) := by kernel_rfl
theorem dp_info : (Try.prog.info? 51).map (fun i => (i.zero, i.size, i.bytes)) = some (some (.agg #[.int .i64 0, .bool false, .slice none 0 0]), 3, 40) := by kernel_rfl

/-- The document's road at block r. -/
structure DocAt (w : World) (r : Nat) (pv : Value) (l : List Pk) (n : Int) : Prop where
  head : Blk w r [pv, .int .i64 n] 49
  rows : RowAt w 51 pv l

theorem DocAt.frame {w w' : World} {r : Nat} {pv : Value} {l : List Pk} {n : Int} (h : DocAt w r pv l n) {bs : List Nat} (u : Upd bs w w') (hb : ∀ k ∈ footR r pv l, k ∉ bs) : DocAt w' r pv l n :=
  ⟨h.head.upd u (hb r (by simp [footR])), h.rows.frame u (fun k hk => hb k (by simp [footR, hk]))⟩
theorem DocAt.nil {w w' : World} {r : Nat} {pv : Value} {l : List Pk} {n : Int} (h : DocAt w r pv l n) (u : Upd [] w w') : DocAt w' r pv l n := h.frame u (by simp)
theorem DocAt.lt {w : World} {r : Nat} {pv : Value} {l : List Pk} {n : Int} (h : DocAt w r pv l n) : ∀ k ∈ footR r pv l, k < w.heap.size := by
  intro k hk
  rcases List.mem_cons.1 hk with rfl | hk
  · exact h.head.lt
  · exact h.rows.lt k hk

theorem BytesAt.src {w : World} {p : Option Addr} {c : Nat} {xs : List Int} (h : BytesAt w (.slice p xs.length c) xs) : Src w p xs.length (u8s xs) := by
  rcases h.2 with ⟨_, h2⟩ | ⟨a, c', h1, h2⟩
  · exact .inl (by rw [h2]; rfl)
  · simp at h1
    obtain ⟨rfl, _⟩ := h1
    refine .inr ⟨a, rfl, fun j u hu => ?_⟩
    have hj : j < xs.length := by have := (List.getElem?_eq_some_iff.1 hu).1; simpa [u8s] using this
    rw [h2 j hj]
    simp [u8s, List.getElem?_eq_getElem hj] at hu
    rw [← hu, List.getD_eq_getElem?_getD, List.getElem?_eq_getElem hj]; rfl
theorem u8s_one (xs : List Int) : ∀ u ∈ u8s xs, u.oneCell' = true := by
  intro u hu; simp only [u8s, List.mem_map] at hu; obtain ⟨x, _, rfl⟩ := hu; rfl
theorem u8s_len (xs : List Int) : (u8s xs).length = xs.length := by simp [u8s]

set_option maxRecDepth 100000 in
theorem copy_any {w : World} {v : Value} {xs : List Int} (hb : BytesAt w v xs) (hx : xs.length ≤ 140737488351232) :
    Calls Try.prog 26 #[v] w fun e w' => (∃ dv', e = .returned dv' ∧ OwnBytes w' dv' xs ∧ ∀ k, dv'.ownBlock = some k → w.heap.size ≤ k) ∧ Upd [] w w' := by
  obtain ⟨i0, hi, hz0, hz1, hz2⟩ := info_parts u8_info
  obtain ⟨p, c, rfl⟩ := hb.form
  go_enter Try.func26, Try.ntmps26
  go_wp2_with (at_builtin; refine wpList_append_any rfl _ _ 26 rfl w.heap.size 5 i0 _ 1 1 Try.underlying26 hi hz0 hz1 hz2 rfl (by decide) _ 0 [] rfl (World.ownsRow_nil _ _ _ _) p xs.length c (u8s xs) rfl (by rw [u8s_len]; omega) hb.src (u8s_one _) (by simp only [maxLen]; omega) (by omega) (Nat.le_refl _) ?_; rintro p' c' w' hown hgrow hat; have hown' : w'.ownsRow w.heap.size 5 1 (.slice p' xs.length c') xs.length (u8s xs) := (by simpa using hown))
  go_ret
  exact ⟨⟨.slice p' xs.length c', by simp, ⟨hown'.mono (Nat.zero_le _), hb.1⟩, fun k hk => (hown'.lt k hk).1⟩, (Upd.refl [] w).grown hgrow (fun k hk => by cases hk)⟩

set_option maxHeartbeats 2000000 in
set_option maxRecDepth 100000 in
theorem copied_any (A : Int) (up : Bool) (dv : Value) (xs : List Int) (w : World) (hb : BytesAt w dv xs) (hx : xs.length ≤ 140737488351232) :
    Calls Try.prog 31 #[.agg #[.int .i64 A, .bool up, dv]] w fun e w' =>
      (∃ dv', e = .returned (.agg #[.int .i64 A, .bool up, dv']) ∧ OwnBytes w' dv' xs ∧ ∀ k, dv'.ownBlock = some k → w.heap.size ≤ k) ∧ Upd [] w w' := by
  obtain ⟨p, c, rfl⟩ := hb.form
  have u1 : Upd [] w ((w.alloc (.cells #[.int .i64 A, .bool up, .slice p xs.length c] 51)).alloc (.cells #[.int .i64 0, .bool false, .slice none 0 0] 51)).drew := (((Upd.refl [] w).alloc _).alloc _).drew
  have hb1 := hb.frame u1 (by simp)
  have hB1 : Blk ((w.alloc (.cells #[.int .i64 A, .bool up, .slice p xs.length c] 51)).alloc (.cells #[.int .i64 0, .bool false, .slice none 0 0] 51)).drew w.heap.size [.int .i64 A, .bool up, .slice p xs.length c] 51 := ((Blk.new w _ _).alloc _).drew
  have hB2 : Blk ((w.alloc (.cells #[.int .i64 A, .bool up, .slice p xs.length c] 51)).alloc (.cells #[.int .i64 0, .bool false, .slice none 0 0] 51)).drew (w.heap.size + 1) [.int .i64 0, .bool false, .slice none 0 0] 51 := Blk.new_at (by simp) rfl
  go_enter Try.func31, Try.ntmps31
  go_upto_region 1 with fail
  go_region_law (go_simp; go_at_call 26; refine (copy_any hb1 hx).mono ?_; rintro e w3 ⟨⟨dv', rfl, hob, hfr⟩, hu3⟩; obtain ⟨p', c', rfl⟩ := hob.form; have hC1 := hB1.upd_nil hu3; have hC2 := hB2.upd_nil hu3; have b0 := hC1.cell 0 rfl; have b1 := hC1.cell 1 rfl; have b2 := hC1.cell 2 rfl; have d0 := hC2.cell 0 rfl; have d1 := hC2.cell 1 rfl; have d2 := hC2.cell 2 rfl; have e0 := hC2.free 0; have e1 := hC2.free 1; have e2 := hC2.free 2)
  all_goals
    go_wp2_with fail
    have hF := ((hC2.set 0 (.int .i64 A)).set 1 (.bool up)).set 2 (.slice p' xs.length c')
    have uF : Upd [w.heap.size + 1] w3 _ := (((Upd.refl [w.heap.size + 1] w3).setCell (p := ⟨w.heap.size + 1, 0, none⟩) (Or.inl (by simp)) (.int .i64 A)).setCell (p := ⟨w.heap.size + 1, 1, none⟩) (Or.inl (by simp)) (.bool up)).setCell (p := ⟨w.heap.size + 1, 2, none⟩) (Or.inl (by simp)) (.slice p' xs.length c')
    generalize (((w3.setCell ⟨w.heap.size + 1, 0, none⟩ (.int .i64 A)).setCell ⟨w.heap.size + 1, 1, none⟩ (.bool up)).setCell ⟨w.heap.size + 1, 2, none⟩ (.slice p' xs.length c')) = W at hF uF ⊢
    clear d0 d1 d2 e0 e1 e2 b0 b1 b2
    have z0 := hF.cell 0 rfl
    have z1 := hF.cell 1 rfl
    have z2 := hF.cell 2 rfl
    refine bodyPost_ret (v := .agg #[.int .i64 A, .bool up, .slice p' xs.length c']) (by simp [results, Try.results31, go_sem, z0, z1, z2]) rfl ⟨⟨_, rfl, hob.frame uF (fun k hk hm => ?_), fun k hk => ?_⟩, ?_⟩
    · have := hfr k hk; simp at this hm; omega
    · have := hfr k hk; simp at this; omega
    · exact (u1.trans_nil hu3).trans uF (by simp)

theorem doc_post {w w3 w1 : World} {r : Nat} {pv : Value} {l : List Pk} {n : Int} {A : Int} {up : Bool} {p' : Option Addr} {c' : Nat} {xs : List Int} {gg cap : Nat} (hR : DocAt w r pv l n) (u3 : Upd [] w w3) (hob : OwnBytes w3 (.slice p' xs.length c') xs)
    (hfr : ∀ k, (Value.slice p' xs.length c').ownBlock = some k → w.heap.size ≤ k)
    (hown1 : w1.ownsRow 0 51 3 (.slice (some ⟨gg, 0, none⟩) (l.length + 1) cap) (l.length + 1) (pkVals l ++ [.int .i64 A, .bool up, .slice p' xs.length c']))
    (hgrow : World.grownBy (w3.alloc (.cells #[.int .i64 A, .bool up, .slice p' xs.length c'] 51)) w1 pv.ownBlock)
    (hat : pv.ownBlock = some gg ∨ w.heap.size ≤ gg) :
    (∃ pv' dv', DocAt (w1.setCell ⟨r, 0, none⟩ (.slice (some ⟨gg, 0, none⟩) (l.length + 1) cap)) r pv' (l ++ [⟨A, up, dv', xs⟩]) n ∧ ∀ k ∈ footR r pv' (l ++ [⟨A, up, dv', xs⟩]), k ∈ footR r pv l ∨ w.heap.size ≤ k) ∧
      Upd (footR r pv l) w (w1.setCell ⟨r, 0, none⟩ (.slice (some ⟨gg, 0, none⟩) (l.length + 1) cap)) := by
  have hR3 := hR.nil u3
  have u1 : Upd pv.ownBlock.toList w3 w1 := ((Upd.refl _ _).alloc _).grown hgrow (fun k hk => .inl (by simp [hk]))
  have hpush := hR3.rows.push hob (fun k hk hm => by
    have h1 := hfr k hk
    have h2 := hR.rows.lt k hm
    omega) hown1 u1 (by decide)
  have hhead : Blk w1 r [pv, .int .i64 n] 49 := hR3.head.upd u1 (fun hm => blk_type hR3.head hR3.rows.row (by decide) (by simpa [Option.mem_toList] using hm))
  have us : Upd [r] w1 (w1.setCell ⟨r, 0, none⟩ (.slice (some ⟨gg, 0, none⟩) (l.length + 1) cap)) := (Upd.refl _ _).setCell (Or.inl (by simp)) _
  refine ⟨⟨_, _, ⟨hhead.set 0 _, hpush.frame us (fun k hk hm => ?_)⟩, fun k hk => ?_⟩, ?_⟩
  · simp at hm; subst hm
    rcases foot_cases hk with e | ⟨p, hp, e⟩
    · exact blk_type hhead hpush.row (by decide) e
    · exact blk_type hhead (hpush.data p hp).own (by decide) e
  · rcases List.mem_cons.1 hk with rfl | hk
    · exact .inl (by simp [footR])
    · rcases foot_cases hk with e | ⟨p, hp, e⟩
      · simp [Value.ownBlock] at e; subst e
        rcases hat with hat | hat
        · exact .inl (by simp [footR, foot_row hat])
        · exact .inr hat
      · rcases List.mem_append.1 hp with hp | hp
        · exact .inl (by simp [footR, foot_data hp e])
        · simp at hp; subst hp
          exact .inr (hfr k e)
  · have k1 : Upd (footR r pv l) w w1 := (u3.mono (by simp)).trans u1 (fun x hx => .inl (by simp [footR, foot_row (by simpa [Option.mem_toList] using hx : pv.ownBlock = some x)]))
    exact k1.trans us (fun x hx => .inl (by simp at hx; subst hx; simp [footR]))

set_option maxHeartbeats 2000000 in
set_option maxRecDepth 100000 in
theorem dsend_ok {w : World} {r : Nat} {pv : Value} {l : List Pk} {n : Int} (hR : DocAt w r pv l n) (A : Int) (up : Bool) (dv : Value) (xs : List Int) (hb : BytesAt w dv xs) (hx : xs.length ≤ 16384) (hl : l.length < 1024) (h1 : 1 ≤ A) (h2 : A ≤ 16) :
    Calls Try.prog 27 #[.pointer (some ⟨r, 0, none⟩), .agg #[.int .i64 A, .bool up, dv]] w fun e w' =>
      e = .returned (.int .i64 0) ∧ (∃ pv' dv', DocAt w' r pv' (l ++ [⟨A, up, dv', xs⟩]) (wrap64 (n + 1)) ∧ ∀ k ∈ footR r pv' (l ++ [⟨A, up, dv', xs⟩]), k ∈ footR r pv l ∨ w.heap.size ≤ k) ∧ Upd (footR r pv l) w w' := by
  obtain ⟨i0, hi, hz0, hz1, hz2⟩ := info_parts dp_info
  obtain ⟨pp, pc, rfl⟩ := hR.rows.len
  obtain ⟨dp, dc, rfl⟩ := hb.form
  have hlt := hR.head.lt
  have ub0 : Upd [] w (w.alloc (.cells #[.int .i64 A, .bool up, .slice dp xs.length dc] 51)) := ((Upd.refl [] w).alloc _)
  have ub : Upd [] w (w.alloc (.cells #[.int .i64 A, .bool up, .slice dp xs.length dc] 51)).drew := ub0.drew
  have hr0 := hR.nil ub0
  have c0 := hr0.head.cell 0 rfl
  have hrb := hR.nil ub
  have hbb := hb.frame ub (by simp)
  go_enter Try.func27, Try.ntmps27
  go_upto_region 7 with fail
  go_region_law (first
    | (refine step_append_lies _ (by rfl) _ _ _ (by rfl) 0 51 i0 _ 3 40 Try.underlying47 hi hz0 hz1 hz2 rfl (by omega) (.slice pp l.length pc) l.length (pkVals l) (by rfl) (hR3.rows.row.alloc _)
        ⟨w3.heap.size, 0, none⟩ 1 1 [.int .i64 A, .bool up, .slice p' xs.length c'] (by rfl) (by rfl) (World.news_of_block (cs := #[.int .i64 A, .bool up, .slice p' xs.length c']) (t := 51) (fr := (0, 0)) (heap_alloc_new w3 _)) (by simp [Value.oneCell'])
        (by omega) (by simp only [maxLen]; omega) (by omega) (Nat.zero_le _) (w3.heap.size + 1) (by simp) ?_; intro gg cap w1 hown1 hgrow hat hlt1; have cz := (hgrow.cell_far ⟨r, 0, none⟩ (by simp; omega) (fun e => hrne e.symm)).trans k1a; have fz := (hgrow.frozen_far ⟨r, 0, none⟩ (by simp; omega) (fun e => hrne e.symm)).trans k1f)
    | (go_simp; go_at_call 31; refine (copied_any A up (.slice dp xs.length dc) xs _ hbb (by omega)).mono ?_; rintro e w3 ⟨⟨dv', rfl, hob, hfr⟩, hu3⟩; obtain ⟨p', c', rfl⟩ := hob.form; have hR3 := hrb.nil hu3; have k1 := hR3.head.cell 0 rfl; have k1a := (hR3.head.alloc (.cells #[.int .i64 A, .bool up, .slice p' xs.length c'] 51)).cell 0 rfl; have k1f := (hR3.head.alloc (.cells #[.int .i64 A, .bool up, .slice p' xs.length c'] 51)).free 0; have hrne := blk_type hR3.head hR3.rows.row (by decide); have hr3 := hR3.head.lt))
  all_goals
    have hs3 := hu3.size
    simp at hs3
    obtain ⟨⟨pv', dv', hD, hf⟩, hu⟩ := doc_post hR (ub.trans_nil hu3) hob (fun k hk => by have := hfr k hk; simp at this; omega) hown1 hgrow (hat.imp id (fun e => by omega))
    generalize w1.setCell ⟨r, 0, none⟩ (.slice (some ⟨gg, 0, none⟩) (l.length + 1) cap) = W at hD hu ⊢
    have q1 := hD.head.cell 1 rfl
    have f1 := hD.head.free 1
    go_wp2_with fail
    go_ret
    have us : Upd [r] W (W.setCell ⟨r, 1, none⟩ (.int .i64 (wrap64 (n + 1)))) := (Upd.refl _ _).setCell (Or.inl (by simp)) _
    refine ⟨rfl, ⟨pv', dv', ⟨hD.head.set 1 _, hD.rows.frame us (fun k hk hm => ?_)⟩, hf⟩, hu.trans us (fun x hx => .inl (by simp at hx; subst hx; simp [footR]))⟩
    simp at hm; subst hm
    rcases foot_cases hk with e | ⟨p, hp, e⟩
    · exact blk_type hD.head hD.rows.row (by decide) e
    · exact blk_type hD.head (hD.rows.data p hp).own (by decide) e

end Go.Proofs.Ytceeekdephgcmaa
