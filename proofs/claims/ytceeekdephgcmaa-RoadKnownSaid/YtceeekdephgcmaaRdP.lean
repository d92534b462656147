/- The document's road: Take. -/
import Derived.Test.YtceeekdephgcmaaRdO
namespace Go.Proofs.Ytceeekdephgcmaa
open Go.RowKit

set_option maxHeartbeats 4000000 in
set_option maxRecDepth 100000 in
theorem dtake_yes {w : World} {r : Nat} {pv : Value} {l : List Pk} {n : Int} (hR : DocAt w r pv l n) (hl : l.length ≤ 1024) (i : Nat) (p : Pk) (hp : l[i]? = some p) (hx : p.xs.length ≤ 16384) :
    Calls Try.prog 28 #[.pointer (some ⟨r, 0, none⟩), .int .i64 i] w fun e w' =>
      (∃ dv', e = .returned (.tuple #[.agg #[.int .i64 p.A, .bool p.up, dv'], .bool true]) ∧ OwnBytes w' dv' p.xs ∧ (∀ k, dv'.ownBlock = some k → w.heap.size ≤ k) ∧
        ∃ pv', DocAt w' r pv' (l.eraseIdx i) n ∧ ∀ k ∈ footR r pv' (l.eraseIdx i), k ∈ footR r pv l ∨ w.heap.size ≤ k) ∧ Upd (footR r pv l) w w' := by
  obtain ⟨i0, hi0, hz0, hz1, hz2⟩ := info_parts dp_info
  have hi : i < l.length := (List.getElem?_eq_some_iff.1 hp).1
  obtain ⟨M, hM⟩ : ∃ M, l.length = i + 1 + M := ⟨l.length - (i + 1), by omega⟩
  obtain ⟨g, cap, hpv, _, hgl⟩ := hR.rows.row.form (by omega)
  have hcap : l.length ≤ cap := by
    rcases hR.rows.row.2 with ⟨h1, _⟩ | ⟨g', cap', cur, h1, _, _, hnc, _⟩
    · rw [hpv] at h1; simp at h1
    · rw [hpv] at h1; simp at h1; omega
  have ua : Upd [] w (w.alloc (.cells #[.int .i64 0, .bool false, .slice none 0 0] 51)) := (Upd.refl [] w).alloc _
  have hra := hR.nil ua
  have hrl := hR.head.lt
  obtain ⟨A, up, dv, xs⟩ := p
  dsimp only at hx
  go_enter Try.func28, Try.ntmps28
  go_upto_region 4 with (go_at_call 19; refine (dsee_yes hra hl i _ hp hx).mono ?_; rintro e w3 ⟨⟨dv', rfl, hob, hfr⟩, hu3⟩; dsimp only at hob; obtain ⟨p', c', rfl⟩ := hob.form; have hB := (Blk.new w #[.int .i64 0, .bool false, .slice none 0 0] 51).upd_nil hu3; have u4 : Upd [] w3 (w3.alloc (.cells #[.int .i64 A, .bool up, .slice p' xs.length c'] 51)) := (Upd.refl [] w3).alloc _; have hR4 := (hra.nil hu3).nil u4; have hB4 := hB.upd_nil u4; have hT4 := Blk.new w3 #[.int .i64 A, .bool up, .slice p' xs.length c'] 51; have c04 := hR4.head.cell 0 rfl; have hone := hR4.rows.one; have s0 := hR4.rows; have hs3 := hu3.size)
  rw [hpv] at c04 s0
  have s1 := s0.srcTake i (by omega)
  simp at hs3
  by_cases hkc : i + 1 = cap
  · go_upto_region 5 with (at_builtin; refine wpList_append_any rfl _ _ 47 rfl 0 51 i0 _ 3 40 Try.underlying47 hi0 hz0 hz1 hz2 rfl (by decide) _ 0 [] rfl (World.ownsRow_nil _ _ _ _) (some ⟨g, 0, none⟩) i cap (pkVals (l.take i)) rfl (by rw [pkVals_len, List.length_take]; omega) s1 (pkVals_sub hone (fun p hp => List.mem_of_mem_take hp)) (by simp only [maxLen]; omega) (by omega) (Nat.zero_le _) ?_; rintro p5 c5 w5 hown5 hgrow5 hat5; have hown5' : w5.ownsRow 0 51 3 (.slice p5 i c5) i (pkVals (l.take i)) := (by simpa using hown5); have hat5' : ∀ g, (Value.slice p5 i c5).ownBlock = some g → w3.heap.size + 1 ≤ g := (fun g hg => (hat5 g (by simpa using hg)).elim (fun e => by cases e) (fun h => by simpa using h)); have u45 := (Upd.refl [] _).grown hgrow5 (fun k hk => by cases hk); have c05 := (hR4.nil u45).head.cell 0 rfl; have s2 := ((hR4.nil u45).rows); clear hown5 hat5)
    rw [hpv] at c05 s2
    have s3 : Src w5 (some ⟨g, 0, none⟩) M (pkVals (l.drop (i + 1))) := .inl (by omega)
    go_upto_region 6 with (at_builtin; refine wpList_append_any rfl _ _ 47 rfl 0 51 i0 _ 3 40 Try.underlying47 hi0 hz0 hz1 hz2 rfl (by decide) (.slice p5 i c5) i (pkVals (l.take i)) (by simp [Act.eval, Act.put]) hown5' (some ⟨g, 0, none⟩) M (cap - (i + 1)) (pkVals (l.drop (i + 1))) (by simp [Act.eval, Act.put] <;> omega) (by rw [pkVals_len, List.length_drop]; omega) s3 (pkVals_sub hone (fun p hp => List.mem_of_mem_drop hp)) (by simp only [maxLen]; omega) (by omega) (Nat.zero_le _) ?_; rintro p6 c6 w6 hown6 hgrow6 hat6; have u46 := u45.grown hgrow6 (fun g hg => .inr (by have := hat5' g hg; simpa using this)); have hR6 := hR4.nil u46; have k6 := hR6.head.cell 0 rfl; have f6 := hR6.head.free 0; have hT6 := hT4.upd_nil u46; have hB6 := hB4.upd_nil u46; have hT7 := hT6.set_ne ⟨r, 0, none⟩ (by simp; omega) (.slice p6 (i + M) c6); have hB7 := hB6.set_ne ⟨r, 0, none⟩ (by simp; omega) (.slice p6 (i + M) c6); have q0 := hT7.cell 0 rfl; have q1 := hT7.cell 1 rfl; have q2 := hT7.cell 2 rfl; have d0 := hB7.cell 0 rfl; have d1 := hB7.cell 1 rfl; have d2 := hB7.cell 2 rfl; have e0 := hB7.free 0; have e1 := hB7.free 1; have e2 := hB7.free 2)
    have hrows6 := hR4.rows.erase (w2 := w6) (pv' := .slice p6 (i + M) c6) hi (by rw [← pkVals_erase, show l.length - 1 = i + M by omega]; exact hown6) (u46.mono (by simp)) (by decide)
    have uR : Upd [r] w6 (w6.setCell ⟨r, 0, none⟩ (.slice p6 (i + M) c6)) := (Upd.refl [r] w6).setCell (p := ⟨r, 0, none⟩) (Or.inl (by simp)) _
    have hHR := hR6.head.set 0 (.slice p6 (i + M) c6)
    have hs4 := u46.size
    have hf6 : ∀ k, (Value.slice p6 (i + M) c6).ownBlock = some k → w.heap.size ≤ k := fun k hk => by
      rcases hat6 k hk with h | h
      · have := hat5' k h; omega
      · have := u45.size; simp at this; omega
    generalize w6.setCell ⟨r, 0, none⟩ (.slice p6 (i + M) c6) = w7 at *
    go_wp2_with fail
    have hF := ((hB7.set 0 (.int .i64 A)).set 1 (.bool up)).set 2 (.slice p' xs.length c')
    have uF : Upd [w.heap.size] w7 _ := (((Upd.refl [w.heap.size] w7).setCell (p := ⟨w.heap.size, 0, none⟩) (Or.inl (by simp)) (.int .i64 A)).setCell (p := ⟨w.heap.size, 1, none⟩) (Or.inl (by simp)) (.bool up)).setCell (p := ⟨w.heap.size, 2, none⟩) (Or.inl (by simp)) (.slice p' xs.length c')
    generalize (((w7.setCell ⟨w.heap.size, 0, none⟩ (.int .i64 A)).setCell ⟨w.heap.size, 1, none⟩ (.bool up)).setCell ⟨w.heap.size, 2, none⟩ (.slice p' xs.length c')) = W at hF uF ⊢
    have z0 := hF.cell 0 rfl
    have z1 := hF.cell 1 rfl
    have z2 := hF.cell 2 rfl
    have hob6 : OwnBytes w6 (.slice p' xs.length c') xs := (hob.frame u4 (by simp)).frame u46 (by simp)
    have hob7 := hob6.frame uR (fun k hk hm => by have := hfr k hk; simp at this hm; omega)
    have hobW := hob7.frame uF (fun k hk hm => by have := hfr k hk; simp at this hm; omega)
    have hft : ∀ k ∈ foot (.slice p6 (i + M) c6) (l.eraseIdx i), k ∈ foot pv l ∨ w.heap.size ≤ k := fun k hk => by
      rcases foot_cases hk with e | ⟨p, hp, e⟩
      · exact .inr (hf6 k e)
      · exact .inl (foot_data (List.mem_of_mem_eraseIdx hp) e)
    have hrows7 := hrows6.frame uR (fun k hk hm => by
      simp at hm; subst hm
      rcases foot_cases hk with e | ⟨p, hp, e⟩
      · exact blk_type hR6.head hrows6.row (by decide) e
      · exact blk_type hR6.head (hrows6.data p hp).own (by decide) e)
    have hrowsW := hrows7.frame uF (fun k hk hm => by
      simp at hm; subst hm
      rcases foot_cases hk with e | ⟨p, hp, e⟩
      · rcases hat6 _ e with h | h
        · have := hat5' _ h; omega
        · have := u45.size; simp at this; omega
      · have := hR.rows.lt _ (foot_data (List.mem_of_mem_eraseIdx hp) e); omega)
    refine bodyPost_ret (v := .tuple #[.agg #[.int .i64 A, .bool up, .slice p' xs.length c'], .bool true]) (by simp [results, Try.results28, go_sem, z0, z1, z2]) rfl ⟨⟨_, rfl, hobW, fun k hk => ?_, _, ⟨hHR.upd uF (by simp; omega), hrowsW⟩, fun k hk => ?_⟩, ?_⟩
    · have := hfr k hk; simp at this; omega
    · rcases List.mem_cons.1 hk with rfl | hk
      · exact .inl (by simp [footR])
      · exact (hft k hk).imp (fun h => by simp [footR, h]) id
    · have k0 : Upd (footR r pv l) w w6 := (((ua.trans_nil hu3).trans_nil u4).trans_nil u46).mono (by simp)
      exact (k0.trans uR (fun x hx => .inl (by simp at hx; subst hx; simp [footR]))).trans uF (fun x hx => .inr (by simp at hx; omega))
  · go_upto_region 5 with (at_builtin; refine wpList_append_any rfl _ _ 47 rfl 0 51 i0 _ 3 40 Try.underlying47 hi0 hz0 hz1 hz2 rfl (by decide) _ 0 [] rfl (World.ownsRow_nil _ _ _ _) (some ⟨g, 0, none⟩) i cap (pkVals (l.take i)) rfl (by rw [pkVals_len, List.length_take]; omega) s1 (pkVals_sub hone (fun p hp => List.mem_of_mem_take hp)) (by simp only [maxLen]; omega) (by omega) (Nat.zero_le _) ?_; rintro p5 c5 w5 hown5 hgrow5 hat5; have hown5' : w5.ownsRow 0 51 3 (.slice p5 i c5) i (pkVals (l.take i)) := (by simpa using hown5); have hat5' : ∀ g, (Value.slice p5 i c5).ownBlock = some g → w3.heap.size + 1 ≤ g := (fun g hg => (hat5 g (by simpa using hg)).elim (fun e => by cases e) (fun h => by simpa using h)); have u45 := (Upd.refl [] _).grown hgrow5 (fun k hk => by cases hk); have c05 := (hR4.nil u45).head.cell 0 rfl; have s2 := ((hR4.nil u45).rows); clear hown5 hat5)
    rw [hpv] at c05 s2
    have s3 : Src w5 (some ⟨g, (i + 1) * 3, none⟩) M (pkVals (l.drop (i + 1))) := s2.srcDrop (i + 1) M (by omega)
    go_upto_region 6 with (at_builtin; refine wpList_append_any rfl _ _ 47 rfl 0 51 i0 _ 3 40 Try.underlying47 hi0 hz0 hz1 hz2 rfl (by decide) (.slice p5 i c5) i (pkVals (l.take i)) (by simp [Act.eval, Act.put]) hown5' (some ⟨g, (i + 1) * 3, none⟩) M (cap - (i + 1)) (pkVals (l.drop (i + 1))) (by simp [Act.eval, Act.put] <;> omega) (by rw [pkVals_len, List.length_drop]; omega) s3 (pkVals_sub hone (fun p hp => List.mem_of_mem_drop hp)) (by simp only [maxLen]; omega) (by omega) (Nat.zero_le _) ?_; rintro p6 c6 w6 hown6 hgrow6 hat6; have u46 := u45.grown hgrow6 (fun g hg => .inr (by have := hat5' g hg; simpa using this)); have hR6 := hR4.nil u46; have k6 := hR6.head.cell 0 rfl; have f6 := hR6.head.free 0; have hT6 := hT4.upd_nil u46; have hB6 := hB4.upd_nil u46; have hT7 := hT6.set_ne ⟨r, 0, none⟩ (by simp; omega) (.slice p6 (i + M) c6); have hB7 := hB6.set_ne ⟨r, 0, none⟩ (by simp; omega) (.slice p6 (i + M) c6); have q0 := hT7.cell 0 rfl; have q1 := hT7.cell 1 rfl; have q2 := hT7.cell 2 rfl; have d0 := hB7.cell 0 rfl; have d1 := hB7.cell 1 rfl; have d2 := hB7.cell 2 rfl; have e0 := hB7.free 0; have e1 := hB7.free 1; have e2 := hB7.free 2)
    have hrows6 := hR4.rows.erase (w2 := w6) (pv' := .slice p6 (i + M) c6) hi (by rw [← pkVals_erase, show l.length - 1 = i + M by omega]; exact hown6) (u46.mono (by simp)) (by decide)
    have uR : Upd [r] w6 (w6.setCell ⟨r, 0, none⟩ (.slice p6 (i + M) c6)) := (Upd.refl [r] w6).setCell (p := ⟨r, 0, none⟩) (Or.inl (by simp)) _
    have hHR := hR6.head.set 0 (.slice p6 (i + M) c6)
    have hs4 := u46.size
    have hf6 : ∀ k, (Value.slice p6 (i + M) c6).ownBlock = some k → w.heap.size ≤ k := fun k hk => by
      rcases hat6 k hk with h | h
      · have := hat5' k h; omega
      · have := u45.size; simp at this; omega
    generalize w6.setCell ⟨r, 0, none⟩ (.slice p6 (i + M) c6) = w7 at *
    go_wp2_with fail
    have hF := ((hB7.set 0 (.int .i64 A)).set 1 (.bool up)).set 2 (.slice p' xs.length c')
    have uF : Upd [w.heap.size] w7 _ := (((Upd.refl [w.heap.size] w7).setCell (p := ⟨w.heap.size, 0, none⟩) (Or.inl (by simp)) (.int .i64 A)).setCell (p := ⟨w.heap.size, 1, none⟩) (Or.inl (by simp)) (.bool up)).setCell (p := ⟨w.heap.size, 2, none⟩) (Or.inl (by simp)) (.slice p' xs.length c')
    generalize (((w7.setCell ⟨w.heap.size, 0, none⟩ (.int .i64 A)).setCell ⟨w.heap.size, 1, none⟩ (.bool up)).setCell ⟨w.heap.size, 2, none⟩ (.slice p' xs.length c')) = W at hF uF ⊢
    have z0 := hF.cell 0 rfl
    have z1 := hF.cell 1 rfl
    have z2 := hF.cell 2 rfl
    have hob6 : OwnBytes w6 (.slice p' xs.length c') xs := (hob.frame u4 (by simp)).frame u46 (by simp)
    have hob7 := hob6.frame uR (fun k hk hm => by have := hfr k hk; simp at this hm; omega)
    have hobW := hob7.frame uF (fun k hk hm => by have := hfr k hk; simp at this hm; omega)
    have hft : ∀ k ∈ foot (.slice p6 (i + M) c6) (l.eraseIdx i), k ∈ foot pv l ∨ w.heap.size ≤ k := fun k hk => by
      rcases foot_cases hk with e | ⟨p, hp, e⟩
      · exact .inr (hf6 k e)
      · exact .inl (foot_data (List.mem_of_mem_eraseIdx hp) e)
    have hrows7 := hrows6.frame uR (fun k hk hm => by
      simp at hm; subst hm
      rcases foot_cases hk with e | ⟨p, hp, e⟩
      · exact blk_type hR6.head hrows6.row (by decide) e
      · exact blk_type hR6.head (hrows6.data p hp).own (by decide) e)
    have hrowsW := hrows7.frame uF (fun k hk hm => by
      simp at hm; subst hm
      rcases foot_cases hk with e | ⟨p, hp, e⟩
      · rcases hat6 _ e with h | h
        · have := hat5' _ h; omega
        · have := u45.size; simp at this; omega
      · have := hR.rows.lt _ (foot_data (List.mem_of_mem_eraseIdx hp) e); omega)
    refine bodyPost_ret (v := .tuple #[.agg #[.int .i64 A, .bool up, .slice p' xs.length c'], .bool true]) (by simp [results, Try.results28, go_sem, z0, z1, z2]) rfl ⟨⟨_, rfl, hobW, fun k hk => ?_, _, ⟨hHR.upd uF (by simp; omega), hrowsW⟩, fun k hk => ?_⟩, ?_⟩
    · have := hfr k hk; simp at this; omega
    · rcases List.mem_cons.1 hk with rfl | hk
      · exact .inl (by simp [footR])
      · exact (hft k hk).imp (fun h => by simp [footR, h]) id
    · have k0 : Upd (footR r pv l) w w6 := (((ua.trans_nil hu3).trans_nil u4).trans_nil u46).mono (by simp)
      exact (k0.trans uR (fun x hx => .inl (by simp at hx; subst hx; simp [footR]))).trans uF (fun x hx => .inr (by simp at hx; omega))
end Go.Proofs.Ytceeekdephgcmaa
