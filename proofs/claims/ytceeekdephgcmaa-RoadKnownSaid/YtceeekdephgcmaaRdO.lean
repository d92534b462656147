/- The document's road: Turn, Take. -/
import Derived.Test.YtceeekdephgcmaaRdN
namespace Go.Proofs.Ytceeekdephgcmaa
open Go.RowKit

set_option maxRecDepth 100000 in
theorem dturn_no {w : World} {r : Nat} {pv : Value} {l : List Pk} {n : Int} (hR : DocAt w r pv l n) (hl : l.length ≤ 1024) (i at_ by_ : Int) (hi : i < 0 ∨ (l.length : Int) ≤ i) :
    Calls Try.prog 30 #[.pointer (some ⟨r, 0, none⟩), .int .i64 i, .int .i64 at_, .int .u8 by_] w fun e w' => e = .returned (.int .i64 9) ∧ Upd [] w w' := by
  go_enter Try.func30, Try.ntmps30
  go_wp2_with (go_at_call 19; refine (dsee_no hR hl i hi).mono ?_; rintro e w' ⟨rfl, hu⟩)
  go_ret
  exact ⟨rfl, hu.alloc _⟩

set_option maxRecDepth 100000 in
theorem dturn_far {w : World} {r : Nat} {pv : Value} {l : List Pk} {n : Int} (hR : DocAt w r pv l n) (hl : l.length ≤ 1024) (i : Nat) (p : Pk) (hp : l[i]? = some p) (hx : p.xs.length ≤ 16384) (at_ by_ : Int) (ha : at_ < 0 ∨ (p.xs.length : Int) ≤ at_) :
    Calls Try.prog 30 #[.pointer (some ⟨r, 0, none⟩), .int .i64 i, .int .i64 at_, .int .u8 by_] w fun e w' => e = .returned (.int .i64 9) ∧ Upd [] w w' := by
  obtain ⟨A, up, dv, xs⟩ := p
  dsimp only at ha hx
  by_cases h0 : at_ < 0
  · go_enter Try.func30, Try.ntmps30
    go_wp2_with (go_at_call 19; refine (dsee_yes hR hl i _ hp hx).mono ?_; rintro e w3 ⟨⟨dv', rfl, hob, hfr⟩, hu3⟩; dsimp only at hob; obtain ⟨p', c', rfl⟩ := hob.form; have u4 := hu3.alloc (.cells #[.int .i64 A, .bool up, .slice p' xs.length c'] 51))
    go_ret
    exact ⟨rfl, u4⟩
  · have h1 : (xs.length : Int) ≤ at_ := by omega
    go_enter Try.func30, Try.ntmps30
    go_wp2_with (go_at_call 19; refine (dsee_yes hR hl i _ hp hx).mono ?_; rintro e w3 ⟨⟨dv', rfl, hob, hfr⟩, hu3⟩; dsimp only at hob; obtain ⟨p', c', rfl⟩ := hob.form; have u4 := hu3.alloc (.cells #[.int .i64 A, .bool up, .slice p' xs.length c'] 51))
    go_ret
    exact ⟨rfl, u4⟩

theorem pkVals_set (l : List Pk) (i : Nat) (p q : Pk) (h : l[i]? = some p) : (((pkVals l).set (i * 3) (.int .i64 q.A)).set (i * 3 + 1) (.bool q.up)).set (i * 3 + 2) q.dv = pkVals (l.set i q) := by
  induction l generalizing i with
  | nil => simp at h
  | cons a l ih =>
    cases i with
    | zero => simp [pkVals_cons]
    | succ i =>
      rw [show (i + 1) * 3 = i * 3 + 1 + 1 + 1 by omega, show i * 3 + 1 + 1 + 1 + 1 = i * 3 + 1 + 1 + 1 + 1 from rfl, pkVals_cons]
      have := ih i (by simpa using h)
      simp only [List.set_cons_succ]
      rw [this, pkVals_cons]

theorem RowAt.replaced {w : World} {T : TypeId} {l : List Pk} {pv : Value} (h : RowAt w T pv l) (hT : T ≠ 5) {i : Nat} {p q : Pk} (hp : l[i]? = some p) {g cap : Nat} (hpv : pv = .slice (some ⟨g, 0, none⟩) l.length cap) (hob : OwnBytes w q.dv q.xs) (hfresh : ∀ k, q.dv.ownBlock = some k → k ∉ foot pv l) :
    RowAt (((w.setCell ⟨g, i * 3, none⟩ (.int .i64 q.A)).setCell ⟨g, i * 3 + 1, none⟩ (.bool q.up)).setCell ⟨g, i * 3 + 2, none⟩ q.dv) T pv (l.set i q) := by
  have us : Upd [g] w (((w.setCell ⟨g, i * 3, none⟩ (.int .i64 q.A)).setCell ⟨g, i * 3 + 1, none⟩ (.bool q.up)).setCell ⟨g, i * 3 + 2, none⟩ q.dv) := (((Upd.refl [g] w).setCell (p := ⟨g, i * 3, none⟩) (Or.inl (by simp)) _).setCell (p := ⟨g, i * 3 + 1, none⟩) (Or.inl (by simp)) _).setCell (p := ⟨g, i * 3 + 2, none⟩) (Or.inl (by simp)) _
  have hpm := List.mem_of_getElem? hp
  have hi : i < l.length := (List.getElem?_eq_some_iff.1 hp).1
  have hgo : pv.ownBlock = some g := by rw [hpv]; rfl
  have hget : ∀ a x, (l.set i q)[a]? = some x → (a = i ∧ x = q) ∨ (a ≠ i ∧ l[a]? = some x) := fun a x hx => by
    rw [List.getElem?_set] at hx
    by_cases e : i = a
    · subst e
      rw [if_pos rfl, if_pos hi] at hx
      exact .inl ⟨rfl, (Option.some.inj hx).symm⟩
    · rw [if_neg e] at hx
      exact .inr ⟨fun h => e h.symm, hx⟩
  refine ⟨?_, fun x hx => ?_, ?_⟩
  · have h1 := h.row
    rw [hpv] at h1 ⊢
    rw [← pkVals_set l i p q hp, List.length_set]
    exact ((((h1.stored (i * 3) (.int .i64 q.A)).1).stored (i * 3 + 1) (.bool q.up)).1.stored (i * 3 + 2) q.dv).1
  · obtain ⟨a, ha⟩ := List.getElem?_of_mem hx
    rcases hget a x ha with ⟨_, rfl⟩ | ⟨hne, hx'⟩
    · exact hob.frame us (fun k hk hm => by simp at hm; subst hm; exact hfresh k hk (foot_row hgo))
    · exact (h.data x (List.mem_of_getElem? hx')).frame us (fun k hk hm => by
        simp at hm; subst hm
        exact own_type h.row (h.data x (List.mem_of_getElem? hx')).own hT hgo hk)
  · rw [List.pairwise_iff_getElem]
    intro a b ha hb hab k hka hkb
    have ga := hget a _ (List.getElem?_eq_getElem ha)
    have gb := hget b _ (List.getElem?_eq_getElem hb)
    rcases ga with ⟨ea, xa⟩ | ⟨na, xa⟩
    · rcases gb with ⟨eb, _⟩ | ⟨nb, xb⟩
      · omega
      · rw [xa] at hka
        exact hfresh k hka (foot_data (List.mem_of_getElem? xb) hkb)
    · rcases gb with ⟨eb, xb⟩ | ⟨nb, xb⟩
      · rw [xb] at hkb
        exact hfresh k hkb (foot_data (List.mem_of_getElem? xa) hka)
      · exact sep_at h.sep xa xb (by omega) hka hkb

set_option maxHeartbeats 2000000 in
set_option maxRecDepth 100000 in
theorem dturn_yes {w : World} {r : Nat} {pv : Value} {l : List Pk} {n : Int} (hR : DocAt w r pv l n) (hl : l.length ≤ 1024) (i : Nat) (p : Pk) (hp : l[i]? = some p) (hx : p.xs.length ≤ 16384) (j : Nat) (by_ : Int) (x : Int) (hxj : p.xs[j]? = some x) :
    Calls Try.prog 30 #[.pointer (some ⟨r, 0, none⟩), .int .i64 i, .int .i64 j, .int .u8 by_] w fun e w' =>
      e = .returned (.int .i64 0) ∧ (∃ dv', DocAt w' r pv (l.set i ⟨p.A, p.up, dv', p.xs.set j (xorB x by_)⟩) n ∧ ∀ k ∈ footR r pv (l.set i ⟨p.A, p.up, dv', p.xs.set j (xorB x by_)⟩), k ∈ footR r pv l ∨ w.heap.size ≤ k) ∧ Upd (footR r pv l) w w' := by
  have hi : i < l.length := (List.getElem?_eq_some_iff.1 hp).1
  have hj : j < p.xs.length := (List.getElem?_eq_some_iff.1 hxj).1
  obtain ⟨A, up, dv, xs⟩ := p
  dsimp only at hx hj hxj
  obtain ⟨g, cap, hpv, hg0, hgl⟩ := hR.rows.row.form (by omega)
  have hlt := hR.head.lt
  have hrg : r ≠ g := fun e => blk_type hR.head hR.rows.row (by decide) (by rw [hpv, e]; rfl)
  go_enter Try.func30, Try.ntmps30
  go_upto_region 4 with (go_at_call 19; refine (dsee_yes hR hl i _ hp hx).mono ?_; rintro e w3 ⟨⟨dv', rfl, hob, hfr⟩, hu3⟩; dsimp only at hob; obtain ⟨p', c', rfl⟩ := hob.form; have u4 := hu3.alloc (.cells #[.int .i64 A, .bool up, .slice p' xs.length c'] 51))
  obtain ⟨d, c'', hdd, _, _⟩ := hob.own.form (by omega)
  simp only [Value.slice.injEq, true_and] at hdd
  obtain ⟨rfl, rfl⟩ := hdd
  have hfd := hfr d rfl
  have hs3 := hu3.size
  have hdl : d < w3.heap.size := (hob.own.lt d rfl).2
  have hcj : w3.cell? ⟨d, j, none⟩ = some (.int .u8 x) := by rw [hob.own.cellAt _ (by omega)]; simp [u8s, hxj]
  have u34 : Upd [] w3 (w3.alloc (.cells #[.int .i64 A, .bool up, .slice (some ⟨d, 0, none⟩) xs.length c'] 51)) := (Upd.refl [] w3).alloc _
  have hB4 : Blk (w3.alloc (.cells #[.int .i64 A, .bool up, .slice (some ⟨d, 0, none⟩) xs.length c'] 51)) w3.heap.size [.int .i64 A, .bool up, .slice (some ⟨d, 0, none⟩) xs.length c'] 51 := Blk.new w3 _ _
  generalize w3.alloc (.cells #[.int .i64 A, .bool up, .slice (some ⟨d, 0, none⟩) xs.length c'] 51) = V at *
  have hob4 := hob.frame u34 (by simp)
  have hD4 := hR.nil u4
  have hcj4 : V.cell? ⟨d, j, none⟩ = some (.int .u8 x) := (u34.cell (lt_of_cell hcj) (by simp)).trans hcj
  have hfj4 : V.frozen? ⟨d, j, none⟩ = false := (u34.frozen (by simpa using hdl) (by simp)).trans (hob.own.frozenAt _)
  have k2 := hB4.cell 2 rfl
  have hcj5 : V.drew.cell? ⟨d, j, none⟩ = some (.int .u8 x) := hcj4
  have hfj5 : V.drew.frozen? ⟨d, j, none⟩ = false := hfj4
  have k25 := hB4.drew.cell 2 rfl
  have us4 := u34.size
  clear hu3
  go_region
  have hsl : ∀ W : World, W = (V.setCell ⟨d, j, none⟩ (.int .u8 (bits BinOp.xor IntKind.u8 x by_))).drew → Upd [d] V W := fun W h => by
    subst h; exact ((Upd.refl [d] V).setCell (p := ⟨d, j, none⟩) (Or.inl (by simp)) _).drew
  generalize hW : (V.setCell ⟨d, j, none⟩ (.int .u8 (bits BinOp.xor IntKind.u8 x by_))).drew = W5
  have u45 := hsl _ hW.symm
  have hob5 : OwnBytes W5 (.slice (some ⟨d, 0, none⟩) xs.length c') (xs.set j (xorB x by_)) := by
    rw [← hW]
    refine ⟨?_, fun y hy => ?_⟩
    · rw [← u8s_set, List.length_set]
      exact (hob4.own.stored j (.int .u8 (xorB x by_))).1
    · rcases List.mem_or_eq_of_mem_set hy with hy | rfl
      · exact hob4.bd y hy
      · exact xorB_bd x by_
  clear hsl hW hcj4 hfj4 hcj5 hfj5 k2 k25 hob hob4 hcj
  have hfoot : ∀ k ∈ footR r pv l, k ∉ [d] := fun k hk hm => by
    simp at hm; subst hm
    have := hR.lt k hk; omega
  have hD5 := hD4.frame u45 hfoot
  have hB5 := hB4.upd u45 (by simp; omega)
  have c0 := hD5.head.cell 0 rfl
  have q0 := hB5.cell 0 rfl
  have q1 := hB5.cell 1 rfl
  have q2 := hB5.cell 2 rfl
  obtain ⟨g', cap', hpv', r0, r1, r2, _⟩ := hD5.rows.at_ hp
  rw [hpv] at hpv'
  simp only [Value.slice.injEq, Option.some.injEq, Addr.mk.injEq, and_true, true_and] at hpv'
  obtain ⟨rfl, rfl⟩ := hpv'
  have f0 : W5.frozen? ⟨g, i * 3, none⟩ = false := by have := hD5.rows.row; rw [hpv] at this; exact this.frozenAt _
  have f1 : W5.frozen? ⟨g, i * 3 + 1, none⟩ = false := by have := hD5.rows.row; rw [hpv] at this; exact this.frozenAt _
  have f2 : W5.frozen? ⟨g, i * 3 + 2, none⟩ = false := by have := hD5.rows.row; rw [hpv] at this; exact this.frozenAt _
  have hrep := hD5.rows.replaced (by decide) hp (q := ⟨A, up, .slice (some ⟨d, 0, none⟩) xs.length c', xs.set j (xorB x by_)⟩) hpv hob5 (fun k hk hm => by
    simp [Value.ownBlock] at hk; subst hk
    have := hR.rows.lt d hm; omega)
  dsimp only at hrep r0 r1 r2
  rw [hpv] at c0
  have c0' : W5.drew.cell? _ = _ := c0
  have q0' : W5.drew.cell? _ = _ := q0
  have q1' : W5.drew.cell? _ = _ := q1
  have q2' : W5.drew.cell? _ = _ := q2
  have r0' : W5.drew.cell? _ = _ := r0
  have r1' : W5.drew.cell? _ = _ := r1
  have r2' : W5.drew.cell? _ = _ := r2
  have f0' : W5.drew.frozen? _ = _ := f0
  have f1' : W5.drew.frozen? _ = _ := f1
  have f2' : W5.drew.frozen? _ = _ := f2
  have u56 : Upd [g] W5 (((W5.setCell ⟨g, i * 3, none⟩ (.int .i64 A)).setCell ⟨g, i * 3 + 1, none⟩ (.bool up)).setCell ⟨g, i * 3 + 2, none⟩ (.slice (some ⟨d, 0, none⟩) xs.length c')) := (((Upd.refl [g] W5).setCell (p := ⟨g, i * 3, none⟩) (Or.inl (by simp)) _).setCell (p := ⟨g, i * 3 + 1, none⟩) (Or.inl (by simp)) _).setCell (p := ⟨g, i * 3 + 2, none⟩) (Or.inl (by simp)) _
  have hhead := hD5.head.upd u56 (by simpa using hrg)
  go_wp2_with fail
  go_region
  go_wp2_with fail
  go_ret
  have hus : Upd (footR r pv l) w W5 := (u4.mono (by simp)).trans u45 (fun z hz => .inr (by simp at hz; omega))
  refine ⟨rfl, ⟨.slice (some ⟨d, 0, none⟩) xs.length c', ⟨hhead.drew, hrep.frame ((Upd.refl [] _).drew) (by simp)⟩, fun k hk => ?_⟩, (hus.trans u56 (fun z hz => .inl (by simp at hz; subst hz; simp [footR, foot_row (show pv.ownBlock = some z by rw [hpv]; rfl)]))).drew⟩
  rcases List.mem_cons.1 hk with rfl | hk
  · exact .inl (by simp [footR])
  · rcases foot_cases hk with e | ⟨q, hq, e⟩
    · exact .inl (by simp [footR, foot_row e])
    · rcases List.mem_or_eq_of_mem_set hq with hq | rfl
      · exact .inl (by simp [footR, foot_data hq e])
      · simp [Value.ownBlock] at e; subst e; exact .inr hfd

theorem pkVals_take (l : List Pk) (k : Nat) (hk : k ≤ l.length) : pkVals (l.take k) = (pkVals l).take (k * 3) := by
  conv => rhs; rw [← List.take_append_drop k l, pkVals_app]
  rw [List.take_left' (by rw [pkVals_len, List.length_take]; omega)]
theorem pkVals_drop (l : List Pk) (k : Nat) (hk : k ≤ l.length) : pkVals (l.drop k) = (pkVals l).drop (k * 3) := by
  conv => rhs; rw [← List.take_append_drop k l, pkVals_app]
  rw [List.drop_left' (by rw [pkVals_len, List.length_take]; omega)]
theorem RowAt.srcTake {w : World} {T : TypeId} {l : List Pk} {g cu : Nat} (h : RowAt w T (.slice (some ⟨g, 0, none⟩) l.length cu) l) (k : Nat) (hk : k ≤ l.length) : Src w (some ⟨g, 0, none⟩) k (pkVals (l.take k)) := by
  have := Src.own h.row (off := 0) (m := k) (by omega) g (fun _ => rfl)
  simp only [Nat.zero_mul, List.drop_zero] at this
  rw [pkVals_take l k hk]; exact this
theorem RowAt.srcDrop {w : World} {T : TypeId} {l : List Pk} {g cu : Nat} (h : RowAt w T (.slice (some ⟨g, 0, none⟩) l.length cu) l) (k m : Nat) (hk : k + m = l.length) : Src w (some ⟨g, k * 3, none⟩) m (pkVals (l.drop k)) := by
  have := Src.own h.row (off := k) (m := m) (by omega) g (fun _ => rfl)
  rw [pkVals_drop l k (by omega)]
  rw [List.take_of_length_le (by rw [List.length_drop, pkVals_len]; omega)] at this
  exact this
theorem pkVals_erase (l : List Pk) (k : Nat) : pkVals (l.take k) ++ pkVals (l.drop (k + 1)) = pkVals (l.eraseIdx k) := by
  rw [← pkVals_app, List.eraseIdx_eq_take_drop_succ]
theorem pkVals_sub {l m : List Pk} (h : ∀ u ∈ pkVals l, u.oneCell' = true) (hs : ∀ p ∈ m, p ∈ l) : ∀ u ∈ pkVals m, u.oneCell' = true := by
  intro u hu
  simp only [pkVals, List.mem_flatMap] at hu
  obtain ⟨p, hp, hu⟩ := hu
  exact h u (by simp only [pkVals, List.mem_flatMap]; exact ⟨p, hs p hp, hu⟩)

set_option maxRecDepth 100000 in
theorem dtake_no {w : World} {r : Nat} {pv : Value} {l : List Pk} {n : Int} (hR : DocAt w r pv l n) (hl : l.length ≤ 1024) (i : Int) (hi : i < 0 ∨ (l.length : Int) ≤ i) :
    Calls Try.prog 28 #[.pointer (some ⟨r, 0, none⟩), .int .i64 i] w fun e w' =>
      e = .returned (.tuple #[.agg #[.int .i64 0, .bool false, .slice none 0 0], .bool false]) ∧ Upd [] w w' := by
  have ua : Upd [] w (w.alloc (.cells #[.int .i64 0, .bool false, .slice none 0 0] 51)) := (Upd.refl [] w).alloc _
  have hra := hR.nil ua
  go_enter Try.func28, Try.ntmps28
  go_wp2_with (go_at_call 19; refine (dsee_no hra hl i hi).mono ?_; rintro e w3 ⟨rfl, hu3⟩; have hB := (Blk.new w #[.int .i64 0, .bool false, .slice none 0 0] 51).upd_nil hu3; have u4 : Upd [] w3 (w3.alloc (.cells #[.int .i64 0, .bool false, .slice none 0 0] 51)) := (Upd.refl [] w3).alloc _; have hB4 := hB.upd_nil u4; have d0 := hB4.cell 0 rfl; have d1 := hB4.cell 1 rfl; have d2 := hB4.cell 2 rfl; have e0 := hB4.free 0; have e1 := hB4.free 1; have e2 := hB4.free 2)
  have hF := ((hB4.set 0 (.int .i64 0)).set 1 (.bool false)).set 2 (.slice none 0 0)
  have uF : Upd [w.heap.size] (w3.alloc (.cells #[.int .i64 0, .bool false, .slice none 0 0] 51)) _ := (((Upd.refl [w.heap.size] _).setCell (p := ⟨w.heap.size, 0, none⟩) (Or.inl (by simp)) (.int .i64 0)).setCell (p := ⟨w.heap.size, 1, none⟩) (Or.inl (by simp)) (.bool false)).setCell (p := ⟨w.heap.size, 2, none⟩) (Or.inl (by simp)) (.slice none 0 0)
  generalize ((((w3.alloc (.cells #[.int .i64 0, .bool false, .slice none 0 0] 51)).setCell ⟨w.heap.size, 0, none⟩ (.int .i64 0)).setCell ⟨w.heap.size, 1, none⟩ (.bool false)).setCell ⟨w.heap.size, 2, none⟩ (.slice none 0 0)) = W at hF uF ⊢
  clear d0 d1 d2 e0 e1 e2
  have z0 := hF.cell 0 rfl
  have z1 := hF.cell 1 rfl
  have z2 := hF.cell 2 rfl
  exact bodyPost_ret (v := .tuple #[.agg #[.int .i64 0, .bool false, .slice none 0 0], .bool false]) (by simp [results, Try.results28, go_sem, z0, z1, z2]) rfl ⟨rfl, ((ua.trans_nil hu3).trans_nil u4).trans uF (by simp)⟩

end Go.Proofs.Ytceeekdephgcmaa
