/- The road: put, Send, See, Double. -/
import Derived.Test.YtceeekdephgcmaaRdB
import Derived.Deep.RegionLaw
namespace Go.Proofs.Ytceeekdephgcmaa
open Go.RowKit

theorem pk_info : (Try.prog.info? 33).map (fun i => (i.zero, i.size, i.bytes)) = some (some (.agg #[.int .i64 0, .bool false, .slice none 0 0]), 3, 40) := by kernel_rfl

theorem OwnBytes.form {w : World} {v : Value} {xs : List Int} (h : OwnBytes w v xs) : ∃ p c, v = .slice p xs.length c := by
  rcases h.own.2 with ⟨h1, h2⟩ | ⟨g, cap, cur, h1, _⟩
  · exact ⟨none, 0, by rw [h1, h2]⟩
  · exact ⟨_, cap, h1⟩

theorem RowAt.push {w3 w1 : World} {T : TypeId} {pv pv' : Value} {l : List Pk} {A : Int} {up : Bool} {dv : Value} {xs : List Int} (h : RowAt w3 T pv l) (hob : OwnBytes w3 dv xs) (hfresh : ∀ k, dv.ownBlock = some k → k ∉ foot pv l)
    (hown1 : w1.ownsRow 0 T 3 pv' (l.length + 1) (pkVals l ++ [.int .i64 A, .bool up, dv])) (u : Upd pv.ownBlock.toList w3 w1) (hT : T ≠ 5) : RowAt w1 T pv' (l ++ [⟨A, up, dv, xs⟩]) := by
  refine ⟨?_, fun p hp => ?_, ?_⟩
  · rw [List.length_append, pkVals_app]; exact hown1
  · rcases List.mem_append.1 hp with hp | hp
    · exact (h.data p hp).frame u (fun k hk hm => own_type h.row (h.data p hp).own hT (by simpa [Option.mem_toList] using hm) hk)
    · simp at hp; subst hp
      exact hob.frame u (fun k hk hm => own_type h.row hob.own hT (by simpa [Option.mem_toList] using hm) hk)
  · rw [List.pairwise_append]
    refine ⟨h.sep, by simp, fun a ha b hb k hk hk' => ?_⟩
    simp at hb; subst hb
    exact hfresh k hk' (foot_data ha hk)

theorem put_post {w w3 w1 : World} {r : Nat} {pv : Value} {l : List Pk} {n : Int} {A : Int} {up : Bool} {p' : Option Addr} {c' : Nat} {xs : List Int} {gg cap : Nat} (hR : RoadAt w r pv l n) (u3 : Upd [] w w3) (hob : OwnBytes w3 (.slice p' xs.length c') xs)
    (hfr : ∀ k, (Value.slice p' xs.length c').ownBlock = some k → w.heap.size ≤ k)
    (hown1 : w1.ownsRow 0 33 3 (.slice (some ⟨gg, 0, none⟩) (l.length + 1) cap) (l.length + 1) (pkVals l ++ [.int .i64 A, .bool up, .slice p' xs.length c']))
    (hgrow : World.grownBy (w3.alloc (.cells #[.int .i64 A, .bool up, .slice p' xs.length c'] 33)) w1 pv.ownBlock)
    (hat : pv.ownBlock = some gg ∨ w.heap.size ≤ gg) :
    (∃ pv' dv', RoadAt (w1.setCell ⟨r, 1, none⟩ (.slice (some ⟨gg, 0, none⟩) (l.length + 1) cap)) r pv' (l ++ [⟨A, up, dv', xs⟩]) n ∧ ∀ k ∈ footR r pv' (l ++ [⟨A, up, dv', xs⟩]), k ∈ footR r pv l ∨ w.heap.size ≤ k) ∧
      Upd (footR r pv l) w (w1.setCell ⟨r, 1, none⟩ (.slice (some ⟨gg, 0, none⟩) (l.length + 1) cap)) := by
  have hR3 := hR.nil u3
  have u1 : Upd pv.ownBlock.toList w3 w1 := ((Upd.refl _ _).alloc _).grown hgrow (fun k hk => .inl (by simp [hk]))
  have hpush := hR3.rows.push hob (fun k hk hm => by
    have h1 := hfr k hk
    have h2 := hR.rows.lt k hm
    omega) hown1 u1 (by decide)
  have hhead : Blk w1 r [.bool true, pv, .int .i64 n] 57 := hR3.head.upd u1 (fun hm => blk_type hR3.head hR3.rows.row (by decide) (by simpa [Option.mem_toList] using hm))
  have us : Upd [r] w1 (w1.setCell ⟨r, 1, none⟩ (.slice (some ⟨gg, 0, none⟩) (l.length + 1) cap)) := (Upd.refl _ _).setCell (Or.inl (by simp)) _
  refine ⟨⟨_, _, ⟨hhead.set 1 _, hpush.frame us (fun k hk hm => ?_)⟩, fun k hk => ?_⟩, ?_⟩
  · simp at hm; subst hm
    rcases foot_cases hk with e | ⟨p, hp, e⟩
    · exact blk_type hhead hpush.row (by decide) e
    · exact blk_type hhead (hpush.data p hp).own (by decide) e
  · rcases List.mem_cons.1 hk with rfl | hk
    · exact .inl (by simp [footR])
    · rcases foot_cases hk with e | ⟨p, hp, e⟩
      · simp [Value.ownBlock] at e; subst e
        rcases hat with hat | hat
        · exact .inl (by simp [footR, foot_row hat])
        · exact .inr hat
      · rcases List.mem_append.1 hp with hp | hp
        · exact .inl (by simp [footR, foot_data hp e])
        · simp at hp; subst hp
          exact .inr (hfr k e)
  · have k1 : Upd (footR r pv l) w w1 := (u3.mono (by simp)).trans u1 (fun x hx => .inl (by simp [footR, foot_row (by simpa [Option.mem_toList] using hx : pv.ownBlock = some x)]))
    exact k1.trans us (fun x hx => .inl (by simp at hx; subst hx; simp [footR]))

set_option maxHeartbeats 2000000 in
set_option maxRecDepth 100000 in
theorem put_any {w : World} {r : Nat} {pv : Value} {l : List Pk} {n : Int} (hR : RoadAt w r pv l n) (A : Int) (up : Bool) (dv : Value) (xs : List Int) (hb : BytesAt w dv xs) (hx : xs.length ≤ 16384) (hl : l.length < 1024) :
    Calls Try.prog 23 #[.pointer (some ⟨r, 0, none⟩), .agg #[.int .i64 A, .bool up, dv]] w fun e w' =>
      e = .returned (.int .i64 0) ∧ (∃ pv' dv', RoadAt w' r pv' (l ++ [⟨A, up, dv', xs⟩]) n ∧ ∀ k ∈ footR r pv' (l ++ [⟨A, up, dv', xs⟩]), k ∈ footR r pv l ∨ w.heap.size ≤ k) ∧ Upd (footR r pv l) w w' := by
  obtain ⟨i0, hi, hz0, hz1, hz2⟩ := info_parts pk_info
  obtain ⟨pp, pc, rfl⟩ := hR.rows.len
  obtain ⟨dp, dc, rfl⟩ : ∃ dp dc, dv = .slice dp xs.length dc := by
    rcases hb.2 with ⟨h1, h2⟩ | ⟨a, c, h1, _⟩
    · exact ⟨none, 0, by rw [h1, h2]; rfl⟩
    · exact ⟨some a, c, h1⟩
  have c1 := hR.head.cell 1 rfl
  have hlt := hR.head.lt
  have ub : Upd [] w (w.alloc (.cells #[.int .i64 A, .bool up, .slice dp xs.length dc] 33)).drew := ((Upd.refl [] w).alloc _).drew
  have hrb := hR.nil ub
  have hbb := hb.frame ub (by simp)
  go_enter Try.func23, Try.ntmps23
  go_upto_region 3 with fail
  go_region_law (first
    | (refine step_append_lies _ (by rfl) _ _ _ (by rfl) 0 33 i0 _ 3 40 Try.underlying55 hi hz0 hz1 hz2 rfl (by omega) (.slice pp l.length pc) l.length (pkVals l) (by rfl) (hR3.rows.row.alloc _)
        ⟨w3.heap.size, 0, none⟩ 1 1 [.int .i64 A, .bool up, .slice p' xs.length c'] (by rfl) (by rfl) (World.news_of_block (cs := #[.int .i64 A, .bool up, .slice p' xs.length c']) (t := 33) (fr := (0, 0)) (heap_alloc_new w3 _)) (by simp [Value.oneCell'])
        (by omega) (by simp only [maxLen]; omega) (by omega) (Nat.zero_le _) (w3.heap.size + 1) (by simp) ?_; intro gg cap w1 hown1 hgrow hat hlt1; have cz := (hgrow.cell_far ⟨r, 1, none⟩ (by simp; omega) (fun e => hrne e.symm)).trans k1a; have fz := (hgrow.frozen_far ⟨r, 1, none⟩ (by simp; omega) (fun e => hrne e.symm)).trans k1f)
    | (go_simp; go_at_call 25; refine (clone_any A up (.slice dp xs.length dc) xs _ hbb hx).mono ?_; rintro e w3 ⟨⟨dv', rfl, hob, hfr⟩, hu3⟩; obtain ⟨p', c', rfl⟩ := hob.form; have hR3 := hrb.nil hu3; have k1 := hR3.head.cell 1 rfl; have k1a := (hR3.head.alloc (.cells #[.int .i64 A, .bool up, .slice p' xs.length c'] 33)).cell 1 rfl; have k1f := (hR3.head.alloc (.cells #[.int .i64 A, .bool up, .slice p' xs.length c'] 33)).free 1; have hrne := blk_type hR3.head hR3.rows.row (by decide); have hr3 := hR3.head.lt))
  all_goals
    have hs3 := hu3.size
    simp at hs3
    go_wp2_with fail
    go_ret
    have hp := put_post hR (ub.trans_nil hu3) hob (fun k hk => by have := hfr k hk; simp at this; omega) hown1 hgrow (hat.imp id (fun e => by omega))
    exact ⟨rfl, hp⟩

set_option maxRecDepth 100000 in
theorem put_full {w : World} {r : Nat} {pv : Value} {l : List Pk} {n : Int} (hR : RoadAt w r pv l n) (A : Int) (up : Bool) (dv : Value) (hl : 1024 ≤ l.length) (hl2 : l.length ≤ 1024) :
    Calls Try.prog 23 #[.pointer (some ⟨r, 0, none⟩), .agg #[.int .i64 A, .bool up, dv]] w fun e w' => e = .returned (.int .i64 7) ∧ Upd [] w w' := by
  obtain ⟨pp, pc, rfl⟩ := hR.rows.len
  have c1 := hR.head.cell 1 rfl
  have hlt := hR.head.lt
  go_enter Try.func23, Try.ntmps23
  go_wp2_with fail
  go_ret
  exact ⟨rfl, (Upd.refl [] _).alloc _⟩

/-- May a packet be sent? -/
def sendCode (A : Int) (len have_ : Nat) : Int := if A < 1 ∨ 16 < A then 2 else if 16384 < len then 5 else if 1024 ≤ have_ then 7 else 0

set_option maxRecDepth 100000 in
theorem send_ok {w : World} {r : Nat} {pv : Value} {l : List Pk} {n : Int} (hR : RoadAt w r pv l n) (A : Int) (up : Bool) (dv : Value) (xs : List Int) (hb : BytesAt w dv xs) (hx : xs.length ≤ 16384) (hl : l.length < 1024) (h1 : 1 ≤ A) (h2 : A ≤ 16) :
    Calls Try.prog 9 #[.pointer (some ⟨r, 0, none⟩), .agg #[.int .i64 A, .bool up, dv]] w fun e w' =>
      e = .returned (.int .i64 0) ∧ (∃ pv' dv', RoadAt w' r pv' (l ++ [⟨A, up, dv', xs⟩]) (wrap64 (n + 1)) ∧ ∀ k ∈ footR r pv' (l ++ [⟨A, up, dv', xs⟩]), k ∈ footR r pv l ∨ w.heap.size ≤ k) ∧ Upd (footR r pv l) w w' := by
  obtain ⟨dp, dc, rfl⟩ : ∃ dp dc, dv = .slice dp xs.length dc := by
    rcases hb.2 with ⟨h1, h2⟩ | ⟨a, c, h1, _⟩
    · exact ⟨none, 0, by rw [h1, h2]; rfl⟩
    · exact ⟨some a, c, h1⟩
  have ub : Upd [] w (w.alloc (.cells #[.int .i64 A, .bool up, .slice dp xs.length dc] 33)) := (Upd.refl [] w).alloc _
  have hrb := hR.nil ub
  have hbb := hb.frame ub (by simp)
  have hlt := hR.head.lt
  go_enter Try.func9, Try.ntmps9
  go_wp2_with (first
    | (go_at_call 22; refine (rnone_no hrb).mono ?_; rintro e w' ⟨rfl, rfl⟩)
    | (go_at_call 23; refine (put_any hrb A up (.slice dp xs.length dc) xs hbb hx hl).mono ?_; rintro e w3 ⟨rfl, ⟨pv', dv', hR3, hf3⟩, hu3⟩; have k2 := hR3.head.cell 2 rfl; have k2f := hR3.head.free 2))
  go_ret
  have us : Upd [r] w3 (w3.setCell ⟨r, 2, none⟩ (.int .i64 (wrap64 (n + 1)))) := (Upd.refl _ _).setCell (Or.inl (by simp)) _
  refine ⟨rfl, ⟨pv', dv', ⟨hR3.head.set 2 _, hR3.rows.frame us (fun k hk hm => ?_)⟩, fun k hk => ?_⟩, ?_⟩
  · simp at hm; subst hm
    rcases foot_cases hk with e | ⟨p, hp, e⟩
    · exact blk_type hR3.head hR3.rows.row (by decide) e
    · exact blk_type hR3.head (hR3.rows.data p hp).own (by decide) e
  · rcases hf3 k hk with h | h
    · exact .inl h
    · exact .inr (by simp at h; omega)
  · exact ((ub.mono (by simp)).trans hu3 (fun x hx => .inl hx)).trans us (fun x hx => .inl (by simp at hx; subst hx; simp [footR]))

set_option maxRecDepth 100000 in
theorem send_no {w : World} {r : Nat} {pv : Value} {l : List Pk} {n : Int} (hR : RoadAt w r pv l n) (A : Int) (up : Bool) (dv : Value) (xs : List Int) (hb : BytesAt w dv xs) (hl2 : l.length ≤ 1024) (hx : xs.length ≤ 9223372036854775807) (hc : sendCode A xs.length l.length ≠ 0) :
    Calls Try.prog 9 #[.pointer (some ⟨r, 0, none⟩), .agg #[.int .i64 A, .bool up, dv]] w fun e w' => e = .returned (.int .i64 (sendCode A xs.length l.length)) ∧ Upd [] w w' := by
  obtain ⟨dp, dc, rfl⟩ : ∃ dp dc, dv = .slice dp xs.length dc := by
    rcases hb.2 with ⟨h1, h2⟩ | ⟨a, c, h1, _⟩
    · exact ⟨none, 0, by rw [h1, h2]; rfl⟩
    · exact ⟨some a, c, h1⟩
  have ub : Upd [] w (w.alloc (.cells #[.int .i64 A, .bool up, .slice dp xs.length dc] 33)) := (Upd.refl [] w).alloc _
  have hrb := hR.nil ub
  unfold sendCode at hc ⊢
  by_cases h1 : A < 1
  · go_enter Try.func9, Try.ntmps9
    go_wp2_with (go_at_call 22; refine (rnone_no hrb).mono ?_; rintro e w' ⟨rfl, rfl⟩)
    go_ret
    exact ⟨ret_int (by first | rfl | rw [if_pos (Or.inl h1)]), ub⟩
  · by_cases h2 : 16 < A
    · go_enter Try.func9, Try.ntmps9
      go_wp2_with (go_at_call 22; refine (rnone_no hrb).mono ?_; rintro e w' ⟨rfl, rfl⟩)
      go_ret
      exact ⟨ret_int (by first | rfl | rw [if_pos (Or.inr h2)]), ub⟩
    · rw [if_neg (by omega)] at hc ⊢
      by_cases h3 : 16384 < xs.length
      · go_enter Try.func9, Try.ntmps9
        go_wp2_with (go_at_call 22; refine (rnone_no hrb).mono ?_; rintro e w' ⟨rfl, rfl⟩)
        go_ret
        exact ⟨ret_int (by first | rfl | rw [if_pos h3]), ub⟩
      · rw [if_neg h3] at hc ⊢
        have h4 : 1024 ≤ l.length := by
          by_cases h4 : 1024 ≤ l.length
          · exact h4
          · rw [if_neg h4] at hc; exact absurd rfl hc
        rw [if_pos h4]
        go_enter Try.func9, Try.ntmps9
        go_wp2_with (first
          | (go_at_call 22; refine (rnone_no hrb).mono ?_; rintro e w' ⟨rfl, rfl⟩)
          | (go_at_call 23; refine (put_full hrb A up (.slice dp xs.length dc) h4 hl2).mono ?_; rintro e w3 ⟨rfl, hu3⟩))
        go_ret
        exact ⟨rfl, ub.trans_nil hu3⟩

theorem atCode_yes {len i : Nat} (h : i < len) : atCode len i = 0 := by unfold atCode; rw [if_neg (by omega)]
theorem atCode_no {len : Nat} {i : Int} (h : i < 0 ∨ (len : Int) ≤ i) : atCode len i = 9 := by unfold atCode; rw [if_pos h]

set_option maxRecDepth 100000 in
theorem see_yes {w : World} {r : Nat} {pv : Value} {l : List Pk} {n : Int} (hR : RoadAt w r pv l n) (hl : l.length ≤ 1024) (i : Nat) (p : Pk) (hp : l[i]? = some p) (hx : p.xs.length ≤ 16384) :
    Calls Try.prog 13 #[.pointer (some ⟨r, 0, none⟩), .int .i64 i] w fun e w' =>
      (∃ dv', e = .returned (.tuple #[.agg #[.int .i64 p.A, .bool p.up, dv'], .bool true]) ∧ OwnBytes w' dv' p.xs ∧ ∀ k, dv'.ownBlock = some k → w.heap.size ≤ k) ∧ Upd [] w w' := by
  have hi : i < l.length := (List.getElem?_eq_some_iff.1 hp).1
  have hpm := List.mem_of_getElem? hp
  have ua : Upd [] w (w.alloc (.cells #[.int .i64 0, .bool false, .slice none 0 0] 33)) := (Upd.refl [] w).alloc _
  have hra := hR.nil ua
  have hba := (hra.rows.data p hpm).at_
  obtain ⟨A, up, dv, xs⟩ := p
  obtain ⟨g, cap, rfl, a0, a1, a2, _⟩ := hra.rows.at_ hp
  dsimp only at a0 a1 a2 hx hba
  have c1 := hra.head.cell 1 rfl
  have hat := atCode_yes hi
  go_enter Try.func13, Try.ntmps13
  go_wp2_with (first
    | (go_at_call 24; refine (at_any hra i hl).mono ?_; rw [hat]; rintro e w' ⟨rfl, rfl⟩)
    | (go_at_call 25; refine (clone_any A up dv xs _ hba hx).mono ?_; rintro e w3 ⟨⟨dv', rfl, hob, hfr⟩, hu3⟩; obtain ⟨p', c', rfl⟩ := hob.form; have hB := (Blk.new w #[.int .i64 0, .bool false, .slice none 0 0] 33).upd_nil hu3; have d0 := hB.cell 0 rfl; have d1 := hB.cell 1 rfl; have d2 := hB.cell 2 rfl; have e0 := hB.free 0; have e1 := hB.free 1; have e2 := hB.free 2))
  have hF := ((hB.set 0 (.int .i64 A)).set 1 (.bool up)).set 2 (.slice p' xs.length c')
  have uF : Upd [w.heap.size] w3 _ := (((Upd.refl [w.heap.size] w3).setCell (p := ⟨w.heap.size, 0, none⟩) (Or.inl (by simp)) (.int .i64 A)).setCell (p := ⟨w.heap.size, 1, none⟩) (Or.inl (by simp)) (.bool up)).setCell (p := ⟨w.heap.size, 2, none⟩) (Or.inl (by simp)) (.slice p' xs.length c')
  generalize (((w3.setCell ⟨w.heap.size, 0, none⟩ (.int .i64 A)).setCell ⟨w.heap.size, 1, none⟩ (.bool up)).setCell ⟨w.heap.size, 2, none⟩ (.slice p' xs.length c')) = W at hF uF ⊢
  clear d0 d1 d2 e0 e1 e2
  have z0 := hF.cell 0 rfl
  have z1 := hF.cell 1 rfl
  have z2 := hF.cell 2 rfl
  refine bodyPost_ret (v := .tuple #[.agg #[.int .i64 A, .bool up, .slice p' xs.length c'], .bool true]) (by simp [results, Try.results13, go_sem, z0, z1, z2]) rfl ⟨⟨_, rfl, hob.frame uF (fun k hk hm => ?_), fun k hk => ?_⟩, ?_⟩
  · have := hfr k hk; simp at this hm; omega
  · have := hfr k hk; simp at this; omega
  · exact (ua.trans_nil hu3).trans uF (by simp)

set_option maxRecDepth 100000 in
theorem see_no {w : World} {r : Nat} {pv : Value} {l : List Pk} {n : Int} (hR : RoadAt w r pv l n) (hl : l.length ≤ 1024) (i : Int) (hi : i < 0 ∨ (l.length : Int) ≤ i) :
    Calls Try.prog 13 #[.pointer (some ⟨r, 0, none⟩), .int .i64 i] w fun e w' =>
      e = .returned (.tuple #[.agg #[.int .i64 0, .bool false, .slice none 0 0], .bool false]) ∧ Upd [] w w' := by
  have ua : Upd [] w (w.alloc (.cells #[.int .i64 0, .bool false, .slice none 0 0] 33)) := (Upd.refl [] w).alloc _
  have hra := hR.nil ua
  have hat := atCode_no hi
  go_enter Try.func13, Try.ntmps13
  go_wp2_with (go_at_call 24; refine (at_any hra i hl).mono ?_; rw [hat]; rintro e w' ⟨rfl, rfl⟩)
  exact bodyPost_ret (v := .tuple #[.agg #[.int .i64 0, .bool false, .slice none 0 0], .bool false]) (by simp [results, Try.results13, go_sem]) rfl ⟨rfl, ua⟩

end Go.Proofs.Ytceeekdephgcmaa
