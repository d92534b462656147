/- mask.turned: bytes, with the stream added. -/
import Derived.Test.YtppbaahaegmgeaaMkF
namespace Go.Proofs.Ytppbaahaegmgeaa
open Go.RowKit Go.Shelf
attribute [local go_sem] Oper.semAt_some

def xorB (xs : List Int) (S : Nat → Int) : List Int := (List.range xs.length).map fun i => bits .xor .u8 (xs.getD i 0) (S i)
theorem xorB_len (xs : List Int) (S : Nat → Int) : (xorB xs S).length = xs.length := by simp [xorB]
def mixL (xs pre : List Int) : List Int := (List.range xs.length).map fun k => if k < pre.length then bits .xor .u8 (xs.getD k 0) (pre.getD k 0) else xs.getD k 0
theorem mixL_len (xs pre : List Int) : (mixL xs pre).length = xs.length := by simp [mixL]
theorem mixL_nil (xs : List Int) : mixL xs [] = xs := by
  apply List.ext_getElem?
  intro i
  unfold mixL
  rw [List.getElem?_map]
  by_cases h : i < xs.length
  · rw [List.getElem?_range h, List.getElem?_eq_getElem h, Option.map_some, if_neg (by simp), List.getD_eq_getElem?_getD, List.getElem?_eq_getElem h]; rfl
  · rw [List.getElem?_eq_none (by simpa using h), List.getElem?_eq_none (by omega)]; rfl
theorem mixL_at (xs pre : List Int) (i : Nat) (h : i < xs.length) : (mixL xs pre)[i]? = some (if i < pre.length then bits .xor .u8 (xs.getD i 0) (pre.getD i 0) else xs.getD i 0) := by
  unfold mixL
  rw [List.getElem?_map, List.getElem?_range h]; rfl
theorem mixL_cur (xs pre : List Int) (h : pre.length < xs.length) : (mixL xs pre).getD pre.length 0 = xs.getD pre.length 0 := by
  rw [List.getD_eq_getElem?_getD, mixL_at xs pre _ h, if_neg (by omega)]; rfl
theorem getD_app_l (pre : List Int) (x : Int) (k : Nat) (h : k < pre.length) : (pre ++ [x]).getD k 0 = pre.getD k 0 := by
  rw [List.getD_eq_getElem?_getD, List.getD_eq_getElem?_getD, List.getElem?_append_left h]
theorem mixL_step (xs pre : List Int) (x : Int) (h : pre.length < xs.length) : (mixL xs pre).set pre.length (bits .xor .u8 (xs.getD pre.length 0) x) = mixL xs (pre ++ [x]) := by
  apply List.ext_getElem?
  intro i
  by_cases hi : i < xs.length
  · rw [mixL_at xs _ i hi]
    by_cases e : pre.length = i
    · subst e
      rw [List.getElem?_set_self (by rw [mixL_len]; exact hi), if_pos (by simp)]
      congr 2
      rw [List.getD_eq_getElem?_getD]; simp
    · rw [List.getElem?_set_ne e, mixL_at xs pre i hi]
      by_cases h2 : i < pre.length
      · rw [if_pos h2, if_pos (by simp; omega), getD_app_l pre x i h2]
      · rw [if_neg h2, if_neg (by simp; omega)]
  · rw [List.getElem?_eq_none (by rw [List.length_set, mixL_len]; omega), List.getElem?_eq_none (by rw [mixL_len]; omega)]
theorem mixL_over (xs pre : List Int) (x : Int) (h : xs.length ≤ pre.length) : mixL xs (pre ++ [x]) = mixL xs pre := by
  unfold mixL
  apply List.map_congr_left
  intro k hk
  have hk := List.mem_range.1 hk
  rw [if_pos (by simp; omega), if_pos (by omega), getD_app_l pre x k (by omega)]
theorem mixL_all (xs : List Int) (G : Nat → Int) (X : List Int) (m : Nat) (h : xs.length ≤ m) : mixL xs (stL G X m) = xorB xs (stF G X) := by
  unfold mixL xorB
  apply List.map_congr_left
  intro k hk
  have hk := List.mem_range.1 hk
  rw [if_pos (by rw [stL_len]; omega)]
  congr 1
  unfold stL
  rw [List.getD_eq_getElem?_getD, List.getElem?_map, List.getElem?_range (by omega)]; rfl

theorem blk_turn {W W' : World} {row : Option Nat} {b : Nat} {cs : List Value} {T : TypeId} (h : Blk W b cs T) (hg : W.grownBy W' row) (hr : ∀ r, row = some r → ∃ o : Obj, W.heap[r]? = some o ∧ o.isCells = false) : Blk W' b cs T := by
  refine h.of_heap (hg.block b h.lt (fun e => ?_))
  obtain ⟨o, ho, hc⟩ := hr b e.symm
  unfold Blk at h
  rw [h] at ho
  cases ho
  cases hc
theorem own_turn {W W' : World} {row : Option Nat} {base : Nat} {v : Value} {xs : List Int} (h : OwnB W base v xs) (hg : W.grownBy W' row) (hr : ∀ r, row = some r → ∃ o : Obj, W.heap[r]? = some o ∧ o.isCells = false) : OwnB W' base v xs := by
  refine ⟨h.1, ?_⟩
  rcases h.2 with h1 | ⟨g, cap, cur, h1, h2, h3, h4⟩
  · exact .inl h1
  · refine .inr ⟨g, cap, cur, h1, h2, ?_, h4⟩
    rw [hg.block g (Array.getElem?_eq_some_iff.1 h3).1 (fun e => ?_)]
    · exact h3
    · obtain ⟨o, ho, hc⟩ := hr g e.symm
      rw [h3] at ho
      cases ho
      cases hc
theorem own_setne {W : World} {base : Nat} {v : Value} {xs : List Int} (h : OwnB W base v xs) (a : Addr) (u : Value) (hne : v.ownBlock ≠ some a.block) : OwnB (W.setCell a u) base v xs := by
  refine ⟨h.1, ?_⟩
  rcases h.2 with h1 | ⟨g, cap, cur, h1, h2, h3, h4⟩
  · exact .inl h1
  · refine .inr ⟨g, cap, cur, h1, h2, ?_, h4⟩
    subst h1
    rw [Below.heap_setCell W a u g (fun e => hne (by rw [Value.ownBlock, e]))]
    exact h3

theorem KpB.setCell {nn : Nat} {bs : List Nat} {A W : World} (h : KpB nn bs A W) (a : Addr) (ha : a.block ∈ bs) (u : Value) : KpB nn bs A (W.setCell a u) := by
  have v := (Upd.refl [a.block] W).setCell (p := a) (Or.inl (by simp)) u
  exact ⟨v.os.trans h.os, v.tape.trans h.tape, v.output.trans h.output, Nat.le_trans h.size v.size, fun k hk hn => (Below.heap_setCell W a u k (fun e => hn (by rw [e]; exact ha))).trans (h.block k hk hn)⟩
theorem Blk.ne_own {w : World} {base g b n c : Nat} {cs : List Value} {T : TypeId} {xs : List Int} (hb : Blk w b cs T) (h : OwnB w base (.slice (some ⟨g, 0, none⟩) n c) xs) (hT : T ≠ 5 := by decide) : b ≠ g := fun e => by
  subst e
  exact OwnB.ne_blk h hb hT rfl

set_option maxRecDepth 100000 in
set_option maxHeartbeats 4000000 in
theorem turned_walk (w : World) (G : Nat → Int) (hG : RngF G) (px : Option Addr) (X : List Int) (cx : Nat) (hX : ByAt w px X) (hXr : Rng X) (hX0 : 0 < X.length) (hXl : X.length ≤ 1000) (hXc : X.length ≤ cx)
    (p : Option Addr) (xs : List Int) (c : Nat) (hx : ByAt w p xs) (hr : Rng xs) (hl : xs.length ≤ 100000) (hc : xs.length ≤ c) :
    Calls Try.prog 33 #[.agg (row32 G).toArray, .slice px X.length cx, .slice p xs.length c] w fun e w' => ∃ p' c', e = .returned (.slice p' xs.length c') ∧ OwnB w' w.heap.size (.slice p' xs.length c') (xorB xs (stF G X)) ∧ Upd [] w w' := by
  obtain ⟨n, hn⟩ : ∃ n, xs.length = n := ⟨_, rfl⟩
  obtain ⟨m, hm⟩ : ∃ m, X.length = m := ⟨_, rfl⟩
  have u1 := (Upd.refl [] w).alloc (.cells (row32 G).toArray 23)
  have hD : Blk (w.alloc (.cells (row32 G).toArray 23)) w.heap.size (row32 G) 23 := Blk.new w (row32 G).toArray 23
  have hcl := clone_walk (w.alloc (.cells (row32 G).toArray 23)) p xs c (hx.upd_nil u1) (by omega)
  have hst := fun (W : World) => stream_walk W G px m cx
  rw [hn] at hl hc hcl ⊢
  rw [hm] at hX0 hXl hXc ⊢
  have Hn := Lib.hid hn
  have Hm := Lib.hid hm
  generalize hW1 : w.alloc (.cells (row32 G).toArray 23) = W1 at *
  have h1 : 1 ≤ 3 := by omega
  have hz : ∀ w : World, (zeroValue 26).run Try.prog w = .ok (.slice none 0 0) w := fun w => by kernel_rfl
  refine (callsIn_wide (n := 3)).1 ?_
  refine callsIn_of_wp_marks Try.func33 rfl trivial ?_ rfl
  simp only [Try.ntmps33, List.size_toArray, List.length_cons, List.length_nil, Nat.reduceAdd, Nat.reduceSub, Array.replicate_succ, Array.replicate_zero, List.push_toArray, List.append_toArray, List.nil_append, List.cons_append]
  gi_wp2_with (first
    | (refine ⟨trivial, ?_⟩; gi_at_call 48; refine (callsIn_wide.2 (hst _)).mono ?_; rintro e W5 ⟨rfl, k5, n5, u5⟩)
    | (have tok := hD2; refine wpListIn_load_row rfl _ _ rfl w.heap.size rfl 23 (row32 G).toArray (0, 0) _ (by have h := (hD2.alloc (.cells #[.slice p1 n c1] 26)).alloc (.cells #[.int .i64 0] 3); unfold Blk at h; exact h) Try.underlying23 rfl (infoK G) ?_)
    | (refine ⟨trivial, ?_⟩; gi_at_call 46; refine (callsIn_wide.2 hcl).mono ?_; rintro e w2 ⟨p1, c1, rfl, o1, u2⟩; have hD2 := hD.upd_nil u2))
  have hA1 := Blk.new w2 #[.slice p1 n c1] 26
  have hA2 := Blk.new (w2.alloc (.cells #[.slice p1 n c1] 26)) #[.int .i64 0] 3
  have uA := ((Upd.refl [] w2).alloc (.cells #[.slice p1 n c1] 26)).alloc (.cells #[.int .i64 0] 3)
  have hB7 := (hA1.alloc (.cells #[.int .i64 0] 3)).upd_nil u5
  have hB8 := hA2.upd_nil u5
  have hU := ((u1.trans_nil u2).trans_nil uA).trans_nil u5
  have hO0 := (o1.upd_nil uA).upd_nil u5
  have hgl := o1.lt
  have hw2 := (u1.trans_nil u2).size
  have hb1 : w.heap.size ≤ W1.heap.size := u1.size
  have hO : OwnB W5 w.heap.size (.slice p1 n c1) xs := hO0.mono hb1
  simp only [World.size_alloc] at k5 n5 hB8
  clear hA1 hA2 uA u5 u2 o1 hO0 hst hcl hD hD2 hW1 u1 hz
  obtain ⟨b7, hb7⟩ : ∃ b, w2.heap.size = b := ⟨_, rfl⟩
  rw [hb7] at hB7 hB8 k5 n5 hgl hw2 ⊢
  obtain ⟨b8, hb8⟩ : ∃ b, b7 + 1 = b := ⟨_, rfl⟩
  rw [hb8] at hB8 k5 n5 ⊢
  obtain ⟨kb, hkb⟩ : ∃ b, b8 + 1 = b := ⟨_, rfl⟩
  rw [hkb] at k5 n5 ⊢
  obtain ⟨nb, hnb⟩ : ∃ b, kb + 1 = b := ⟨_, rfl⟩
  rw [hnb] at n5 ⊢
  obtain ⟨gb, hgb, hgb1, hgb2⟩ : ∃ gb, (∀ g, (Value.slice p1 n c1).ownBlock = some g → g = gb) ∧ w.heap.size ≤ gb ∧ gb ≤ b7 := by
    cases hp : (Value.slice p1 n c1).ownBlock with
    | none => exact ⟨b7, (fun g e => nomatch e), hw2, Nat.le_refl _⟩
    | some g => exact ⟨g, (fun g' e => (Option.some.inj e).symm), Nat.le_trans hb1 (hgl g hp).1, Nat.le_of_lt (hgl g hp).2⟩
  obtain ⟨pb, po, hpx⟩ := hX.form (by omega)
  have hpb : pb < w.heap.size := by subst hpx; exact hX.lt (by omega)
  have hX5 := hX.upd_nil hU
  have Hpx := Lib.hid hpx
  clear hb7 hgl hpx
  refine wpIn_rangeFunc_ownF rfl h1 (gf := 56) (lb := #[.pointer (some ⟨kb, 0, none⟩), .pointer (some ⟨nb, 0, none⟩)]) rfl trivial (enters_of Try.func56 (by kernel_rfl) rfl)
    (str_stops 2 (by omega) kb nb W5.heap.size [gb, b7, b8] G hG px X cx hXr (by omega) (by omega) W5 (Nat.le_refl _) k5 ⟨k5.lt, by simp; omega⟩ (by rw [Hm.out]; exact n5) ⟨n5.lt, by simp; omega⟩ hX5 (fun b o e => by rw [Hpx.out] at e; cases e; exact ⟨Nat.lt_of_lt_of_le hpb hU.size, by simp; omega⟩))
    KpB.trans (fun W l o o' hl _ _ _ => KpB.putObj W l o' hl) (Below.refl _ _) (fun _ => rfl)
    (fun pre W => pre.length ≤ n ∧ Blk W b7 [.slice p1 n c1] 26 ∧ Blk W b8 [.int .i64 ((pre.length : Nat) : Int)] 3 ∧ OwnB W w.heap.size (.slice p1 n c1) (mixL xs pre) ∧ Upd [] w W)
    (fun cd pre W => cd = .exit 0 ∧ n < pre.length ∧ Blk W b7 [.slice p1 n c1] 26 ∧ OwnB W w.heap.size (.slice p1 n c1) (mixL xs pre) ∧ Upd [] w W)
    (fun pre A B row hs hg hr => ⟨hs.1, blk_turn hs.2.1 hg (fun r e => (hr r e).2), blk_turn hs.2.2.1 hg (fun r e => (hr r e).2), own_turn hs.2.2.2.1 hg (fun r e => (hr r e).2), hs.2.2.2.2.grown hg (fun k hk => Or.inr (Nat.le_trans hU.size (hr k hk).1))⟩)
    (fun cd pre A B row hs hg hr => ⟨hs.1, hs.2.1, blk_turn hs.2.2.1 hg (fun r e => (hr r e).2), own_turn hs.2.2.2.1 hg (fun r e => (hr r e).2), hs.2.2.2.2.grown hg (fun k hk => Or.inr (Nat.le_trans hU.size (hr k hk).1))⟩)
    ⟨by simp, hB7, hB8, by rw [mixL_nil]; exact hO, hU⟩
    (fun x => { tmps := #[.agg (row32 G).toArray, .slice px m cx, .slice p n c, .pointer (some ⟨w.heap.size, 0, none⟩), undef, undef, .slice none 0 0, .pointer (some ⟨b7, 0, none⟩), .pointer (some ⟨b8, 0, none⟩), .int .u8 x, .slice p n c, .slice p1 n c1, .agg (row32 G).toArray, .slice px m cx,
      .func (.func 56) #[] #[.pointer (some ⟨kb, 0, none⟩), .pointer (some ⟨nb, 0, none⟩)], .int .u8 x, undef, undef, undef, undef, undef, undef, undef, undef, undef, undef, undef, undef, undef, undef], defers := [] }) ?assign ?body ?done ?stop
  case assign =>
    intro l x W K hK
    gi_wp2
    exact hK
  case body =>
    rintro l pre x W ⟨hpl, h7, h8, ho, hu⟩ _
    have hlb := h8.lt
    have hl7 := h7.lt
    rcases Nat.lt_or_ge pre.length n with hlt | hge
    · obtain ⟨g, rfl, hbg, hgW, -, hcell, hfr, hset⟩ := ho.spot pre.length (by rw [mixL_len]; omega)
      rw [mixL_cur xs pre (by omega)] at hcell
      have hgg : g = gb := hgb g rfl
      subst hgg
      have hg8 : g ≠ b8 := by omega
      have hg8' : b8 ≠ g := by omega
      have hg7 : b7 ≠ g := h7.ne_own ho
      have hset' := hset (bits .xor .u8 (xs.getD pre.length 0) x)
      rw [mixL_step xs pre x (by omega)] at hset'
      have hO2 := own_setne hset' ⟨b8, 0, none⟩ (.int .i64 ((pre.length : Int) + 1)) (by simpa [Value.ownBlock] using hg8)
      have hK2 : KeepsOthers W ((W.setCell ⟨g, pre.length, none⟩ (.int .u8 (bits .xor .u8 (xs.getD pre.length 0) x))).setCell ⟨b8, 0, none⟩ (.int .i64 ((pre.length : Int) + 1))) := (KeepsOthers.setCell _ _ _).trans (KeepsOthers.setCell _ _ _)
      have hP2 : KpB W5.heap.size [g, b7, b8] W ((W.setCell ⟨g, pre.length, none⟩ (.int .u8 (bits .xor .u8 (xs.getD pre.length 0) x))).setCell ⟨b8, 0, none⟩ (.int .i64 ((pre.length : Int) + 1))) := ((KpB.refl _ _ W).setCell ⟨g, pre.length, none⟩ (by simp) _).setCell ⟨b8, 0, none⟩ (by simp) _
      have h72 := (h7.set_ne ⟨g, pre.length, none⟩ hg7 (.int .u8 (bits .xor .u8 (xs.getD pre.length 0) x))).set_ne ⟨b8, 0, none⟩ (by show b7 ≠ b8; omega) (.int .i64 ((pre.length : Int) + 1))
      have h82 := (h8.set_ne ⟨g, pre.length, none⟩ hg8' (.int .u8 (bits .xor .u8 (xs.getD pre.length 0) x))).set 0 (.int .i64 ((pre.length : Int) + 1))
      have hu2 := (hu.setCell (p := ⟨g, pre.length, none⟩) (Or.inr hbg) (.int .u8 (bits .xor .u8 (xs.getD pre.length 0) x))).setCell (p := ⟨b8, 0, none⟩) (Or.inr (by show w.heap.size ≤ b8; omega)) (.int .i64 ((pre.length : Int) + 1))
      have z7 := h7.cell 0 rfl
      have z8 := h8.cell 0 rfl
      have f8 := h8.free 0
      have i1 : (0 : Int) ≤ (pre.length : Int) := by omega
      have i2 : (pre.length : Int) < n := by omega
      have H1 := Lib.hid hO2
      have H2 := Lib.hid hK2
      have H3 := Lib.hid hP2
      have H4 := Lib.hid h72
      have e5 : (((pre ++ [x]).length : Nat) : Int) = (pre.length : Int) + 1 := by simp
      have H5 : Hid (Blk ((W.setCell ⟨g, pre.length, none⟩ (.int .u8 (bits .xor .u8 (xs.getD pre.length 0) x))).setCell ⟨b8, 0, none⟩ (.int .i64 ((pre.length : Int) + 1))) b8 [.int .i64 (((pre ++ [x]).length : Nat) : Int)] 3) := Lib.hid (by rw [e5]; exact h82)
      clear e5
      have H6 := Lib.hid hu2
      clear hO2 hK2 hP2 h72 h82 hu2 hset hset' hu h7 h8 ho
      generalize xs.getD pre.length 0 = y at *
      gi_wp2
      exact ⟨H2.out, H3.out, by simp; omega, H4.out, H5.out, H1.out, H6.out⟩
    · have z7 := h7.cell 0 rfl
      have z8 := h8.cell 0 rfl
      have i2 : (n : Int) ≤ (pre.length : Int) := by omega
      gi_wp2
      exact ⟨KeepsOthers.refl W, rfl, by simp; omega, h7, by rw [mixL_over xs pre x (by omega)]; exact ho, hu⟩
  case done =>
    rintro D ys W hD hys ⟨hpl, _⟩ hK
    exfalso
    omega
  case stop =>
    rintro D cd pre W hD hpre ⟨rfl, hpl, h7, ho, hu⟩ hK
    have z7 := h7.cell 0 rfl
    rw [hpre, mixL_all xs G X _ (by omega)] at ho
    gi_wp2
    refine ⟨by simp, .inl ⟨_, _, rfl, run_takeDeferred hK, ?_⟩⟩
    exact ⟨_, results_tmp rfl _ _ _, p1, c1, rfl, own_turn ho (grownBy_putObj' _ D _) (fun r e => by cases e; exact ⟨_, hK, rfl⟩), hu.grown (grownBy_putObj' _ D _) (fun k hk => by cases hk; exact Or.inr (Nat.le_trans hU.size hD))⟩

end Go.Proofs.Ytppbaahaegmgeaa
