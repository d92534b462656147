/- RoadKnown: the walk. -/
import Derived.Test.YtceeekdephgcmaaRdU
namespace Go.Proofs.Ytceeekdephgcmaa
open Go.RowKit

def roadEnds : List Int := [-1, 0, 1, 2, 16, 17, 4611686018427387904, -4611686018427387904]
def endCells : List Value := roadEnds.map (Value.int .i64)
theorem roadEnds_at (i : Nat) (hi : i < 8) : ∃ x, roadEnds[i]? = some x ∧ endCells[i]? = some (.int .i64 x) ∧ -9223372036854775808 ≤ x ∧ x ≤ 9223372036854775807 := by
  match i, hi with
  | 0, _ | 1, _ | 2, _ | 3, _ | 4, _ | 5, _ | 6, _ | 7, _ => exact ⟨_, rfl, rfl, by omega, by omega⟩

theorem kconst2 (w : World) (x y : Int) : (convert 26 26 (.slice (some ⟨w.heap.size, 0, none⟩) 2 2)).run Try.prog (w.alloc (.cells #[.int .u8 x, .int .u8 y] 5)) = .ok (.slice (some ⟨w.heap.size, 0, none⟩) 2 2) (w.alloc (.cells #[.int .u8 x, .int .u8 y] 5 (2, 3))) :=
  Lib.run_convert_bytes_const (P := Try.prog) w 26 5 #[.int .u8 x, .int .u8 y] 2 2 Try.underlying26 Try.underlying5

/-- The seven deeds. -/
def sevenCells (x y : Int) (k : Nat) (g : Nat) : List Value :=
  [.int .i64 0, .int .i64 x, .int .i64 k, .int .u8 0, .slice none 0 0, .int .i64 0, .int .i64 3, .int .i64 4, .int .u8 0, .slice (some ⟨g, 0, none⟩) 2 2, .int .i64 3, .int .i64 0, .int .i64 y, .int .u8 9, .slice none 0 0,
   .int .i64 2, .int .i64 x, .int .i64 0, .int .u8 0, .slice none 0 0, .int .i64 3, .int .i64 x, .int .i64 y, .int .u8 1, .slice none 0 0, .int .i64 1, .int .i64 y, .int .i64 0, .int .u8 0, .slice none 0 0, .int .i64 1, .int .i64 0, .int .i64 0, .int .u8 0, .slice none 0 0]

theorem seven_deeds {w : World} {b g k : Nat} {x y : Int} (h : Blk w b (sevenCells x y k g) 28) (hk : k < 8) (hx : -9223372036854775808 ≤ x ∧ x ≤ 9223372036854775807) (hy : -9223372036854775808 ≤ y ∧ y ≤ 9223372036854775807) (hg : BytesAt w (.slice (some ⟨g, 0, none⟩) 2 2) [120, 121]) :
    DeedS w w.heap.size (some ⟨b, 0, none⟩) 7 := by
  have h0 : BytesAt w (.slice none 0 0) [] := ⟨by simp, .inl ⟨rfl, rfl⟩⟩
  intro i hi
  match i, hi with
  | 0, _ => exact ⟨b, 0, _, _, _, _, none, [], 0, rfl, h.lt, h.cell 0 rfl, h.cell 1 rfl, h.cell 2 rfl, h.cell 3 rfl, h.cell 4 rfl, by omega, by omega, h0, by simp⟩
  | 1, _ => exact ⟨b, 0, _, _, _, _, some ⟨g, 0, none⟩, [120, 121], 2, rfl, h.lt, h.cell 5 rfl, h.cell 6 rfl, h.cell 7 rfl, h.cell 8 rfl, h.cell 9 rfl, by omega, by omega, hg, by simp⟩
  | 2, _ => exact ⟨b, 0, _, _, _, _, none, [], 0, rfl, h.lt, h.cell 10 rfl, h.cell 11 rfl, h.cell 12 rfl, h.cell 13 rfl, h.cell 14 rfl, by omega, hy, h0, by simp⟩
  | 3, _ => exact ⟨b, 0, _, _, _, _, none, [], 0, rfl, h.lt, h.cell 15 rfl, h.cell 16 rfl, h.cell 17 rfl, h.cell 18 rfl, h.cell 19 rfl, by omega, by omega, h0, by simp⟩
  | 4, _ => exact ⟨b, 0, _, _, _, _, none, [], 0, rfl, h.lt, h.cell 20 rfl, h.cell 21 rfl, h.cell 22 rfl, h.cell 23 rfl, h.cell 24 rfl, by omega, hy, h0, by simp⟩
  | 5, _ => exact ⟨b, 0, _, _, _, _, none, [], 0, rfl, h.lt, h.cell 25 rfl, h.cell 26 rfl, h.cell 27 rfl, h.cell 28 rfl, h.cell 29 rfl, by omega, by omega, h0, by simp⟩
  | 6, _ => exact ⟨b, 0, _, _, _, _, none, [], 0, rfl, h.lt, h.cell 30 rfl, h.cell 31 rfl, h.cell 32 rfl, h.cell 33 rfl, h.cell 34 rfl, by omega, by omega, h0, by simp⟩

theorem bytes2m (w : World) (x y : Int) (hx : 0 ≤ x ∧ x ≤ 255) (hy : 0 ≤ y ∧ y ≤ 255) (n : Nat) (hn : n = w.heap.size) (T : TypeId) (fr : Nat × Nat) : BytesAt (w.alloc (.cells #[.int .u8 x, .int .u8 y] T fr)) (.slice (some ⟨n, 0, none⟩) 2 2) [x, y] := by
  subst hn
  refine ⟨by simp; omega, .inr ⟨_, _, rfl, fun i hi => ?_⟩⟩
  rw [add_at0, cell_of_row _ w.heap.size _ _ _ fr (heap_alloc_new w _)]
  match i, hi with
  | 0, _ => rfl
  | 1, _ => rfl

set_option maxHeartbeats 4000000 in
set_option maxRecDepth 100000 in
theorem known_walk (w : World) :
    Calls Try.prog 6 #[] w fun e w' => e = .returned (.bool true) ∧ Upd [] w w' := by
  have hb0 : ∀ w : World, BytesAt w (.slice none 0 0) [] := fun w => ⟨by simp, .inl ⟨rfl, rfl⟩⟩
  go_enter Try.func6, Try.ntmps6
  go_wp2_with fail
  go_loopw [1, 2] (fun pv iv wr => ∃ (i : Nat) (p : Option Addr), i ≤ 2 ∧ iv = .int .i64 i ∧ pv = .pointer p ∧ NoRoad wr p ∧ Upd [] w wr) (fun _ iv _ => 2 - (intOf iv).toNat)
  case atStart => exact ⟨0, none, by omega, rfl, rfl, .inl rfl, Upd.refl _ _⟩
  case round =>
    obtain ⟨i, p, hi, rfl, rfl, hp, hu⟩ := hrel
    obtain ⟨wo, rfl⟩ : ∃ wo, wo = wr := ⟨_, rfl⟩
    by_cases hlt : i < 2
    · go_wp2_with (first
        | (go_at_call 21; refine (take_none hp 0).mono ?_; rintro e w2 ⟨rfl, hu2⟩; have u3 := hu2.alloc (.cells #[.int .i64 0, .bool false, .slice none 0 0] 33); have hp3 := hp.upd u3)
        | (go_at_call 13; refine (see_none hp3 0).mono ?_; rintro e w4 ⟨rfl, hu4⟩; have u5 := hu4.alloc (.cells #[.int .i64 0, .bool false, .slice none 0 0] 33); have hp5 := hp3.upd u5)
        | (go_at_call 9; refine (send_none hp5 1).mono ?_; rintro e w6 ⟨rfl, hu6⟩; have hp6 := hp5.upd hu6)
        | (go_at_call 11; refine (dbl_none hp6 0).mono ?_; rintro e w' ⟨rfl, rfl⟩)
        | (go_at_call 12; refine (turn_none hp6 0 0 0).mono ?_; rintro e w' ⟨rfl, rfl⟩)
        | (go_at_call 14; refine (len_none hp6).mono ?_; rintro e w' ⟨rfl, rfl⟩)
        | (go_at_call 18; refine (sent_none hp6).mono ?_; rintro e w' ⟨rfl, rfl⟩))
      exact ⟨⟨i + 1, _, by omega, by go_num, rfl, .inr ⟨w6.heap.size, rfl, (by simpa using Blk.new w6 #[.bool false, .slice none 0 0, .int .i64 0] _)⟩, (((hu.trans_nil u3).trans_nil u5).trans_nil hu6).alloc _⟩, by simp [intOf]; omega⟩
    · go_wp2_with fail
      refine (newK wo).mono ?_
      rintro e w2 ⟨rfl, hK, hu2⟩
      have hsz := hu.size
      have hu3 := hu.trans_nil hu2
      have hF2 : ∀ k ∈ [wo.heap.size], w.heap.size ≤ k := by simp; omega
      generalize [wo.heap.size] = F0 at hK hF2
      generalize wo.heap.size = r at *
      clear hp hu2 hu
      go_wp2_with fail
      go_loopw [8] (fun iv wr => ∃ (i : Nat) (F : List Nat), i ≤ 1024 ∧ iv = .int .i64 i ∧ RoadK wr F r (List.replicate i (16, false, [])) i ∧ (∀ k ∈ F, w.heap.size ≤ k) ∧ Upd [] w wr) (fun iv _ => 1024 - (intOf iv).toNat)
      case atStart => exact ⟨0, F0, by omega, rfl, hK, hF2, hu3⟩
      case round =>
        clear hK hF2 hu3
        obtain ⟨i2, F, hi2, rfl, hK, hF, hu⟩ := hrel
        obtain ⟨wp, rfl⟩ : ∃ wp, wp = wr := ⟨_, rfl⟩
        by_cases hl2 : i2 < 1024
        · have hc : sendCode 16 ([] : List Int).length (List.replicate i2 ((16, false, []) : Key)).length = 0 := by
            unfold sendCode; rw [if_neg (by omega), if_neg (by simp), if_neg (by simp; omega)]
          have hM : sendM (List.replicate i2 ((16, false, []) : Key)) 16 false [] = List.replicate (i2 + 1) (16, false, []) := by
            unfold sendM; rw [if_pos hc, List.replicate_succ']
          have hN : sendN (List.replicate i2 ((16, false, []) : Key)) 16 [] i2 = ((i2 + 1 : Nat) : Int) := by
            unfold sendN; rw [if_pos hc]; unfold wrap64; omega
          go_wp2_with fail
          refine (sendK hK 16 false (.slice none 0 0) [] (hb0 _) (by simp)).mono ?_
          rw [hc, hM, hN]
          rintro e w4 ⟨rfl, ⟨F', hK', hF'⟩, hu'⟩
          have hsz := hu.size
          have hF'' : ∀ k ∈ F', w.heap.size ≤ k := fun k hk => (hF' k hk).elim (hF k) (fun h => by omega)
          go_wp2_with fail
          exact ⟨⟨i2 + 1, F', by omega, by go_num, hK', hF'', hu.trans hu' (fun x hx => .inr (hF x hx))⟩, by simp [intOf]; omega⟩
        · obtain rfl : i2 = 1024 := by omega
          have hm : (List.replicate 1024 ((16, false, []) : Key)).length = 1024 := List.length_replicate ..
          generalize List.replicate 1024 ((16, false, []) : Key) = m at hK hm
          have hc : sendCode 1 ([] : List Int).length m.length = 7 := by unfold sendCode; rw [if_neg (by omega), if_neg (by simp), if_pos (by omega)]
          have hM : sendM m 1 false [] = m := by unfold sendM; rw [hc, if_neg (by decide)]
          have hN : sendN m 1 [] ((1024 : Nat) : Int) = ((1024 : Nat) : Int) := by unfold sendN; rw [hc, if_neg (by decide)]
          have hs0 : seeIs m 0 = true := by unfold seeIs; rw [hm]; rfl
          have hd : dblCode m 0 = 7 := by unfold dblCode; rw [if_pos hs0, if_pos (by omega)]
          have hd2 : dblM m 0 = m := by unfold dblM; rw [hd, if_neg (by decide)]
          go_wp2_with fail
          refine (sendK hK 1 false (.slice none 0 0) [] (hb0 _) (by simp)).mono ?_
          rw [hc, hM, hN]
          rintro e w4 ⟨rfl, ⟨F4, hK4, hF4⟩, hu4⟩
          have hsz := hu.size
          have hF4' : ∀ k ∈ F4, w.heap.size ≤ k := fun k hk => (hF4 k hk).elim (hF k) (fun h => by omega)
          have hU4 := hu.trans hu4 (fun x hx => .inr (hF x hx))
          clear hK hF hu hu4 hF4
          go_wp2_with fail
          refine (dblK hK4 0).mono ?_
          rw [hd, hd2]
          rintro e w5 ⟨rfl, ⟨F5, hK5, hF5⟩, hu5⟩
          have hU5 := hU4.trans hu5 (fun x hx => .inr (hF4' x hx))
          have hl5 := lenK hK5
          rw [hm] at hl5
          have hs5 := sentK hK5
          clear hK4 hF4' hU4 hu5 hF5
          go_wp2_with (first
            | (go_at_call 14; refine hl5.mono ?_; rintro e w' ⟨rfl, rfl⟩)
            | (go_at_call 18; refine hs5.mono ?_; rintro e w' ⟨rfl, rfl⟩))
          clear hK5 hl5 hs5 hm hc hM hN hs0 hd hd2
          obtain ⟨Z1, hZ1, mk1⟩ := mk_zero 16385 (by omega)
          obtain ⟨Z2, hZ2, mk2⟩ := mk_zero 16384 (by omega)
          obtain ⟨xs, hxl, hbx⟩ : ∃ xs : List Int, xs.length = 16385 ∧ ∀ w : World, BytesAt (w.alloc (.cells Z1 5)) (.slice (some ⟨w.heap.size, 0, none⟩) 16385 16385) xs := ⟨_, List.length_replicate .., fun w => zero_at hZ1 _ rfl _⟩
          obtain ⟨ys, hyl, hby⟩ : ∃ ys : List Int, ys.length = 16384 ∧ ∀ w : World, BytesAt (w.alloc (.cells Z2 5)) (.slice (some ⟨w.heap.size, 0, none⟩) 16384 16384) ys := ⟨_, List.length_replicate .., fun w => zero_at hZ2 _ rfl _⟩
          have Hbx := Lib.hid hbx; have Hby := Lib.hid hby
          clear hZ1 hZ2 hbx hby
          refine (newS w5).mono ?_
          rintro e w6 ⟨rfl, hS6⟩
          have m1 : (Instr.makeSlice 26 (.int .i64 16385) (.int .i64 16385)).run Try.prog w6 = .ok (.slice (some ⟨w6.heap.size, 0, none⟩) 16385 16385) (w6.alloc (.cells Z1 5)) := mk1 w6
          have hc1 : sendCode 1 xs.length ([] : List Key).length = 5 := by rw [hxl]; rfl
          go_wp2_with fail
          refine (sendS (hS6.next ((Upd.refl [] w6).alloc (.cells Z1 5))) 1 false _ xs (Hbx.out w6) (by omega) 5 [] hc1 (by unfold sendM; rw [hc1]; rfl)).mono ?_
          rintro e w7 ⟨rfl, hS7⟩
          have m2 : (Instr.makeSlice 26 (.int .i64 16384) (.int .i64 16384)).run Try.prog w7 = .ok (.slice (some ⟨w7.heap.size, 0, none⟩) 16384 16384) (w7.alloc (.cells Z2 5)) := mk2 w7
          have hc2 : sendCode 1 ys.length ([] : List Key).length = 0 := by rw [hyl]; rfl
          clear m1
          go_wp2_with fail
          refine (sendS (hS7.next ((Upd.refl [] w7).alloc (.cells Z2 5))) 1 false _ ys (Hby.out w7) (by omega) 0 _ hc2 rfl).mono ?_
          rintro e w8 ⟨rfl, hS8⟩
          have hu8 := hU5.trans_nil hS8.upd
          clear m2 hS8 hS7 hS6 hU5 Hbx Hby hxl hyl hc1 hc2 mk1 mk2
          have hE : Blk (w8.alloc (.cells endCells.toArray 3)) w8.heap.size endCells 3 := by simpa using Blk.new w8 endCells.toArray 3
          have hs8 := hu8.size
          have hu9 := hu8.alloc (.cells endCells.toArray 3)
          go_wp2_with fail
          go_loopw [13] (fun iv wr => ∃ i : Nat, i ≤ 8 ∧ iv = .int .i64 i ∧ Blk wr w8.heap.size endCells 3 ∧ Upd [] w wr) (fun iv _ => 8 - (intOf iv).toNat)
          case atStart => exact ⟨0, by omega, rfl, hE, hu9⟩
          case round =>
            clear hE hu9
            obtain ⟨i3, hi3, rfl, hE, hu9⟩ := hrel
            obtain ⟨wa, rfl⟩ : ∃ wa, wa = wr := ⟨_, rfl⟩
            by_cases hl3 : i3 < 8
            · obtain ⟨x, _, hx, hx1⟩ := roadEnds_at i3 hl3
              go_wp2_with fail
              go_loopw [14] (fun kv wr => ∃ k : Nat, k ≤ 8 ∧ kv = .int .i64 k ∧ Blk wr w8.heap.size endCells 3 ∧ Upd [] w wr) (fun kv _ => 8 - (intOf kv).toNat)
              case atStart => exact ⟨0, by omega, rfl, hE, hu9⟩
              case round =>
                clear hE hu9
                obtain ⟨k, hk, rfl, hE, hu9⟩ := hrel
                obtain ⟨wb, rfl⟩ : ∃ wb, wb = wr := ⟨_, rfl⟩
                by_cases hlk : k < 8
                · obtain ⟨y, _, hy, hy1⟩ := roadEnds_at k hlk
                  have k0 := hE.cell i3 hx
                  have k1 := hE.cell k hy
                  have kc : (convert 26 26 (.slice (some ⟨wb.heap.size, 0, none⟩) 2 2)).run Try.prog (wb.alloc (.cells #[.int .u8 120, .int .u8 121] 5)).drew = .ok (.slice (some ⟨wb.heap.size, 0, none⟩) 2 2) (wb.alloc (.cells #[.int .u8 120, .int .u8 121] 5 (2, 3))).drew := kconst2 wb.drew 120 121
                  have hlt8 := hE.lt
                  have hx8 : (i3 : Int) < 8 := by omega
                  have hk8 : (k : Int) < 8 := by omega
                  have uA := (((Upd.refl [] wb).alloc (.cells #[.int .u8 120, .int .u8 121] 5 (2, 3))).alloc (.cells (sevenCells x y k wb.heap.size).toArray 28)).drew
                  have hX := (bytes2m wb 120 121 (by omega) (by omega) _ rfl 5 (2, 3)).frame (((Upd.refl [] _).alloc (.cells (sevenCells x y k wb.heap.size).toArray 28)).drew) (by simp)
                  have hD : Blk ((wb.alloc (.cells #[.int .u8 120, .int .u8 121] 5 (2, 3))).alloc (.cells (sevenCells x y k wb.heap.size).toArray 28)).drew (wb.heap.size + 1) (sevenCells x y k wb.heap.size) 28 := Blk.drew (Blk.new_at (by simp) rfl)
                  have hS := seven_deeds hD hlk hx1 hy1 hX
                  go_upto_region 26 with fail
                  have hEa : Blk (wb.alloc (.cells #[.int .u8 120, .int .u8 121] 5)).drew w8.heap.size endCells 3 := (hE.alloc _).drew
                  have hEb : Blk (wb.alloc (.cells #[.int .u8 120, .int .u8 121] 5 (2, 3))).drew w8.heap.size endCells 3 := (hE.alloc _).drew
                  have hEc := hE.upd_nil uA
                  refine wp_region_held_drew (S := fun w' => w'.cell? ⟨w8.heap.size, i3, none⟩ = some (.int .i64 x) ∧ w'.cell? ⟨w8.heap.size, k, none⟩ = some (.int .i64 y)) (by kernel_rfl) ⟨k0, k1⟩ (fun hHeld => ?_)
                  change wpAnyH _ _ _ _ _ 37 #[false, false, false, false, false, false, false, false, false, false, false, false, false, false, false, false, false, false, false, false, false, false, false, false, false, false, false, false, false, false, false, false, false, false, false, false, false] _ _
                  refine wpAnyH_take (i := 0) (v := ?_) rfl (by kernel_rfl) (by kernel_rfl) (by kernel_rfl) (fun _ _ _ h => h) (Or.inl ⟨by rfl, ?_⟩) (by assumption) ?_
                  rotate_left 1
                  · intro w hSw; (try dsimp only at hSw); go_simp; try with_reducible rfl
                  try simp only [Act.put, List.getElem_toArray, List.getElem_cons_succ, List.getElem_cons_zero, List.setIfInBounds_toArray, List.set_cons_zero, List.set_cons_succ]
                  refine wpAnyH_take (i := 1) (v := ?_) rfl (by kernel_rfl) (by kernel_rfl) (by kernel_rfl) (fun _ _ _ h => h) (Or.inl ⟨by rfl, ?_⟩) (by assumption) ?_
                  rotate_left 1
                  · intro w hSw; (try dsimp only at hSw); go_simp; try with_reducible rfl
                  try simp only [Act.put, List.getElem_toArray, List.getElem_cons_succ, List.getElem_cons_zero, List.setIfInBounds_toArray, List.set_cons_zero, List.set_cons_succ]
                  refine wpAnyH_take (i := 2) (v := ?_) rfl (by kernel_rfl) (by kernel_rfl) (by kernel_rfl) (fun _ _ _ h => h) (Or.inl ⟨by rfl, ?_⟩) (by assumption) ?_
                  rotate_left 1
                  · intro w hSw; (try dsimp only at hSw); go_simp; try with_reducible rfl
                  try simp only [Act.put, List.getElem_toArray, List.getElem_cons_succ, List.getElem_cons_zero, List.setIfInBounds_toArray, List.set_cons_zero, List.set_cons_succ]
                  refine wpAnyH_take (i := 3) (v := ?_) rfl (by kernel_rfl) (by kernel_rfl) (by kernel_rfl) (fun _ _ _ h => h) (Or.inl ⟨by rfl, ?_⟩) (by assumption) ?_
                  rotate_left 1
                  · intro w hSw; (try dsimp only at hSw); go_simp; try with_reducible rfl
                  try simp only [Act.put, List.getElem_toArray, List.getElem_cons_succ, List.getElem_cons_zero, List.setIfInBounds_toArray, List.set_cons_zero, List.set_cons_succ]
                  refine wpAnyH_take (i := 4) (v := ?_) rfl (by kernel_rfl) (by kernel_rfl) (by kernel_rfl) (fun _ _ _ h => h) (Or.inl ⟨by rfl, ?_⟩) (by assumption) ?_
                  rotate_left 1
                  · intro w hSw; (try dsimp only at hSw); go_simp; try with_reducible rfl
                  try simp only [Act.put, List.getElem_toArray, List.getElem_cons_succ, List.getElem_cons_zero, List.setIfInBounds_toArray, List.set_cons_zero, List.set_cons_succ]
                  refine wpAnyH_take (i := 5) (v := ?_) rfl (by kernel_rfl) (by kernel_rfl) (by kernel_rfl) (fun _ _ _ h => h) (Or.inl ⟨by rfl, ?_⟩) (by assumption) ?_
                  rotate_left 1
                  · intro w hSw; (try dsimp only at hSw); go_simp; try with_reducible rfl
                  try simp only [Act.put, List.getElem_toArray, List.getElem_cons_succ, List.getElem_cons_zero, List.setIfInBounds_toArray, List.set_cons_zero, List.set_cons_succ]
                  refine wpAnyH_take (i := 9) (v := ?_) rfl (by kernel_rfl) (by kernel_rfl) (by kernel_rfl) (fun _ _ _ h => h) (Or.inl ⟨by rfl, ?_⟩) (by assumption) ?_
                  rotate_left 1
                  · intro w hSw; (try dsimp only at hSw); go_simp; try with_reducible rfl
                  try simp only [Act.put, List.getElem_toArray, List.getElem_cons_succ, List.getElem_cons_zero, List.setIfInBounds_toArray, List.set_cons_zero, List.set_cons_succ]
                  refine wpAnyH_take (i := 10) (v := ?_) rfl (by kernel_rfl) (by kernel_rfl) (by kernel_rfl) (fun _ _ _ h => h) (Or.inl ⟨by rfl, ?_⟩) (by assumption) ?_
                  rotate_left 1
                  · intro w hSw; (try dsimp only at hSw); go_simp; try with_reducible rfl
                  try simp only [Act.put, List.getElem_toArray, List.getElem_cons_succ, List.getElem_cons_zero, List.setIfInBounds_toArray, List.set_cons_zero, List.set_cons_succ]
                  refine wpAnyH_take (i := 11) (v := ?_) rfl (by kernel_rfl) (by kernel_rfl) (by kernel_rfl) (fun _ _ _ h => h) (Or.inl ⟨by rfl, ?_⟩) (by assumption) ?_
                  rotate_left 1
                  · intro w hSw; (try dsimp only at hSw); go_simp; try with_reducible rfl
                  try simp only [Act.put, List.getElem_toArray, List.getElem_cons_succ, List.getElem_cons_zero, List.setIfInBounds_toArray, List.set_cons_zero, List.set_cons_succ]
                  refine wpAnyH_take (i := 12) (v := ?_) rfl (by kernel_rfl) (by kernel_rfl) (by kernel_rfl) (fun _ _ _ h => h) (Or.inl ⟨by rfl, ?_⟩) (by assumption) ?_
                  rotate_left 1
                  · intro w hSw; (try dsimp only at hSw); go_simp; try with_reducible rfl
                  try simp only [Act.put, List.getElem_toArray, List.getElem_cons_succ, List.getElem_cons_zero, List.setIfInBounds_toArray, List.set_cons_zero, List.set_cons_succ]
                  refine wpAnyH_take (i := 13) (v := ?_) rfl (by kernel_rfl) (by kernel_rfl) (by kernel_rfl) (fun _ _ _ h => h) (Or.inl ⟨by rfl, ?_⟩) (by assumption) ?_
                  rotate_left 1
                  · intro w hSw; (try dsimp only at hSw); go_simp; try with_reducible rfl
                  try simp only [Act.put, List.getElem_toArray, List.getElem_cons_succ, List.getElem_cons_zero, List.setIfInBounds_toArray, List.set_cons_zero, List.set_cons_succ]
                  refine wpAnyH_take (i := 14) (v := ?_) rfl (by kernel_rfl) (by kernel_rfl) (by kernel_rfl) (fun _ _ _ h => h) (Or.inl ⟨by rfl, ?_⟩) (by assumption) ?_
                  rotate_left 1
                  · intro w hSw; (try dsimp only at hSw); go_simp; try with_reducible rfl
                  try simp only [Act.put, List.getElem_toArray, List.getElem_cons_succ, List.getElem_cons_zero, List.setIfInBounds_toArray, List.set_cons_zero, List.set_cons_succ]
                  refine wpAnyH_take (i := 15) (v := ?_) rfl (by kernel_rfl) (by kernel_rfl) (by kernel_rfl) (fun _ _ _ h => h) (Or.inl ⟨by rfl, ?_⟩) (by assumption) ?_
                  rotate_left 1
                  · intro w hSw; (try dsimp only at hSw); go_simp; try with_reducible rfl
                  try simp only [Act.put, List.getElem_toArray, List.getElem_cons_succ, List.getElem_cons_zero, List.setIfInBounds_toArray, List.set_cons_zero, List.set_cons_succ]
                  refine wpAnyH_take (i := 16) (v := ?_) rfl (by kernel_rfl) (by kernel_rfl) (by kernel_rfl) (fun _ _ _ h => h) (Or.inl ⟨by rfl, ?_⟩) (by assumption) ?_
                  rotate_left 1
                  · intro w hSw; (try dsimp only at hSw); go_simp; try with_reducible rfl
                  try simp only [Act.put, List.getElem_toArray, List.getElem_cons_succ, List.getElem_cons_zero, List.setIfInBounds_toArray, List.set_cons_zero, List.set_cons_succ]
                  refine wpAnyH_take (i := 17) (v := ?_) rfl (by kernel_rfl) (by kernel_rfl) (by kernel_rfl) (fun _ _ _ h => h) (Or.inl ⟨by rfl, ?_⟩) (by assumption) ?_
                  rotate_left 1
                  · intro w hSw; (try dsimp only at hSw); go_simp; try with_reducible rfl
                  try simp only [Act.put, List.getElem_toArray, List.getElem_cons_succ, List.getElem_cons_zero, List.setIfInBounds_toArray, List.set_cons_zero, List.set_cons_succ]
                  refine wpAnyH_take (i := 18) (v := ?_) rfl (by kernel_rfl) (by kernel_rfl) (by kernel_rfl) (fun _ _ _ h => h) (Or.inl ⟨by rfl, ?_⟩) (by assumption) ?_
                  rotate_left 1
                  · intro w hSw; (try dsimp only at hSw); go_simp; try with_reducible rfl
                  try simp only [Act.put, List.getElem_toArray, List.getElem_cons_succ, List.getElem_cons_zero, List.setIfInBounds_toArray, List.set_cons_zero, List.set_cons_succ]
                  refine wpAnyH_take (i := 19) (v := ?_) rfl (by kernel_rfl) (by kernel_rfl) (by kernel_rfl) (fun _ _ _ h => h) (Or.inl ⟨by rfl, ?_⟩) (by assumption) ?_
                  rotate_left 1
                  · intro w hSw; (try dsimp only at hSw); go_simp; try with_reducible rfl
                  try simp only [Act.put, List.getElem_toArray, List.getElem_cons_succ, List.getElem_cons_zero, List.setIfInBounds_toArray, List.set_cons_zero, List.set_cons_succ]
                  refine wpAnyH_take (i := 20) (v := ?_) rfl (by kernel_rfl) (by kernel_rfl) (by kernel_rfl) (fun _ _ _ h => h) (Or.inl ⟨by rfl, ?_⟩) (by assumption) ?_
                  rotate_left 1
                  · intro w hSw; (try dsimp only at hSw); go_simp; try with_reducible rfl
                  try simp only [Act.put, List.getElem_toArray, List.getElem_cons_succ, List.getElem_cons_zero, List.setIfInBounds_toArray, List.set_cons_zero, List.set_cons_succ]
                  refine wpAnyH_take (i := 21) (v := ?_) rfl (by kernel_rfl) (by kernel_rfl) (by kernel_rfl) (fun _ _ _ h => h) (Or.inl ⟨by rfl, ?_⟩) (by assumption) ?_
                  rotate_left 1
                  · intro w hSw; (try dsimp only at hSw); go_simp; try with_reducible rfl
                  try simp only [Act.put, List.getElem_toArray, List.getElem_cons_succ, List.getElem_cons_zero, List.setIfInBounds_toArray, List.set_cons_zero, List.set_cons_succ]
                  refine wpAnyH_take (i := 22) (v := ?_) rfl (by kernel_rfl) (by kernel_rfl) (by kernel_rfl) (fun _ _ _ h => h) (Or.inl ⟨by rfl, ?_⟩) (by assumption) ?_
                  rotate_left 1
                  · intro w hSw; (try dsimp only at hSw); go_simp; try with_reducible rfl
                  try simp only [Act.put, List.getElem_toArray, List.getElem_cons_succ, List.getElem_cons_zero, List.setIfInBounds_toArray, List.set_cons_zero, List.set_cons_succ]
                  refine wpAnyH_take (i := 23) (v := ?_) rfl (by kernel_rfl) (by kernel_rfl) (by kernel_rfl) (fun _ _ _ h => h) (Or.inl ⟨by rfl, ?_⟩) (by assumption) ?_
                  rotate_left 1
                  · intro w hSw; (try dsimp only at hSw); go_simp; try with_reducible rfl
                  try simp only [Act.put, List.getElem_toArray, List.getElem_cons_succ, List.getElem_cons_zero, List.setIfInBounds_toArray, List.set_cons_zero, List.set_cons_succ]
                  refine wpAnyH_take (i := 24) (v := ?_) rfl (by kernel_rfl) (by kernel_rfl) (by kernel_rfl) (fun _ _ _ h => h) (Or.inl ⟨by rfl, ?_⟩) (by assumption) ?_
                  rotate_left 1
                  · intro w hSw; (try dsimp only at hSw); go_simp; try with_reducible rfl
                  try simp only [Act.put, List.getElem_toArray, List.getElem_cons_succ, List.getElem_cons_zero, List.setIfInBounds_toArray, List.set_cons_zero, List.set_cons_succ]
                  refine wpAnyH_take (i := 25) (v := ?_) rfl (by kernel_rfl) (by kernel_rfl) (by kernel_rfl) (fun _ _ _ h => h) (Or.inl ⟨by rfl, ?_⟩) (by assumption) ?_
                  rotate_left 1
                  · intro w hSw; (try dsimp only at hSw); go_simp; try with_reducible rfl
                  try simp only [Act.put, List.getElem_toArray, List.getElem_cons_succ, List.getElem_cons_zero, List.setIfInBounds_toArray, List.set_cons_zero, List.set_cons_succ]
                  refine wpAnyH_take (i := 26) (v := ?_) rfl (by kernel_rfl) (by kernel_rfl) (by kernel_rfl) (fun _ _ _ h => h) (Or.inl ⟨by rfl, ?_⟩) (by assumption) ?_
                  rotate_left 1
                  · intro w hSw; (try dsimp only at hSw); go_simp; try with_reducible rfl
                  try simp only [Act.put, List.getElem_toArray, List.getElem_cons_succ, List.getElem_cons_zero, List.setIfInBounds_toArray, List.set_cons_zero, List.set_cons_succ]
                  refine wpAnyH_take (i := 27) (v := ?_) rfl (by kernel_rfl) (by kernel_rfl) (by kernel_rfl) (fun _ _ _ h => h) (Or.inl ⟨by rfl, ?_⟩) (by assumption) ?_
                  rotate_left 1
                  · intro w hSw; (try dsimp only at hSw); go_simp; try with_reducible rfl
                  try simp only [Act.put, List.getElem_toArray, List.getElem_cons_succ, List.getElem_cons_zero, List.setIfInBounds_toArray, List.set_cons_zero, List.set_cons_succ]
                  refine wpAnyH_take (i := 28) (v := ?_) rfl (by kernel_rfl) (by kernel_rfl) (by kernel_rfl) (fun _ _ _ h => h) (Or.inl ⟨by rfl, ?_⟩) (by assumption) ?_
                  rotate_left 1
                  · intro w hSw; (try dsimp only at hSw); go_simp; try with_reducible rfl
                  try simp only [Act.put, List.getElem_toArray, List.getElem_cons_succ, List.getElem_cons_zero, List.setIfInBounds_toArray, List.set_cons_zero, List.set_cons_succ]
                  refine wpAnyH_take (i := 29) (v := ?_) rfl (by kernel_rfl) (by kernel_rfl) (by kernel_rfl) (fun _ _ _ h => h) (Or.inl ⟨by rfl, ?_⟩) (by assumption) ?_
                  rotate_left 1
                  · intro w hSw; (try dsimp only at hSw); go_simp; try with_reducible rfl
                  try simp only [Act.put, List.getElem_toArray, List.getElem_cons_succ, List.getElem_cons_zero, List.setIfInBounds_toArray, List.set_cons_zero, List.set_cons_succ]
                  refine wpAnyH_take (i := 30) (v := ?_) rfl (by kernel_rfl) (by kernel_rfl) (by kernel_rfl) (fun _ _ _ h => h) (Or.inl ⟨by rfl, ?_⟩) (by assumption) ?_
                  rotate_left 1
                  · intro w hSw; (try dsimp only at hSw); go_simp; try with_reducible rfl
                  try simp only [Act.put, List.getElem_toArray, List.getElem_cons_succ, List.getElem_cons_zero, List.setIfInBounds_toArray, List.set_cons_zero, List.set_cons_succ]
                  refine wpAnyH_take (i := 31) (v := ?_) rfl (by kernel_rfl) (by kernel_rfl) (by kernel_rfl) (fun _ _ _ h => h) (Or.inl ⟨by rfl, ?_⟩) (by assumption) ?_
                  rotate_left 1
                  · intro w hSw; (try dsimp only at hSw); go_simp; try with_reducible rfl
                  try simp only [Act.put, List.getElem_toArray, List.getElem_cons_succ, List.getElem_cons_zero, List.setIfInBounds_toArray, List.set_cons_zero, List.set_cons_succ]
                  refine wpAnyH_take (i := 32) (v := ?_) rfl (by kernel_rfl) (by kernel_rfl) (by kernel_rfl) (fun _ _ _ h => h) (Or.inl ⟨by rfl, ?_⟩) (by assumption) ?_
                  rotate_left 1
                  · intro w hSw; (try dsimp only at hSw); go_simp; try with_reducible rfl
                  try simp only [Act.put, List.getElem_toArray, List.getElem_cons_succ, List.getElem_cons_zero, List.setIfInBounds_toArray, List.set_cons_zero, List.set_cons_succ]
                  refine wpAnyH_take (i := 33) (v := ?_) rfl (by kernel_rfl) (by kernel_rfl) (by kernel_rfl) (fun _ _ _ h => h) (Or.inl ⟨by rfl, ?_⟩) (by assumption) ?_
                  rotate_left 1
                  · intro w hSw; (try dsimp only at hSw); go_simp; try with_reducible rfl
                  try simp only [Act.put, List.getElem_toArray, List.getElem_cons_succ, List.getElem_cons_zero, List.setIfInBounds_toArray, List.set_cons_zero, List.set_cons_succ]
                  refine wpAnyH_ready (rs := [6]) (by kernel_rfl) (by simp) (AllReadyH.cons rfl (fun K hK => ?_) AllReadyH.nil)
                  go_simp
                  refine hK.out _ _ ⟨hEa.cell i3 hx, hEa.cell k hy⟩ (fun hHeld => ?_)
                  clear hK K
                  try simp only [Act.put, List.getElem_toArray, List.getElem_cons_succ, List.getElem_cons_zero, List.setIfInBounds_toArray, List.set_cons_zero, List.set_cons_succ]
                  refine wpAnyH_ready (rs := [7]) (by kernel_rfl) (by simp) (AllReadyH.cons rfl (fun K hK => ?_) AllReadyH.nil)
                  go_simp
                  refine hK.out _ _ ⟨hEb.cell i3 hx, hEb.cell k hy⟩ (fun hHeld => ?_)
                  clear hK K
                  try simp only [Act.put, List.getElem_toArray, List.getElem_cons_succ, List.getElem_cons_zero, List.setIfInBounds_toArray, List.set_cons_zero, List.set_cons_succ]
                  refine wpAnyH_take (i := 8) (v := ?_) rfl (by kernel_rfl) (by kernel_rfl) (by kernel_rfl) (fun _ _ _ h => h) (Or.inl ⟨by rfl, ?_⟩) (by assumption) ?_
                  rotate_left 1
                  · intro w hSw; (try dsimp only at hSw); go_simp; try with_reducible rfl
                  try simp only [Act.put, List.getElem_toArray, List.getElem_cons_succ, List.getElem_cons_zero, List.setIfInBounds_toArray, List.set_cons_zero, List.set_cons_succ]
                  refine wpAnyH_ready (rs := [34]) (by kernel_rfl) (by simp) (AllReadyH.cons rfl (fun K hK => ?_) AllReadyH.nil)
                  go_simp
                  refine hK.out _ _ ⟨hEc.cell i3 hx, hEc.cell k hy⟩ (fun hHeld => ?_)
                  clear hK K
                  try simp only [Act.put, List.getElem_toArray, List.getElem_cons_succ, List.getElem_cons_zero, List.setIfInBounds_toArray, List.set_cons_zero, List.set_cons_succ]
                  refine wpAnyH_ready (rs := [35]) (by kernel_rfl) (by simp) (AllReadyH.cons rfl (fun K hK => ?_) AllReadyH.nil)
                  go_simp
                  refine (does_walk (some ⟨wb.heap.size + 1, 0, none⟩) 7 7 _ hS (by simp only [maxLen]; omega)).mono ?_
                  rintro e w6 ⟨rfl, hu6⟩
                  dsimp only
                  have hE6 := hEc.upd_nil hu6
                  refine hK.out _ _ ⟨hE6.cell i3 hx, hE6.cell k hy⟩ (fun hHeld => ?_)
                  clear hK K
                  try simp only [Act.put, List.getElem_toArray, List.getElem_cons_succ, List.getElem_cons_zero, List.setIfInBounds_toArray, List.set_cons_zero, List.set_cons_succ]
                  refine wpAnyH_take (i := 36) (v := ?_) rfl (by kernel_rfl) (by kernel_rfl) (by kernel_rfl) (fun _ _ _ h => h) (Or.inl ⟨by rfl, ?_⟩) (by assumption) ?_
                  rotate_left 1
                  · intro w hSw; (try dsimp only at hSw); go_simp; try with_reducible rfl
                  try simp only [Act.put, List.getElem_toArray, List.getElem_cons_succ, List.getElem_cons_zero, List.setIfInBounds_toArray, List.set_cons_zero, List.set_cons_succ]
                  refine wpAnyH_done (by kernel_rfl) ?_ _
                  go_wp2_with fail
                  rw [show ((k : Int) + 1) = ((k + 1 : Nat) : Int) by omega]
                  have dx : decide ((i3 : Int) < 8) = true := decide_eq_true hx8
                  have dk : decide ((k : Int) < 8) = true := decide_eq_true hk8
                  try simp only [dx, dk]
                  refine ⟨?_, by simp [intOf]; omega⟩
                  (repeat apply Exists.intro)
                  exact ⟨⟨k + 1, by omega, rfl, hE6, (hu9.trans_nil uA).trans_nil hu6⟩, rfl⟩
                · go_wp2_with fail
                  exact ⟨⟨i3 + 1, by omega, by go_num, hE, hu9⟩, by simp [intOf]; omega⟩
            · go_wp2_with (go_at_call 15; refine (awake_any _).mono ?_; rintro e w4 ⟨rfl, hu4⟩)
              go_ret
              exact ⟨rfl, hu9.trans_nil hu4⟩

end Go.Proofs.Ytceeekdephgcmaa
