/- AgentKnown: its walk. -/
import Derived.Test.YtpgilkemcaipiaaAgL
namespace Go.Proofs.Ytpgilkemcaipiaa
open Go.RowKit

/-- A table that is none: nil, or without windows. -/
def NoTab (w : World) (p : Option Addr) : Prop := p = none ∨ ∃ z, p = some ⟨z, 0, none⟩ ∧ Blk w z [.pointer none, .int .i64 0] 65
theorem NoTab.upd {w w' : World} {p : Option Addr} (h : NoTab w p) (u : Upd [] w w') : NoTab w' p := by
  rcases h with h | ⟨z, h1, h2⟩
  · exact .inl h
  · exact .inr ⟨z, h1, h2.upd_nil u⟩

theorem none_yes {p : Option Addr} {w : World} (h : NoTab w p) :
    Calls Try.prog 22 #[.pointer p] w fun e w' => e = .returned (.bool true) ∧ w = w' := by
  rcases h with rfl | ⟨z, rfl, hb⟩
  · go_enter Try.func22, Try.ntmps22
    go_wp2
    go_ret
    exact ⟨rfl, rfl⟩
  · have c0 := hb.cell 0 rfl
    go_enter Try.func22, Try.ntmps22
    go_wp2
    go_ret
    exact ⟨rfl, rfl⟩

theorem ask_none {p : Option Addr} {w : World} (h : NoTab w p) (a s : Int) :
    Calls Try.prog 10 #[.pointer p, .int .i64 a, .int .i64 s] w fun e w' => e = .returned (.tuple #[.int .i64 0, .int .i64 1]) ∧ w = w' := by
  go_enter Try.func10, Try.ntmps10
  go_wp2_with (go_at_call 22; refine (none_yes h).mono ?_; rintro e w' ⟨rfl, rfl⟩)
  go_ret2
  exact ⟨rfl, rfl⟩
theorem done_none {p : Option Addr} {w : World} (h : NoTab w p) (a s : Int) :
    Calls Try.prog 11 #[.pointer p, .int .i64 a, .int .i64 s] w fun e w' => e = .returned (.int .i64 1) ∧ w = w' := by
  go_enter Try.func11, Try.ntmps11
  go_wp2_with (go_at_call 22; refine (none_yes h).mono ?_; rintro e w' ⟨rfl, rfl⟩)
  go_ret
  exact ⟨rfl, rfl⟩
theorem windows_none {p : Option Addr} {w : World} (h : NoTab w p) :
    Calls Try.prog 19 #[.pointer p] w fun e w' => e = .returned (.slice none 0 0) ∧ w = w' := by
  go_enter Try.func19, Try.ntmps19
  go_wp2_with (go_at_call 22; refine (none_yes h).mono ?_; rintro e w' ⟨rfl, rfl⟩)
  go_ret
  exact ⟨rfl, rfl⟩
theorem asked_none {p : Option Addr} {w : World} (h : NoTab w p) :
    Calls Try.prog 21 #[.pointer p] w fun e w' => e = .returned (.int .i64 0) ∧ w = w' := by
  go_enter Try.func21, Try.ntmps21
  go_wp2_with (go_at_call 22; refine (none_yes h).mono ?_; rintro e w' ⟨rfl, rfl⟩)
  go_ret
  exact ⟨rfl, rfl⟩

theorem winsAt_blk {w : World} {b : Nat} {ws : List Win} {cs : List Value} {T : TypeId} (h : Blk w b cs T) (hc : cs = winVals ws) (hf : ∀ v ∈ ws, WinFit v) : WinsAt w w.heap.size (some ⟨b, 0, none⟩) ws := fun i v hv => by
  subst hc
  obtain ⟨a1, a2, a3⟩ := winVals_get ws i v hv
  exact ⟨hf v (List.mem_of_getElem? hv), b, 0, rfl, h.lt, by simpa using h.cell _ a1, by simpa using h.cell _ a2, by simpa using h.cell _ a3⟩

theorem ints3_six {w : World} {b : Nat} {T : TypeId} {k0 a0 s0 k1 a1 s1 k2 a2 s2 k3 a3 s3 k4 a4 s4 k5 a5 s5 : Int} (h : Blk w b [.int .i64 k0, .int .i64 a0, .int .i64 s0, .int .i64 k1, .int .i64 a1, .int .i64 s1, .int .i64 k2, .int .i64 a2, .int .i64 s2, .int .i64 k3, .int .i64 a3, .int .i64 s3, .int .i64 k4, .int .i64 a4, .int .i64 s4, .int .i64 k5, .int .i64 a5, .int .i64 s5] T)
    (hb : ∀ x ∈ [k0, a0, s0, k1, a1, s1, k2, a2, s2, k3, a3, s3, k4, a4, s4, k5, a5, s5], -9223372036854775808 ≤ x ∧ x ≤ 9223372036854775807) : Ints3 w w.heap.size (some ⟨b, 0, none⟩) 6 := by
  intro i hi
  match i, hi with
  | 0, _ => exact ⟨b, 0, k0, a0, s0, rfl, h.lt, h.cell 0 rfl, h.cell 1 rfl, h.cell 2 rfl, hb _ (by simp), hb _ (by simp), hb _ (by simp)⟩
  | 1, _ => exact ⟨b, 0, k1, a1, s1, rfl, h.lt, h.cell 3 rfl, h.cell 4 rfl, h.cell 5 rfl, hb _ (by simp), hb _ (by simp), hb _ (by simp)⟩
  | 2, _ => exact ⟨b, 0, k2, a2, s2, rfl, h.lt, h.cell 6 rfl, h.cell 7 rfl, h.cell 8 rfl, hb _ (by simp), hb _ (by simp), hb _ (by simp)⟩
  | 3, _ => exact ⟨b, 0, k3, a3, s3, rfl, h.lt, h.cell 9 rfl, h.cell 10 rfl, h.cell 11 rfl, hb _ (by simp), hb _ (by simp), hb _ (by simp)⟩
  | 4, _ => exact ⟨b, 0, k4, a4, s4, rfl, h.lt, h.cell 12 rfl, h.cell 13 rfl, h.cell 14 rfl, hb _ (by simp), hb _ (by simp), hb _ (by simp)⟩
  | 5, _ => exact ⟨b, 0, k5, a5, s5, rfl, h.lt, h.cell 15 rfl, h.cell 16 rfl, h.cell 17 rfl, hb _ (by simp), hb _ (by simp), hb _ (by simp)⟩

def endsL : List Int := [-1, 0, 1, 2, 16, 17, 32, 33, 34, 9007199254740959, 9007199254740991, 9007199254740992]
theorem endsL_at (i : Nat) (hi : i < 12) : ∃ x, endsL[i]? = some x ∧ (ints endsL)[i]? = some (.int .i64 x) ∧ -1 ≤ x ∧ x ≤ 9007199254740992 := by
  match i, hi with
  | 0, _ | 1, _ | 2, _ | 3, _ | 4, _ | 5, _ | 6, _ | 7, _ | 8, _ | 9, _ | 10, _ | 11, _ => exact ⟨_, rfl, rfl, by omega, by omega⟩
def bitsL : List Int := [0, 1, 3, 2147483648, 2147483649, 4294967295]
theorem bitsL_at (i : Nat) (hi : i < 6) : ∃ x, (bitsL.map (Value.int .u32))[i]? = some (.int .u32 x) ∧ 0 ≤ x ∧ x ≤ 4294967295 := by
  match i, hi with
  | 0, _ | 1, _ | 2, _ | 3, _ | 4, _ | 5, _ => exact ⟨_, rfl, by omega, by omega⟩

set_option maxHeartbeats 8000000 in
set_option maxRecDepth 100000 in
theorem known_walk (w : World) :
    Calls Try.prog 7 #[] w fun e w' => e = .returned (.bool true) ∧ Upd [] w w' := by
  go_enter Try.func7, Try.ntmps7
  go_wp2_with fail
  go_loopw [1, 2] (fun pv iv wr => ∃ (i : Nat) (p : Option Addr), i ≤ 2 ∧ iv = .int .i64 i ∧ pv = .pointer p ∧ NoTab wr p ∧ Upd [] w wr) (fun _ iv _ => 2 - (intOf iv).toNat)
  case atStart => exact ⟨0, none, by omega, rfl, rfl, .inl rfl, Upd.refl _ _⟩
  case round =>
    obtain ⟨i, p, hi, rfl, rfl, hp, hu⟩ := hrel
    by_cases hlt : i < 2
    · go_wp2_with (first
        | (go_at_call 10; refine (ask_none hp 1 1).mono ?_; rintro e w' ⟨rfl, rfl⟩)
        | (go_at_call 11; refine (done_none hp 1 1).mono ?_; rintro e w' ⟨rfl, rfl⟩)
        | (go_at_call 19; refine (windows_none hp).mono ?_; rintro e w' ⟨rfl, rfl⟩)
        | (go_at_call 21; refine (asked_none hp).mono ?_; rintro e w' ⟨rfl, rfl⟩))
      exact ⟨⟨i + 1, _, by omega, by go_num, rfl, .inr ⟨wr.heap.size, rfl, (by simpa using Blk.new wr #[.pointer none, .int .i64 0] _)⟩, hu.alloc _⟩, by simp [intOf]; omega⟩
    · obtain ⟨w1, rfl⟩ : ∃ w1, w1 = wr := ⟨_, rfl⟩
      go_wp2_with fail
      have hE : Blk (w1.alloc (.cells (ints endsL).toArray 3)) w1.heap.size (ints endsL) 3 := by simpa using Blk.new w1 (ints endsL).toArray 3
      have hsz := hu.size
      go_loopw [6] (fun iv wr => ∃ i : Nat, i ≤ 12 ∧ iv = .int .i64 i ∧ Blk wr w1.heap.size (ints endsL) 3 ∧ Upd [] w wr) (fun iv _ => 12 - (intOf iv).toNat)
      case atStart => exact ⟨0, by omega, rfl, hE, hu.alloc _⟩
      case round =>
        clear hE hp hu
        obtain ⟨i, hi, rfl, hE, hu⟩ := hrel
        by_cases hi12 : i < 12
        · obtain ⟨x, hx0, hx, x1, x2⟩ := endsL_at i hi12
          go_wp2_with fail
          go_loopw [7] (fun iv wr => ∃ k : Nat, k ≤ 12 ∧ iv = .int .i64 k ∧ Blk wr w1.heap.size (ints endsL) 3 ∧ Upd [] w wr) (fun iv _ => 12 - (intOf iv).toNat)
          case atStart => exact ⟨0, by omega, rfl, hE, hu⟩
          case round =>
            clear hE hu
            obtain ⟨k, hk, rfl, hE, hu⟩ := hrel
            by_cases hk12 : k < 12
            · obtain ⟨y, hy0, hy, y1, y2⟩ := endsL_at k hk12
              have cx := hE.cell i hx
              have cy := hE.cell k hy
              have hE1 := hE.lt
              obtain ⟨w2, rfl⟩ : ∃ w2, w2 = wr := ⟨_, rfl⟩
              go_wp2_with fail
              go_still_tail 38, (by kernel_rfl)
              change wpList _ _ _ _ _ w2.drew
              go_wp2_with fail
              have uA : Upd [] w2 ((w2.alloc (.cells #[.int .i64 1, .int .i64 x, .int .i64 y, .int .i64 0, .int .i64 x, .int .i64 y, .int .i64 0, .int .i64 1, .int .i64 x, .int .i64 1, .int .i64 1, .int .i64 x, .int .i64 0, .int .i64 1, .int .i64 y, .int .i64 1, .int .i64 1, .int .i64 y] 35)).alloc (.cells #[.int .u32 0, .int .u32 1, .int .u32 3, .int .u32 2147483648, .int .u32 2147483649, .int .u32 4294967295] 46)).drew := (((Upd.refl [] _).alloc _).alloc _).drew
              have hD := ((Blk.new w2 #[.int .i64 1, .int .i64 x, .int .i64 y, .int .i64 0, .int .i64 x, .int .i64 y, .int .i64 0, .int .i64 1, .int .i64 x, .int .i64 1, .int .i64 1, .int .i64 x, .int .i64 0, .int .i64 1, .int .i64 y, .int .i64 1, .int .i64 1, .int .i64 y] 35).alloc (.cells #[.int .u32 0, .int .u32 1, .int .u32 3, .int .u32 2147483648, .int .u32 2147483649, .int .u32 4294967295] 46)).drew
              have hBt := (Blk.new (w2.alloc (.cells #[.int .i64 1, .int .i64 x, .int .i64 y, .int .i64 0, .int .i64 x, .int .i64 y, .int .i64 0, .int .i64 1, .int .i64 x, .int .i64 1, .int .i64 1, .int .i64 x, .int .i64 0, .int .i64 1, .int .i64 y, .int .i64 1, .int .i64 1, .int .i64 y] 35)) #[.int .u32 0, .int .u32 1, .int .u32 3, .int .u32 2147483648, .int .u32 2147483649, .int .u32 4294967295] 46).drew
              rw [show (w2.alloc (.cells #[.int .i64 1, .int .i64 x, .int .i64 y, .int .i64 0, .int .i64 x, .int .i64 y, .int .i64 0, .int .i64 1, .int .i64 x, .int .i64 1, .int .i64 1, .int .i64 x, .int .i64 0, .int .i64 1, .int .i64 y, .int .i64 1, .int .i64 1, .int .i64 y] 35)).heap.size = w2.heap.size + 1 by simp] at hBt
              have hE3 := hE.upd_nil uA
              have hu3 := hu.trans_nil uA
              go_loopw [10] (fun nv wr => ∃ n : Nat, n ≤ 6 ∧ nv = .int .i64 n ∧ Blk wr w1.heap.size (ints endsL) 3 ∧
                  Blk wr w2.heap.size [.int .i64 1, .int .i64 x, .int .i64 y, .int .i64 0, .int .i64 x, .int .i64 y, .int .i64 0, .int .i64 1, .int .i64 x, .int .i64 1, .int .i64 1, .int .i64 x, .int .i64 0, .int .i64 1, .int .i64 y, .int .i64 1, .int .i64 1, .int .i64 y] 35 ∧
                  Blk wr (w2.heap.size + 1) (bitsL.map (Value.int .u32)) 46 ∧ Upd [] w wr) (fun nv _ => 6 - (intOf nv).toNat)
              case atStart => exact ⟨0, by omega, rfl, hE3, hD, hBt, hu3⟩
              case round =>
                clear hE3 hD hBt hu3 uA hE hu cx cy
                obtain ⟨n, hn, rfl, hE, hD, hBt, hu⟩ := hrel
                have cx := hE.cell i hx
                have cy := hE.cell k hy
                have lE := hE.lt
                have lD := hD.lt
                have lB := hBt.lt
                obtain ⟨w5, rfl⟩ : ∃ w5, w5 = wr := ⟨_, rfl⟩
                by_cases hn6 : n < 6
                · obtain ⟨z, hz, z1, z2⟩ := bitsL_at n hn6
                  have cz := hBt.cell n hz
                  have hI : (0 : Int) ≤ (i : Int) ∧ (i : Int) < 12 ∧ (0 : Int) ≤ (k : Int) ∧ (k : Int) < 12 ∧ (0 : Int) ≤ (n : Int) ∧ (n : Int) < 6 := by omega
                  obtain ⟨i1, i2, i3, i4, i5, i6⟩ := hI
                  have uN : Upd [] w5 (w5.alloc (.cells #[.int .i64 x, .int .i64 y, .int .u32 z] 67)) := (Upd.refl [] _).alloc _
                  have hN := Blk.new w5 #[.int .i64 x, .int .i64 y, .int .u32 z] 67
                  have hW : WinsAt (w5.alloc (.cells #[.int .i64 x, .int .i64 y, .int .u32 z] 67)).drew (w5.alloc (.cells #[.int .i64 x, .int .i64 y, .int .u32 z] 67)).drew.heap.size (some ⟨w5.heap.size, 0, none⟩) [⟨x, y, z⟩] :=
                    winsAt_blk hN.drew rfl (by intro v hv; simp at hv; subst hv; exact ⟨by dsimp only; omega, by dsimp only; omega, by dsimp only; omega, by dsimp only; omega, z1, z2⟩)
                  have hD6 : Ints3 (w5.alloc (.cells #[.int .i64 x, .int .i64 y, .int .u32 z] 67)).drew (w5.alloc (.cells #[.int .i64 x, .int .i64 y, .int .u32 z] 67)).drew.heap.size (some ⟨w2.heap.size, 0, none⟩) 6 :=
                    ints3_six ((hD.alloc _).drew) (by intro q hq; simp at hq; omega)
                  go_wp2_with fail
                  go_region_held3 (fun w' => w'.cell? ⟨w1.heap.size, i, none⟩ = some (.int .i64 x) ∧ w'.cell? ⟨w1.heap.size, k, none⟩ = some (.int .i64 y) ∧ w'.cell? ⟨w2.heap.size + 1, n, none⟩ = some (.int .u32 z)) (go_keep)
                    ((go_at_call 5; go_must (refine (does_walk (some ⟨w5.heap.size, 0, none⟩) 1 [⟨x, y, z⟩] (some ⟨w2.heap.size, 0, none⟩) 6 6 _ hW (by simp) hD6 (by simp [maxLen])).mono ?_); rintro e w6 ⟨rfl, hu6⟩; have hE6 := ((hE.alloc _).drew).upd_nil hu6; have hB6 := ((hBt.alloc _).drew).upd_nil hu6; have k0 := hE6.cell i hx; have k1 := hE6.cell k hy; have k2 := hB6.cell n hz))
                  go_wp2_with fail
                  exact ⟨⟨n + 1, by omega, by go_num, hE6, ((hD.alloc _).drew).upd_nil hu6, hB6, (hu.trans_nil uN.drew).trans_nil hu6⟩, by simp [intOf]; omega⟩
                · go_wp2_with fail
                  refine (does_walk none 0 [] (some ⟨w2.heap.size, 0, none⟩) 6 6 _ (fun i v h => by simp at h) (by simp) (ints3_six hD (by intro q hq; simp at hq; omega)) (by simp [maxLen])).mono ?_
                  rintro e w6 ⟨rfl, hu6⟩
                  go_wp2_with fail
                  have hE6 := hE.upd_nil hu6
                  have hu7 := hu.trans_nil hu6
                  clear hE hD hBt hu hu6 cx cy
                  have ek : ((k : Int) + 1) = ((k + 1 : Nat) : Int) := by omega
                  try rw [ek]
                  have ed : decide ((i : Int) < 12) = true := decide_eq_true (by omega)
                  try rw [ed]
                  first
                    | exact ⟨⟨k + 1, by omega, by go_num, hE6, hu7⟩, by simp [intOf]; omega⟩
                    | ((repeat apply Exists.intro); exact ⟨⟨⟨k + 1, by omega, by go_num, hE6, hu7⟩, by simp [intOf]; omega⟩, rfl⟩)
                    | ((repeat apply Exists.intro); exact ⟨⟨k + 1, by omega, by go_num, hE6, hu7⟩, rfl⟩)
                    | (refine ⟨?_, by simp [intOf]; omega⟩; (repeat apply Exists.intro); exact ⟨⟨k + 1, by omega, by go_num, hE6, hu7⟩, rfl⟩)
            · go_wp2_with fail
              exact ⟨⟨i + 1, by omega, by go_num, hE, hu⟩, by simp [intOf]; omega⟩
        · obtain ⟨w5, rfl⟩ : ∃ w5, w5 = wr := ⟨_, rfl⟩
          go_wp2_with fail
          have hO := (Blk.new w5 #[.int .i64 1, .int .i64 5, .int .u32 1] 67).alloc (.cells #[.int .i64 2, .int .i64 5, .int .u32 9] 67)
          have hT := Blk.new (w5.alloc (.cells #[.int .i64 1, .int .i64 5, .int .u32 1] 67)) #[.int .i64 2, .int .i64 5, .int .u32 9] 67
          rw [show (w5.alloc (.cells #[.int .i64 1, .int .i64 5, .int .u32 1] 67)).heap.size = w5.heap.size + 1 by simp] at hT
          have fO : WinFit ⟨1, 5, 1⟩ := ⟨by decide, by decide, by decide, by decide, by decide, by decide⟩
          have fT : WinFit ⟨2, 5, 9⟩ := ⟨by decide, by decide, by decide, by decide, by decide, by decide⟩
          have u5 := (hu.alloc (.cells #[.int .i64 1, .int .i64 5, .int .u32 1] 67)).alloc (.cells #[.int .i64 2, .int .i64 5, .int .u32 9] 67)
          refine (awake_true _).mono ?_
          rintro e w6 ⟨rfl, hu6⟩
          have hO6 := hO.upd_nil hu6
          have hT6 := hT.upd_nil hu6
          have o0 := hO6.cell 0 rfl
          have o1 := hO6.cell 1 rfl
          have o2 := hO6.cell 2 rfl
          have t0 := hT6.cell 0 rfl
          have t1 := hT6.cell 1 rfl
          have t2 := hT6.cell 2 rfl
          go_wp2_with fail
          refine (does_walk (some ⟨w6.heap.size, 0, none⟩) 2 [⟨1, 5, 1⟩, ⟨2, 5, 9⟩] none 0 0 _ (winsAt_blk (Blk.new w6 _ _) rfl (by intro v hv; simp at hv; rcases hv with rfl | rfl <;> first | exact fO | exact fT)) (by simp) (fun i hi => by omega) (by simp [maxLen])).mono ?_
          rintro e w7 ⟨rfl, hu7⟩
          have hO7 := (hO6.alloc (.cells #[.int .i64 1, .int .i64 5, .int .u32 1, .int .i64 2, .int .i64 5, .int .u32 9] 67)).upd_nil hu7
          have hT7 := (hT6.alloc (.cells #[.int .i64 1, .int .i64 5, .int .u32 1, .int .i64 2, .int .i64 5, .int .u32 9] 67)).upd_nil hu7
          have u7 := ((u5.trans_nil hu6).alloc (.cells #[.int .i64 1, .int .i64 5, .int .u32 1, .int .i64 2, .int .i64 5, .int .u32 9] 67)).trans_nil hu7
          clear o0 o1 o2 t0 t1 t2 hO6 hT6 hO hT
          have o0 := hO7.cell 0 rfl
          have o1 := hO7.cell 1 rfl
          have o2 := hO7.cell 2 rfl
          have t0 := hT7.cell 0 rfl
          have t1 := hT7.cell 1 rfl
          have t2 := hT7.cell 2 rfl
          go_wp2_with fail
          refine (does_walk (some ⟨w7.heap.size, 0, none⟩) 2 [⟨2, 5, 9⟩, ⟨1, 5, 1⟩] none 0 0 _ (winsAt_blk (Blk.new w7 _ _) rfl (by intro v hv; simp at hv; rcases hv with rfl | rfl <;> first | exact fO | exact fT)) (by simp) (fun i hi => by omega) (by simp [maxLen])).mono ?_
          rintro e w8 ⟨rfl, hu8⟩
          have hO8 := (hO7.alloc (.cells #[.int .i64 2, .int .i64 5, .int .u32 9, .int .i64 1, .int .i64 5, .int .u32 1] 67)).upd_nil hu8
          have u8 := (u7.alloc (.cells #[.int .i64 2, .int .i64 5, .int .u32 9, .int .i64 1, .int .i64 5, .int .u32 1] 67)).trans_nil hu8
          clear o0 o1 o2 t0 t1 t2 hO7 hT7
          have o0 := hO8.cell 0 rfl
          have o1 := hO8.cell 1 rfl
          have o2 := hO8.cell 2 rfl
          go_wp2_with fail
          refine (does_walk (some ⟨w8.heap.size, 0, none⟩) 2 [⟨1, 5, 1⟩, ⟨1, 5, 1⟩] none 0 0 _ (winsAt_blk (Blk.new w8 _ _) rfl (by intro v hv; simp at hv; subst hv; exact fO)) (by simp) (fun i hi => by omega) (by simp [maxLen])).mono ?_
          rintro e w9 ⟨rfl, hu9⟩
          go_wp2_with fail
          go_ret
          exact ⟨rfl, (u8.alloc _).trans_nil hu9⟩

end Go.Proofs.Ytpgilkemcaipiaa
