/- wax: the chapter's example. -/
import Derived.Test.YtclfmgkomkmbjaaDoorWxM
import Derived.Test.YtclfmgkomkmbjaaDoorWxD
namespace Go.Proofs.YtclfmgkomkmbjaaDoor
open Go.RowKit

theorem rows2 {w : World} {b : Nat} {T : TypeId} {p1 p2 : Option Addr} {xs ys : List Int} {c1 c2 : Nat} (h : Blk w b [.slice p1 xs.length c1, .slice p2 ys.length c2] T) (h1 : ByAt w p1 xs) (r1 : Rng xs) (l1 : xs.length ≤ c1) (h2 : ByAt w p2 ys) (r2 : Rng ys) (l2 : ys.length ≤ c2) :
    RowsAt w (some ⟨b, 0, none⟩) [xs, ys] := fun i zs hz => by
  match i, hz with
  | 0, hz => obtain rfl : xs = zs := by simpa using hz
             exact ⟨b, 0, p1, c1, rfl, h.lt, h.cell 0 rfl, r1, h1, l1⟩
  | 1, hz => obtain rfl : ys = zs := by simpa using hz
             exact ⟨b, 0, p2, c2, rfl, h.lt, h.cell 1 rfl, r2, h2, l2⟩
  | i + 2, hz => simp at hz
theorem rows1 {w : World} {b : Nat} {T : TypeId} {p1 : Option Addr} {xs : List Int} {c1 : Nat} (h : Blk w b [.slice p1 xs.length c1] T) (h1 : ByAt w p1 xs) (r1 : Rng xs) (l1 : xs.length ≤ c1) :
    RowsAt w (some ⟨b, 0, none⟩) [xs] := fun i zs hz => by
  match i, hz with
  | 0, hz => obtain rfl : xs = zs := by simpa using hz
             exact ⟨b, 0, p1, c1, rfl, h.lt, h.cell 0 rfl, r1, h1, l1⟩
  | i + 1, hz => simp at hz

def wk : List Int := [107, 101, 121]
def wm1 : List Int := [84, 104, 101, 32, 113, 117, 105, 99, 107, 32, 98, 114, 111, 119, 110, 32, 102, 111, 120, 32]
def wm2 : List Int := [106, 117, 109, 112, 115, 32, 111, 118, 101, 114, 32, 116, 104, 101, 32, 108, 97, 122, 121, 32, 100, 111, 103]

theorem mac_w (w : World) (p q r : Option Addr) (b : Nat) (hk : ByAt w p wk) (h1 : ByAt w q wm1) (h2 : ByAt w r wm2) (T : TypeId) (h : Blk w b [.slice q 20 20, .slice r 23 23] T) :
    Calls Tryd.prog 9 #[.slice p 3 3, .slice (some ⟨b, 0, none⟩) 2 2] w fun e w' => e = .returned (agg32 (mac (toI Kw) (toI Mw))) ∧ Upd [] w w' :=
  mac_walk w p wk 3 hk (rng_toI Kw (by decide)) (by decide) (some ⟨b, 0, none⟩) [wm1, wm2] 2 (rows2 h h1 (rng_toI (Mw.take 20) (by decide)) (by decide) h2 (rng_toI (Mw.drop 20) (by decide)) (by decide)) (by decide) (by decide)
theorem hex_w (w : World) (h : w.cell? ⟨3, 15, none⟩ = some (.int .u8 4)) :
    Calls Tryd.prog 17 #[agg32 (mac (toI Kw) (toI Mw))] w fun e w' => e = .returned (.string Tw) ∧ Upd [] w w' := by
  rw [← hexw]; exact hex_walk w _ (mac_bd _ _) h

set_option maxRecDepth 100000 in
set_option maxHeartbeats 4000000 in
theorem works_walk (w : World) (h : w.cell? ⟨3, 15, none⟩ = some (.int .u8 4)) :
    Calls Tryd.prog 8 #[] w fun e w' => e = .returned (.bool true) ∧ Upd [] w w' := by
  have hlt : 3 < w.heap.size := lt_of_cell h
  have hh := hex_w
  have hm := mac_w
  generalize agg32 (mac (toI Kw) (toI Mw)) = v0 at hh hm
  unfold Tw at hh
  go_enter Tryd.func8, Tryd.ntmps8
  go_wp2_with fail
  obtain ⟨W1, e10, a1, u1⟩ := kconv2 w wk
  have e1 : (convert 22 22 (.slice (some ⟨w.heap.size, 0, none⟩) 3 3)).run Tryd.prog (w.alloc (.cells #[.int .u8 107, .int .u8 101, .int .u8 121] 5)) = .ok (.slice (some ⟨w.heap.size, 0, none⟩) 3 3) W1 := e10
  rw [e1]
  clear e1 e10
  obtain ⟨qW1, hqW1⟩ : ∃ q, w.heap.size = q := ⟨_, rfl⟩
  rw [hqW1] at a1 ⊢
  clear hqW1
  go_wp2_with fail
  obtain ⟨W2, e20, a2, u2⟩ := kconv2 W1 wm1
  have e2 : (convert 22 22 (.slice (some ⟨W1.heap.size, 0, none⟩) 20 20)).run Tryd.prog (W1.alloc (.cells #[.int .u8 84, .int .u8 104, .int .u8 101, .int .u8 32, .int .u8 113, .int .u8 117, .int .u8 105, .int .u8 99, .int .u8 107, .int .u8 32, .int .u8 98, .int .u8 114, .int .u8 111, .int .u8 119, .int .u8 110, .int .u8 32, .int .u8 102, .int .u8 111, .int .u8 120, .int .u8 32] 5)) = .ok (.slice (some ⟨W1.heap.size, 0, none⟩) 20 20) W2 := e20
  rw [e2]
  clear e2 e20
  obtain ⟨qW2, hqW2⟩ : ∃ q, W1.heap.size = q := ⟨_, rfl⟩
  rw [hqW2] at a2 ⊢
  clear hqW2
  go_wp2_with fail
  obtain ⟨W3, e30, a3, u3⟩ := kconv2 W2 wm2
  have e3 : (convert 22 22 (.slice (some ⟨W2.heap.size, 0, none⟩) 23 23)).run Tryd.prog (W2.alloc (.cells #[.int .u8 106, .int .u8 117, .int .u8 109, .int .u8 112, .int .u8 115, .int .u8 32, .int .u8 111, .int .u8 118, .int .u8 101, .int .u8 114, .int .u8 32, .int .u8 116, .int .u8 104, .int .u8 101, .int .u8 32, .int .u8 108, .int .u8 97, .int .u8 122, .int .u8 121, .int .u8 32, .int .u8 100, .int .u8 111, .int .u8 103] 5)) = .ok (.slice (some ⟨W2.heap.size, 0, none⟩) 23 23) W3 := e30
  rw [e3]
  clear e3 e30
  obtain ⟨qW3, hqW3⟩ : ∃ q, W2.heap.size = q := ⟨_, rfl⟩
  rw [hqW3] at a3 ⊢
  clear hqW3
  have u4 := ((u1.trans_nil u2).trans_nil u3)
  have b1 := (a1.upd_nil u2).upd_nil u3
  have b2 := a2.upd_nil u3
  clear u1 u2 u3 a1 a2
  have hB := Blk.new W3 #[.slice (some ⟨qW2, 0, none⟩) 20 20, .slice (some ⟨qW3, 0, none⟩) 23 23] 22
  have uB := (Upd.refl [] W3).alloc (.cells #[.slice (some ⟨qW2, 0, none⟩) 20 20, .slice (some ⟨qW3, 0, none⟩) 23 23] 22)
  have hm2 := hm _ _ _ _ _ (b1.upd_nil uB) (b2.upd_nil uB) (a3.upd_nil uB) _ hB
  have u5 := u4.trans_nil uB
  clear uB hB b1 b2 a3 u4 hm
  go_wp2_with (first
    | (go_at_call 9; refine hm2.mono ?_; rintro e w4 ⟨rfl, v4⟩; have t4 := u5.trans_nil v4; have h4 := (t4.cell hlt (by simp)).trans h)
    | (go_at_call 17; refine (hh _ h4).mono ?_; rintro e w5 ⟨rfl, v5⟩))
  go_ret
  exact ⟨rfl, t4.trans_nil v5⟩

end Go.Proofs.YtclfmgkomkmbjaaDoor
