/- mask: Seal that refuses; Open. -/
import Derived.Test.YtppbaahaegmgeaaMkH
namespace Go.Proofs.Ytppbaahaegmgeaa
open Go.RowKit

/-- A nonce's row, in the forms that Seal and Open want. -/
theorem nrow_no (W : World) (a s r : Int) (hns : ¬ NonceOk [a, s, r]) : Calls Try.prog 32 #[.agg #[.int .i64 a, .int .i64 s, .int .i64 r]] W fun e w' => e = .returned (.tuple #[.slice none 0 0, .int .i64 9]) ∧ Upd [] W w' := by
  refine (nrow_walk W a s r).mono ?_
  rintro e w' ⟨_, h2, h3⟩
  exact ⟨h2 hns, h3⟩
theorem nrow_ok (W : World) (a s r : Int) (hns : NonceOk [a, s, r]) (X : List Int) (m : Nat) (hX : rowsI [a, s, r] = X) (hm : X.length = m) : Calls Try.prog 32 #[.agg #[.int .i64 a, .int .i64 s, .int .i64 r]] W fun e w' => ∃ p c, e = .returned (.tuple #[.slice p m c, .int .i64 0]) ∧ ByAt w' p X ∧ m ≤ c ∧ Upd [] W w' := by
  refine (nrow_walk W a s r).mono ?_
  rintro e w' ⟨h1, _, h3⟩
  obtain ⟨p, c, rfl, ho⟩ := h1 hns
  rw [hX] at ho
  obtain ⟨p', c', e, hc', _⟩ := ho.form
  cases e
  exact ⟨p, c, by rw [hX, hm], ho.at_, by rw [← hm]; exact hc', h3⟩
/-- What lies in the boxes of a key and a nonce. -/
theorem boxes2 (w : World) (G : Nat → Int) (a s r : Int) :
    ∃ W1 D, (w.alloc (.cells (row32 G).toArray 23)).alloc (.cells #[.int .i64 a, .int .i64 s, .int .i64 r] 25) = W1 ∧ w.heap.size = D ∧ Upd [] w W1 ∧ Blk W1 D (row32 G) 23 ∧ W1.cell? ⟨D + 1, 0, none⟩ = some (.int .i64 a) ∧ W1.cell? ⟨D + 1, 1, none⟩ = some (.int .i64 s) ∧ W1.cell? ⟨D + 1, 2, none⟩ = some (.int .i64 r) := by
  have hN := Blk.new (w.alloc (.cells (row32 G).toArray 23)) #[.int .i64 a, .int .i64 s, .int .i64 r] 25
  rw [World.size_alloc] at hN
  exact ⟨_, _, rfl, rfl, ((Upd.refl [] w).alloc _).alloc _, Blk.alloc (Blk.new w (row32 G).toArray 23) _, hN.cell 0 rfl, hN.cell 1 rfl, hN.cell 2 rfl⟩

set_option maxRecDepth 100000 in
set_option maxHeartbeats 4000000 in
theorem seal_no (w : World) (G : Nat → Int) (a s r : Int) (hns : ¬ NonceOk [a, s, r]) (p : Option Addr) (n c : Nat) :
    Calls Try.prog 11 #[.agg (row32 G).toArray, .agg #[.int .i64 a, .int .i64 s, .int .i64 r], .slice p n c] w fun e w' => e = .returned (.tuple #[.slice none 0 0, .int .i64 9]) ∧ Upd [] w w' := by
  have hrow := fun W => nrow_no W a s r hns
  obtain ⟨W1, D, hW1, hd, u1, hD, n0, n1, n2⟩ := boxes2 w G a s r
  go_enter Try.func11, Try.ntmps11
  go_upto_region 1 with fail
  clear hW1 hd
  go_wp2_with (go_at_call 32; refine (hrow W1).mono ?_; rintro e w2 ⟨rfl, u2⟩)
  go_ret2
  exact ⟨rfl, u1.trans_nil u2⟩

set_option maxRecDepth 100000 in
set_option maxHeartbeats 4000000 in
theorem seal_big (w : World) (G : Nat → Int) (a s r : Int) (hns : NonceOk [a, s, r]) (p : Option Addr) (n c : Nat) (hn : 65536 < n) :
    Calls Try.prog 11 #[.agg (row32 G).toArray, .agg #[.int .i64 a, .int .i64 s, .int .i64 r], .slice p n c] w fun e w' => e = .returned (.tuple #[.slice none 0 0, .int .i64 5]) ∧ Upd [] w w' := by
  have hrow := fun W => nrow_ok W a s r hns _ _ rfl rfl
  generalize rowsI [a, s, r] = X at *
  have hn' : (65536 : Int) < n := by omega
  obtain ⟨W1, D, hW1, hd, u1, hD, n0, n1, n2⟩ := boxes2 w G a s r
  go_enter Try.func11, Try.ntmps11
  go_upto_region 1 with fail
  clear hW1 hd
  go_wp2_with (go_at_call 32; refine (hrow W1).mono ?_; rintro e w2 ⟨q, d, rfl, hq, hqd, u2⟩)
  go_ret2
  exact ⟨rfl, u1.trans_nil u2⟩

set_option maxRecDepth 100000 in
set_option maxHeartbeats 4000000 in
theorem open_no (w : World) (G : Nat → Int) (a s r : Int) (hns : ¬ NonceOk [a, s, r]) (p : Option Addr) (n c : Nat) (hn : n ≤ 100000000) :
    Calls Try.prog 14 #[.agg (row32 G).toArray, .agg #[.int .i64 a, .int .i64 s, .int .i64 r], .slice p n c] w fun e w' => e = .returned (.tuple #[.slice none 0 0, .int .i64 9]) ∧ Upd [] w w' := by
  have hrow := fun W => nrow_no W a s r hns
  have g1 : (0 : Int) ≤ n := by omega
  have g2 : (n : Int) ≤ 100000000 := by omega
  obtain ⟨W1, D, hW1, hd, u1, hD, n0, n1, n2⟩ := boxes2 w G a s r
  go_enter Try.func14, Try.ntmps14
  go_upto_region 1 with fail
  clear hW1 hd
  go_wp2_with (go_at_call 32; refine (hrow W1).mono ?_; rintro e w2 ⟨rfl, u2⟩)
  go_ret2
  exact ⟨rfl, u1.trans_nil u2⟩

set_option maxRecDepth 100000 in
set_option maxHeartbeats 4000000 in
theorem open_short (w : World) (G : Nat → Int) (a s r : Int) (hns : NonceOk [a, s, r]) (p : Option Addr) (n c : Nat) (hn : n < 16) :
    Calls Try.prog 14 #[.agg (row32 G).toArray, .agg #[.int .i64 a, .int .i64 s, .int .i64 r], .slice p n c] w fun e w' => e = .returned (.tuple #[.slice none 0 0, .int .i64 3]) ∧ Upd [] w w' := by
  have hrow := fun W => nrow_ok W a s r hns _ _ rfl rfl
  generalize rowsI [a, s, r] = X at *
  have g1 : (0 : Int) ≤ n := by omega
  have g2 : (n : Int) < 16 := by omega
  have g3 : (n : Int) - 16 < 0 := by omega
  obtain ⟨W1, D, hW1, hd, u1, hD, n0, n1, n2⟩ := boxes2 w G a s r
  go_enter Try.func14, Try.ntmps14
  go_upto_region 1 with fail
  clear hW1 hd
  go_wp2_with (go_at_call 32; refine (hrow W1).mono ?_; rintro e w2 ⟨q, d, rfl, hq, hqd, u2⟩)
  go_ret2
  exact ⟨rfl, u1.trans_nil u2⟩

set_option maxRecDepth 100000 in
set_option maxHeartbeats 4000000 in
theorem open_big (w : World) (G : Nat → Int) (a s r : Int) (hns : NonceOk [a, s, r]) (p : Option Addr) (n c : Nat) (hn : 65552 < n) (hn2 : n ≤ 100000000) :
    Calls Try.prog 14 #[.agg (row32 G).toArray, .agg #[.int .i64 a, .int .i64 s, .int .i64 r], .slice p n c] w fun e w' => e = .returned (.tuple #[.slice none 0 0, .int .i64 5]) ∧ Upd [] w w' := by
  have hrow := fun W => nrow_ok W a s r hns _ _ rfl rfl
  generalize rowsI [a, s, r] = X at *
  obtain ⟨m, hm⟩ : ∃ m, n = m + 16 := ⟨n - 16, by omega⟩
  have g0 : (n : Int) - 16 = m := by omega
  have g1 : (0 : Int) ≤ m := by omega
  have g2 : (65536 : Int) < m := by omega
  have g4 : (n : Int) ≤ 100000000 := by omega
  clear hm
  obtain ⟨W1, D, hW1, hd, u1, hD, n0, n1, n2⟩ := boxes2 w G a s r
  go_enter Try.func14, Try.ntmps14
  go_upto_region 1 with fail
  clear hW1 hd
  go_wp2_with (go_at_call 32; refine (hrow W1).mono ?_; rintro e w2 ⟨q, d, rfl, hq, hqd, u2⟩)
  go_ret2
  exact ⟨rfl, u1.trans_nil u2⟩

end Go.Proofs.Ytppbaahaegmgeaa
