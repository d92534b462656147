/- For MaskMade: rows of rows, texts, keys compared. -/
import Derived.Test.YtppbaahaegmgeaaMkW
import Derived.Test.YtppbaahaegmgeaaMkR
import Derived.Test.YtppbaahaegmgeaaReg
import Derived.Laws.BytesArg
namespace Go.Proofs.Ytppbaahaegmgeaa
open Go.RowKit

theorem Blk.setRow_ne {w : World} {b c : Nat} {cs : List Value} {T : TypeId} (h : Blk w b cs T) (hn : b ≠ c) (ds : Array Value) : Blk (w.setRow c ds) b cs T :=
  h.upd ((Upd.refl [c] w).setRow (Or.inl (by simp)) ds) (by simpa using hn)

/-- Bytes as a string, of whatever length. -/
theorem bstr_any {w : World} {p : Option Addr} {c k : Nat} {xs : List Int} (hk : xs.length = k) (h : ByAt w p xs) :
    (convert 26 9 (.slice p k c)).run Try.prog w = .ok (.string (strOfNums xs)) w := by
  rcases Nat.eq_zero_or_pos k with h0 | h0
  · subst h0
    obtain rfl : xs = [] := List.eq_nil_of_length_eq_zero hk
    cases p with
    | none => exact run_convert_bytes_nil w 26 5 Try.underlying26 Try.underlying5 0 c _ Try.underlying9
    | some a =>
      rw [run_convert_bytes_string w 26 9 5 _ 0 c Try.underlying26 Try.underlying5 Try.underlying9]
      have hl : (loadCells a 0).run Try.prog w = .ok #[] w := run_loadCells_list (P := Try.prog) w a [] (fun j v hj => by simp at hj)
      simp [Conv.bytesToString, hl]
      rfl
  · exact bstr hk h h0

/-- Rows of a block. -/
theorem rowsB {w : World} {b : Nat} {T : TypeId} (L : List (Option Addr × List Int × Nat)) (h : Blk w b (L.map fun x => .slice x.1 x.2.1.length x.2.2) T) (hL : ∀ x ∈ L, ByAt w x.1 x.2.1 ∧ Rng x.2.1 ∧ x.2.1.length ≤ x.2.2) :
    RowsAt w (some ⟨b, 0, none⟩) (L.map (·.2.1)) := fun i zs hz => by
  rw [List.getElem?_map] at hz
  cases hx : L[i]? with
  | none => rw [hx] at hz; cases hz
  | some x =>
    rw [hx] at hz
    obtain rfl : x.2.1 = zs := by simpa using hz
    obtain ⟨h1, h2, h3⟩ := hL x (List.mem_of_getElem? hx)
    exact ⟨b, 0, x.1, x.2.2, rfl, h.lt, h.cell (0 + i) (by rw [Nat.zero_add, List.getElem?_map, hx]; rfl), h2, h1, h3⟩

set_option maxRecDepth 100000 in
theorem eq_aggK (w : World) (F G : Nat → Int) : (Op.equalIn 10000 23 (.agg (row32 F).toArray) (.agg (row32 G).toArray)).run Try.prog w = .ok (decide (∀ i ∈ List.range 32, F i = G i)) w := by
  obtain ⟨i0, hi⟩ : ∃ i0, Try.prog.info? 5 = some i0 := ⟨_, rfl⟩
  have hc : Try.prog.cellsOf 5 = 1 := by kernel_rfl
  rw [run_equalIn_array (P := Try.prog) w 9999 (row32 F).toArray (row32 G).toArray Try.underlying23 hi, hc, eqItems_u8 w F G (List.range 32) (fun i h => List.mem_range.1 h)]
theorem eq_sameK (w : World) (F : Nat → Int) : (Op.equalIn 10000 23 (.agg (row32 F).toArray) (.agg (row32 F).toArray)).run Try.prog w = .ok true w := by
  rw [eq_aggK]; simp

/-- wax.Of of a block of rows. -/
theorem wax_rows (w : World) (D : Nat) (G : Nat → Int) (hG : RngF G) (T : TypeId) (hD : Blk w D (row32 G) T) (b : Nat) (T' : TypeId) (L : List (Option Addr × List Int × Nat)) (h : Blk w b (L.map fun x => .slice x.1 x.2.1.length x.2.2) T') (hL : ∀ x ∈ L, ByAt w x.1 x.2.1 ∧ Rng x.2.1 ∧ x.2.1.length ≤ x.2.2)
    (hm : L.length ≤ 100) (ht : (L.map (·.2.1)).flatten.length ≤ 100000000) (n : Nat) (hn : L.length = n) (d : Nat) (F : Nat → Int) (hF : mac (keyL G) (L.map (·.2.1)).flatten = F) :
    Calls Try.prog 22 #[.slice (some ⟨D, 0, none⟩) 32 32, .slice (some ⟨b, 0, none⟩) n d] w fun e w' => e = .returned (agg32 F) ∧ Upd [] w w' := by
  subst hn hF
  have := mac_walk w (some ⟨D, 0, none⟩) (keyL G) 32 (row32_bytes hD) (keyL_rng hG) (by rw [keyL_len]; omega) (some ⟨b, 0, none⟩) (L.map (·.2.1)) d (rowsB L h hL) (by rw [List.length_map]; omega) (by omega)
  rw [keyL_len, List.length_map] at this
  exact this

/-- A block of two rows: a byte's own, and one more. -/
def isTwo (c : Int) (x : Value) : Spec3 := .is (fun v w => ∃ b b9, v = .slice (some ⟨b, 0, none⟩) 2 2 ∧ Blk w b [.slice (some ⟨b9, 0, none⟩) 1 1, x] 26 ∧ Blk w b9 [.int .u8 c] 5)
  (fun _ _ _ h u => h.elim fun b h => h.elim fun b9 h => ⟨b, b9, h.1, h.2.1.upd_nil u, h.2.2.upd_nil u⟩)
def isFive (c : Int) (x y z t : Value) : Spec3 := .is (fun v w => ∃ b b9, v = .slice (some ⟨b, 0, none⟩) 5 5 ∧ Blk w b [.slice (some ⟨b9, 0, none⟩) 1 1, x, y, z, t] 26 ∧ Blk w b9 [.int .u8 c] 5)
  (fun _ _ _ h u => h.elim fun b h => h.elim fun b9 h => ⟨b, b9, h.1, h.2.1.upd_nil u, h.2.2.upd_nil u⟩)

theorem wax_two (w : World) (D : Nat) (G : Nat → Int) (hG : RngF G) (T : TypeId) (hD : Blk w D (row32 G) T) (b b9 : Nat) (c : Int) (hc : 0 ≤ c ∧ c ≤ 255) (p : Option Addr) (xs : List Int) (m d : Nat) (h : Blk w b [.slice (some ⟨b9, 0, none⟩) 1 1, .slice p m d] 26) (h9 : Blk w b9 [.int .u8 c] 5)
    (hm : xs.length = m) (hx : ByAt w p xs) (hr : Rng xs) (hd : m ≤ d) (hl : m ≤ 10000000) (F : Nat → Int) (hF : mac (keyL G) (c :: xs) = F) (e : Nat) :
    Calls Try.prog 22 #[.slice (some ⟨D, 0, none⟩) 32 32, .slice (some ⟨b, 0, none⟩) 2 e] w fun e w' => e = .returned (agg32 F) ∧ Upd [] w w' := by
  subst hm
  refine wax_rows w D G hG T hD b 26 [(some ⟨b9, 0, none⟩, [c], 1), (p, xs, d)] h ?_ (by simp) (by simp; omega) 2 rfl e F (by rw [← hF]; simp)
  intro x hx'
  simp only [List.mem_cons, List.not_mem_nil, or_false] at hx'
  rcases hx' with rfl | rfl
  · exact ⟨ByAt.of_blk h9 (byte_at c), rng_one hc, by simp⟩
  · exact ⟨hx, hr, hd⟩

theorem wax_five (w : World) (D : Nat) (G : Nat → Int) (hG : RngF G) (T : TypeId) (hD : Blk w D (row32 G) T) (b b9 : Nat) (c : Int) (hc : 0 ≤ c ∧ c ≤ 255)
    (p1 : Option Addr) (x1 : List Int) (m1 d1 : Nat) (p2 : Option Addr) (x2 : List Int) (m2 d2 : Nat) (p3 : Option Addr) (x3 : List Int) (m3 d3 : Nat) (p4 : Option Addr) (x4 : List Int) (m4 d4 : Nat)
    (h : Blk w b [.slice (some ⟨b9, 0, none⟩) 1 1, .slice p1 m1 d1, .slice p2 m2 d2, .slice p3 m3 d3, .slice p4 m4 d4] 26) (h9 : Blk w b9 [.int .u8 c] 5)
    (hm1 : x1.length = m1) (hx1 : ByAt w p1 x1) (hr1 : Rng x1) (hd1 : m1 ≤ d1) (hm2 : x2.length = m2) (hx2 : ByAt w p2 x2) (hr2 : Rng x2) (hd2 : m2 ≤ d2)
    (hm3 : x3.length = m3) (hx3 : ByAt w p3 x3) (hr3 : Rng x3) (hd3 : m3 ≤ d3) (hm4 : x4.length = m4) (hx4 : ByAt w p4 x4) (hr4 : Rng x4) (hd4 : m4 ≤ d4) (hl : m1 + m2 + m3 + m4 ≤ 10000000)
    (F : Nat → Int) (hF : mac (keyL G) (c :: (x1 ++ (x2 ++ (x3 ++ x4)))) = F) (e : Nat) :
    Calls Try.prog 22 #[.slice (some ⟨D, 0, none⟩) 32 32, .slice (some ⟨b, 0, none⟩) 5 e] w fun e w' => e = .returned (agg32 F) ∧ Upd [] w w' := by
  subst hm1 hm2 hm3 hm4
  refine wax_rows w D G hG T hD b 26 [(some ⟨b9, 0, none⟩, [c], 1), (p1, x1, d1), (p2, x2, d2), (p3, x3, d3), (p4, x4, d4)] h ?_ (by simp) (by simp; omega) 5 rfl e F (by rw [← hF]; simp)
  intro x hx'
  simp only [List.mem_cons, List.not_mem_nil, or_false] at hx'
  rcases hx' with rfl | rfl | rfl | rfl | rfl
  · exact ⟨ByAt.of_blk h9 (byte_at c), rng_one hc, by simp⟩
  · exact ⟨hx1, hr1, hd1⟩
  · exact ⟨hx2, hr2, hd2⟩
  · exact ⟨hx3, hr3, hd3⟩
  · exact ⟨hx4, hr4, hd4⟩

end Go.Proofs.Ytppbaahaegmgeaa
