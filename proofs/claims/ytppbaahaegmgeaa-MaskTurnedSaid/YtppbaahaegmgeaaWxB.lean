/- HMAC in plain words. -/
import Derived.Test.YtppbaahaegmgeaaWxA
namespace Go.Proofs.Ytppbaahaegmgeaa
open Go.RowKit

/-- A digest as a list. -/
def dig (xs : List Int) : List Int := (List.range 32).map (sha xs)
theorem dig_len (xs : List Int) : (dig xs).length = 32 := by simp [dig]
theorem sha_bd (l : List Int) (i : Nat) : 0 ≤ sha l i ∧ sha l i ≤ 255 := by
  unfold sha digB
  omega
theorem dig_rng (xs : List Int) : Rng (dig xs) := fun x hx => by
  obtain ⟨i, _, rfl⟩ := List.mem_map.1 hx
  exact sha_bd xs i
theorem row32_bytes {w : World} {b : Nat} {f : Nat → Int} {T : TypeId} (h : Blk w b (row32 f) T) : ByAt w (some ⟨b, 0, none⟩) ((List.range 32).map f) :=
  ByAt.of_blk h (fun i x hx => by
    rw [List.getElem?_map] at hx
    have hi : i < 32 := by
      rcases Nat.lt_or_ge i 32 with h | h
      · exact h
      · rw [List.getElem?_eq_none (by simpa using h)] at hx; cases hx
    rw [List.getElem?_range hi] at hx
    cases hx
    rw [Nat.zero_add]; exact row_get _ hi)

/-- The key that is used: a long one's digest. -/
def keyOf (ks : List Int) : List Int := if 64 < ks.length then dig ks else ks
theorem keyOf_len (ks : List Int) : (keyOf ks).length ≤ 64 := by
  unfold keyOf
  split
  · rw [dig_len]; omega
  · omega
theorem keyOf_rng {ks : List Int} (h : Rng ks) : Rng (keyOf ks) := by
  unfold keyOf
  split
  · exact dig_rng ks
  · exact h
/-- A MAC, of bytes. -/
def mac (ks ms : List Int) : Nat → Int := sha (padKey (keyOf ks) 92 ++ dig (padKey (keyOf ks) 54 ++ ms))

theorem mac_dig {ks ms : List Int} (h : 64 < ks.length) : mac (dig ks) ms = mac ks ms := by
  have e : keyOf (dig ks) = keyOf ks := by
    unfold keyOf
    rw [if_pos h, if_neg (by rw [dig_len]; omega)]
  unfold mac
  rw [e]
theorem padKey_zeros (ks : List Int) (n : Nat) (add : Int) : padKey (ks ++ List.replicate n 0) add = padKey ks add := by
  unfold padKey
  congr 1
  funext i
  unfold keyB
  congr 1
  rw [List.getD_eq_getElem?_getD, List.getD_eq_getElem?_getD]
  by_cases h : i < ks.length
  · rw [List.getElem?_append_left h]
  · rw [List.getElem?_append_right (by omega), List.getElem?_eq_none (l := ks) (by omega), List.getElem?_replicate]
    split <;> rfl
theorem mac_zeros {ks ms : List Int} {n : Nat} (h : ks.length + n ≤ 64) : mac (ks ++ List.replicate n 0) ms = mac ks ms := by
  have e : keyOf (ks ++ List.replicate n 0) = ks ++ List.replicate n 0 := by
    unfold keyOf
    rw [if_neg (by rw [List.length_append, List.length_replicate]; omega)]
  have e2 : keyOf ks = ks := by
    unfold keyOf
    rw [if_neg (by omega)]
  unfold mac
  rw [e, e2, padKey_zeros, padKey_zeros]

/-- Rows of bytes in memory, one after another. -/
def RowsAt (w : World) (q : Option Addr) (xss : List (List Int)) : Prop :=
  ∀ i xs, xss[i]? = some xs → ∃ b off dp dc, q = some ⟨b, off, none⟩ ∧ b < w.heap.size ∧ w.cell? ⟨b, off + i, none⟩ = some (.slice dp xs.length dc) ∧ Rng xs ∧ ByAt w dp xs ∧ xs.length ≤ dc
theorem RowsAt.nil (w : World) (q : Option Addr) : RowsAt w q [] := fun i xs h => by simp at h
theorem RowsAt.upd {w w' : World} {q : Option Addr} {xss : List (List Int)} (h : RowsAt w q xss) (u : Upd [] w w') : RowsAt w' q xss := fun i xs hx => by
  obtain ⟨b, off, dp, dc, h1, h2, h3, h4, h5, h6⟩ := h i xs hx
  exact ⟨b, off, dp, dc, h1, Nat.lt_of_lt_of_le h2 u.size, (u.cell (a := ⟨b, off + i, none⟩) h2 (by simp)).trans h3, h4, h5.upd_nil u, h6⟩

end Go.Proofs.Ytppbaahaegmgeaa
