/- A mark of bytes; a mark's bytes; one key compared with itself. -/
import Derived.Test.YtppbaahaegmgeaaMkX
namespace Go.Proofs.Ytppbaahaegmgeaa
open Go.RowKit

theorem bytes_strOf {xs : List Int} (hr : Rng xs) : (strOfNums xs).data.toList.map (fun b => (b.toNat : Int)) = xs := by
  rw [strOfNums_data, List.map_map]
  calc xs.map ((fun b : UInt8 => (b.toNat : Int)) ∘ fun n : Int => UInt8.ofNat n.toNat) = xs.map id := List.map_congr_left (fun x hx => by
        obtain ⟨h0, h1⟩ := hr x hx
        have h2 : x.toNat < 256 := by omega
        simp only [Function.comp_apply, id_eq, UInt8.toNat_ofNat']
        omega)
    _ = xs := List.map_id xs

theorem strOf_ne {xs : List Int} (h : xs ≠ []) : (strOfNums xs).toList ≠ [] := by
  rw [Lib.toList_data, strOfNums_data]
  simpa using h

def markF (G : Nat → Int) (B : List Int) : Nat → Int := if B = [] then fun _ => 0 else mac (keyL G) (1 :: B)
theorem mark_any (w : World) (G : Nat → Int) (hG : RngF G) (B : List Int) (hr : Rng B) (hl : B.length ≤ 100000) :
    Calls Try.prog 23 #[.agg (row32 G).toArray, .string (strOfNums B)] w fun e w' => e = .returned (.agg (row16 (markF G B)).toArray) ∧ Upd [] w w' := by
  by_cases h : B = []
  · subst h
    have : strOfNums [] = ⟨#[]⟩ := rfl
    rw [this, markF, if_pos rfl]
    exact mark_none w G
  · rw [markF, if_neg h]
    exact mark_some w G hG _ B (bytes_strOf hr) (strOf_ne h) hr hl

theorem row16_bytes {w : World} {b : Nat} {f : Nat → Int} {T : TypeId} (h : Blk w b (row16 f) T) : ByAt w (some ⟨b, 0, none⟩) ((List.range 16).map f) :=
  ByAt.of_blk h (fun i x hx => by
    rw [List.getElem?_map] at hx
    have hi : i < 16 := by
      rcases Nat.lt_or_ge i 16 with h | h
      · exact h
      · rw [List.getElem?_eq_none (by simpa using h)] at hx; cases hx
    rw [List.getElem?_range hi] at hx
    cases hx
    rw [Nat.zero_add]
    simp [row16, row, hi])
theorem keyL_take (f : Nat → Int) : (keyL f).take 16 = (List.range 16).map f := by
  unfold keyL
  rw [← List.map_take]
  rfl

end Go.Proofs.Ytppbaahaegmgeaa
