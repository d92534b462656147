/- The chapter's examples: their texts. -/
import Derived.Test.YtcfoplnickdekaaDoorHxB
import Derived.Test.YtcfoplnickdekaaDoorKnO
import Derived.Lib.SlBytesConst
namespace Go.Proofs.YtcfoplnickdekaaDoor
open Go.RowKit

/-- The text of a row of bytes. -/
def hexD (D : List Nat) : List UInt8 := D.flatMap fun d => [UInt8.ofNat (hx (d / 16)), UInt8.ofNat (hx (d % 16))]
theorem hexL_eq (F : Nat → Int) (D : List Nat) : ∀ n, n ≤ D.length → (∀ j, j < n → D[j]? = some (F j).toNat) → hexL F n = hexD (D.take n)
  | 0, _, _ => by simp [hexL, hexD]
  | n + 1, hn, h => by
    show hexL F n ++ _ = _
    have e : D.take (n + 1) = D.take n ++ [(F n).toNat] := by rw [List.take_add_one, h n (by omega)]; rfl
    rw [hexL_eq F D n (by omega) (fun j hj => h j (by omega)), e]
    unfold hexD
    rw [List.flatMap_append]
    rfl
theorem hex_sha (L D : List Nat) (hL : ∀ i, L.getD i 0 < 256) (hs : shaN L = D) (hD : D.length = 32) : hexL (sha (toI L)) 32 = hexD D := by
  rw [hexL_eq _ D 32 (by omega) (fun j hj => by rw [← hs]; exact sha_eq L hL j hj), ← hD, List.take_length]
theorem digB_bd (s : Nat → Int) (i : Nat) : 0 ≤ digB s i ∧ digB s i ≤ 255 := by
  unfold digB
  have h1 := Int.emod_nonneg (s (i / 4) / 2 ^ (8 * (3 - i % 4))) (show (256 : Int) ≠ 0 by decide)
  have h2 := Int.emod_lt_of_pos (s (i / 4) / 2 ^ (8 * (3 - i % 4))) (show (0 : Int) < 256 by decide)
  exact ⟨h1, by omega⟩
theorem sha_bd (l : List Int) (i : Nat) : 0 ≤ sha l i ∧ sha l i ≤ 255 := digB_bd _ _

def t0 : ByteArray := ⟨#[101, 51, 98, 48, 99, 52, 52, 50, 57, 56, 102, 99, 49, 99, 49, 52, 57, 97, 102, 98, 102, 52, 99, 56, 57, 57, 54, 102, 98, 57, 50, 52, 50, 55, 97, 101, 52, 49, 101, 52, 54, 52, 57, 98, 57, 51, 52, 99, 97, 52, 57, 53, 57, 57, 49, 98, 55, 56, 53, 50, 98, 56, 53, 53]⟩
def t1 : ByteArray := ⟨#[98, 97, 55, 56, 49, 54, 98, 102, 56, 102, 48, 49, 99, 102, 101, 97, 52, 49, 52, 49, 52, 48, 100, 101, 53, 100, 97, 101, 50, 50, 50, 51, 98, 48, 48, 51, 54, 49, 97, 51, 57, 54, 49, 55, 55, 97, 57, 99, 98, 52, 49, 48, 102, 102, 54, 49, 102, 50, 48, 48, 49, 53, 97, 100]⟩
theorem sha_0 : shaN [] = [227, 176, 196, 66, 152, 252, 28, 20, 154, 251, 244, 200, 153, 111, 185, 36, 39, 174, 65, 228, 100, 155, 147, 76, 164, 149, 153, 27, 120, 82, 184, 85] := by decide +kernel
theorem sha_1 : shaN [97, 98, 99] = [186, 120, 22, 191, 143, 1, 207, 234, 65, 65, 64, 222, 93, 174, 34, 35, 176, 3, 97, 163, 150, 23, 122, 156, 180, 16, 255, 97, 242, 0, 21, 173] := by decide +kernel
theorem hex_0 : (⟨(hexL (sha []) 32).toArray⟩ : ByteArray) = t0 := by
  have h := hex_sha [] _ (fun i => by simp) sha_0 rfl
  rw [show sha [] = sha (toI []) from rfl, h]
  decide +kernel
theorem hex_1 : (⟨(hexL (sha [97, 98, 99]) 32).toArray⟩ : ByteArray) = t1 := by
  have h := hex_sha [97, 98, 99] _ (fun i => by match i with | 0 => decide | 1 => decide | 2 => decide | i + 3 => simp) sha_1 rfl
  rw [show sha [97, 98, 99] = sha (toI [97, 98, 99]) from rfl, h]
  decide +kernel

theorem of_nil (w : World) : Calls Tryd.prog 11 #[.slice none 0 0] w fun e w' => e = .returned (agg32 (sha [])) ∧ Upd [] w w' :=
  of_walk w none [] 0 (fun i x h => by simp at h) (fun x h => by simp at h) (by decide)
theorem hex_nil (w : World) (h : w.cell? ⟨3, 15, none⟩ = some (.int .u8 4)) :
    Calls Tryd.prog 17 #[agg32 (sha [])] w fun e w' => e = .returned (.string t0) ∧ Upd [] w w' := by
  rw [← hex_0]; exact hex_walk w _ (sha_bd _) h
theorem hex_abc (w : World) (h : w.cell? ⟨3, 15, none⟩ = some (.int .u8 4)) :
    Calls Tryd.prog 17 #[agg32 (sha [97, 98, 99])] w fun e w' => e = .returned (.string t1) ∧ Upd [] w w' := by
  rw [← hex_1]; exact hex_walk w _ (sha_bd _) h

theorem kabc (w : World) : (convert 26 26 (.slice (some ⟨w.heap.size, 0, none⟩) 3 3)).run Tryd.prog (w.alloc (.cells #[.int .u8 97, .int .u8 98, .int .u8 99] 5)) = .ok (.slice (some ⟨w.heap.size, 0, none⟩) 3 3) (w.alloc (.cells #[.int .u8 97, .int .u8 98, .int .u8 99] 5 (3, 4))) :=
  Lib.run_convert_bytes_const (P := Tryd.prog) w 26 5 #[.int .u8 97, .int .u8 98, .int .u8 99] 3 3 Tryd.underlying26 Tryd.underlying5
theorem abc_at (w : World) : ByAt (w.alloc (.cells #[.int .u8 97, .int .u8 98, .int .u8 99] 5 (3, 4))) (some ⟨w.heap.size, 0, none⟩) [97, 98, 99] := fun i x hx => ⟨w.heap.size, 0, rfl, by simp, by
  have e : (w.alloc (.cells #[.int .u8 97, .int .u8 98, .int .u8 99] 5 (3, 4))).cell? ⟨w.heap.size, 0 + i, none⟩ = (#[Value.int .u8 97, .int .u8 98, .int .u8 99] : Array Value)[i]? := by
    simp [World.cell?, World.alloc, Addr.add, -World.alloc_eq]
  rw [e]
  match i, hx with
  | 0, hx => exact congrArg (Option.map (Value.int .u8)) hx
  | 1, hx => exact congrArg (Option.map (Value.int .u8)) hx
  | 2, hx => exact congrArg (Option.map (Value.int .u8)) hx
  | i + 3, hx => exact absurd hx (by simp)⟩
theorem of_abc (w : World) : Calls Tryd.prog 11 #[.slice (some ⟨w.heap.size, 0, none⟩) 3 3] (w.alloc (.cells #[.int .u8 97, .int .u8 98, .int .u8 99] 5 (3, 4))) fun e w' => e = .returned (agg32 (sha [97, 98, 99])) ∧ Upd [] (w.alloc (.cells #[.int .u8 97, .int .u8 98, .int .u8 99] 5 (3, 4))) w' :=
  of_walk _ _ [97, 98, 99] 3 (abc_at w) (fun x hx => by simp at hx; omega) (by decide)

set_option maxRecDepth 100000 in
set_option maxHeartbeats 4000000 in
theorem works_walk (w : World) (h : w.cell? ⟨3, 15, none⟩ = some (.int .u8 4)) :
    Calls Tryd.prog 7 #[] w fun e w' => e = .returned (.bool true) ∧ Upd [] w w' := by
  have hlt : 3 < w.heap.size := lt_of_cell h
  have hn := hex_nil
  have ha := hex_abc
  have ho := of_nil
  have hof := of_abc
  generalize agg32 (sha []) = v0 at hn ho
  generalize agg32 (sha [97, 98, 99]) = v1 at ha hof
  unfold t0 at hn
  unfold t1 at ha
  go_enter Tryd.func7, Tryd.ntmps7
  go_wp2_with (first
    | (go_at_call 11; refine (ho _).mono ?_; rintro e w1 ⟨rfl, u1⟩; have h1 := (u1.cell hlt (by simp)).trans h)
    | (go_at_call 17; refine (hn _ h1).mono ?_; rintro e w2 ⟨rfl, u2⟩; have u12 := u1.trans_nil u2))
  rw [kabc]
  have u3 := u12.alloc (.cells #[.int .u8 97, .int .u8 98, .int .u8 99] 5 (3, 4))
  have hof2 := hof w2
  generalize w2.alloc (.cells #[.int .u8 97, .int .u8 98, .int .u8 99] 5 (3, 4)) = w3 at hof2 u3 ⊢
  go_wp2_with (first
    | (go_at_call 11; refine hof2.mono ?_; rintro e w4 ⟨rfl, u4⟩; have u34 := u3.trans_nil u4; have h4 := (u34.cell hlt (by simp)).trans h)
    | (go_at_call 17; refine (ha _ h4).mono ?_; rintro e w5 ⟨rfl, u5⟩))
  go_ret
  exact ⟨rfl, u34.trans_nil u5⟩

end Go.Proofs.YtcfoplnickdekaaDoor
