/- Closed MACs (written by mkmacs.py). -/
import Derived.Test.YtclfmgkomkmbjaaDoorWxB
import Derived.Test.YtclfmgkomkmbjaaDoorHxB
import Derived.Test.YtclfmgkomkmbjaaDoorKnO
import Derived.Lib.SlBytesConst
namespace Go.Proofs.YtclfmgkomkmbjaaDoor
open Go.RowKit

/-- The text of a row of bytes. -/
def hexD (D : List Nat) : List UInt8 := D.flatMap fun d => [UInt8.ofNat (hx (d / 16)), UInt8.ofNat (hx (d % 16))]
theorem hexL_eq (F : Nat → Int) (D : List Nat) : ∀ n, n ≤ D.length → (∀ j, j < n → D[j]? = some (F j).toNat) → hexL F n = hexD (D.take n)
  | 0, _, _ => by simp [hexL, hexD]
  | n + 1, hn, h => by
    show hexL F n ++ _ = _
    have e : D.take (n + 1) = D.take n ++ [(F n).toNat] := by rw [List.take_add_one, h n (by omega)]; rfl
    rw [hexL_eq F D n (by omega) (fun j hj => h j (by omega)), e]
    unfold hexD
    rw [List.flatMap_append]
    rfl
theorem lt_all (L : List Nat) (h : L.all (· < 256) = true) (i : Nat) : L.getD i 0 < 256 := by
  rw [List.getD_eq_getElem?_getD]
  cases hx : L[i]? with
  | none => simp
  | some x => simpa using List.all_eq_true.1 h x (List.mem_of_getElem? hx)
theorem hex_sha (L D : List Nat) (hL : L.all (· < 256) = true) (hs : shaN L = D) (hD : D.length = 32) : hexL (sha (toI L)) 32 = hexD D := by
  rw [hexL_eq _ D 32 (by omega) (fun j hj => by rw [← hs]; exact sha_eq L (lt_all L hL) j hj), ← hD, List.take_length]
theorem dig_closed (L D : List Nat) (hL : L.all (· < 256) = true) (hs : shaN L = D) (hD : D.length = 32) : dig (toI L) = toI D := by
  apply List.ext_getElem?
  intro j
  unfold dig toI
  rw [List.getElem?_map, List.getElem?_map]
  by_cases hj : j < 32
  · have h := sha_eq L (lt_all L hL) j hj
    rw [hs] at h
    have hb := sha_bd (toI L) j
    rw [List.getElem?_range hj, h]
    simp only [Option.map_some, Option.some.injEq]
    have : sha (toI L) j = (((sha (toI L) j).toNat : Nat) : Int) := by omega
    exact this
  · rw [List.getElem?_eq_none (by simp; omega), List.getElem?_eq_none (by omega)]; rfl
theorem toI_app (a b : List Nat) : toI (a ++ b) = toI a ++ toI b := by simp [toI]
theorem mac_closed (K K' M P Q D1 D2 : List Nat) (hk : keyOf (toI K) = toI K') (hp : padKey (toI K') 54 = toI P) (hq : padKey (toI K') 92 = toI Q)
    (h1 : (P ++ M).all (· < 256) = true) (h2 : (Q ++ D1).all (· < 256) = true) (s1 : shaN (P ++ M) = D1) (l1 : D1.length = 32) (s2 : shaN (Q ++ D1) = D2) (l2 : D2.length = 32) :
    hexL (mac (toI K) (toI M)) 32 = hexD D2 := by
  unfold mac
  rw [hk, hp, hq, ← toI_app, dig_closed _ D1 h1 s1 l1, ← toI_app]
  exact hex_sha _ D2 h2 s2 l2
theorem mac_bd (ks ms : List Int) (i : Nat) : 0 ≤ mac ks ms i ∧ mac ks ms i ≤ 255 := sha_bd _ i

/-- '[]byte' of a row of numbers that stands in the text. -/
theorem kconv (w : World) (cells : Array Value) (n : Nat) : (convert 22 22 (.slice (some ⟨w.heap.size, 0, none⟩) n n)).run Tryd.prog (w.alloc (.cells cells 5)) = .ok (.slice (some ⟨w.heap.size, 0, none⟩) n n) (w.alloc (.cells cells 5 (cells.size, cells.size + 1))) :=
  Lib.run_convert_bytes_const (P := Tryd.prog) w 22 5 cells n n Tryd.underlying22 Tryd.underlying5
theorem lit_at (w : World) (xs : List Int) (m : Nat × Nat) : ByAt (w.alloc (.cells (u8s xs).toArray 5 m)) (some ⟨w.heap.size, 0, none⟩) xs := fun i x hx => ⟨w.heap.size, 0, rfl, by simp, by
  have e : (w.alloc (.cells (u8s xs).toArray 5 m)).cell? ⟨w.heap.size, 0 + i, none⟩ = (u8s xs)[i]? := by
    simp [World.cell?, World.alloc, -World.alloc_eq]
  rw [e]
  unfold u8s
  rw [List.getElem?_map, hx]
  rfl⟩
theorem kconv2 (w : World) (xs : List Int) : ∃ W, (convert 22 22 (.slice (some ⟨w.heap.size, 0, none⟩) xs.length xs.length)).run Tryd.prog (w.alloc (.cells (u8s xs).toArray 5)) = .ok (.slice (some ⟨w.heap.size, 0, none⟩) xs.length xs.length) W ∧ ByAt W (some ⟨w.heap.size, 0, none⟩) xs ∧ Upd [] w W :=
  ⟨_, kconv w _ _, lit_at w xs _, (Upd.refl [] w).alloc _⟩
theorem rng_toI (L : List Nat) (h : L.all (· < 256) = true) : Rng (toI L) := fun x hx => by
  obtain ⟨n, hn, rfl⟩ := List.mem_map.1 hx
  have : n < 256 := by simpa using List.all_eq_true.1 h n hn
  omega

def Kw : List Nat := [107, 101, 121]
def Mw : List Nat := [84, 104, 101, 32, 113, 117, 105, 99, 107, 32, 98, 114, 111, 119, 110, 32, 102, 111, 120, 32, 106, 117, 109, 112, 115, 32, 111, 118, 101, 114, 32, 116, 104, 101, 32, 108, 97, 122, 121, 32, 100, 111, 103]
def Tw : ByteArray := ⟨#[102, 55, 98, 99, 56, 51, 102, 52, 51, 48, 53, 51, 56, 52, 50, 52, 98, 49, 51, 50, 57, 56, 101, 54, 97, 97, 54, 102, 98, 49, 52, 51, 101, 102, 52, 100, 53, 57, 97, 49, 52, 57, 52, 54, 49, 55, 53, 57, 57, 55, 52, 55, 57, 100, 98, 99, 50, 100, 49, 97, 51, 99, 100, 56]⟩
theorem pw : padKey (toI [107, 101, 121]) 54 = toI [93, 83, 79, 54, 54, 54, 54, 54, 54, 54, 54, 54, 54, 54, 54, 54, 54, 54, 54, 54, 54, 54, 54, 54, 54, 54, 54, 54, 54, 54, 54, 54, 54, 54, 54, 54, 54, 54, 54, 54, 54, 54, 54, 54, 54, 54, 54, 54, 54, 54, 54, 54, 54, 54, 54, 54, 54, 54, 54, 54, 54, 54, 54, 54] := by decide +kernel
theorem qw : padKey (toI [107, 101, 121]) 92 = toI [55, 57, 37, 92, 92, 92, 92, 92, 92, 92, 92, 92, 92, 92, 92, 92, 92, 92, 92, 92, 92, 92, 92, 92, 92, 92, 92, 92, 92, 92, 92, 92, 92, 92, 92, 92, 92, 92, 92, 92, 92, 92, 92, 92, 92, 92, 92, 92, 92, 92, 92, 92, 92, 92, 92, 92, 92, 92, 92, 92, 92, 92, 92, 92] := by decide +kernel
theorem dw1 : shaN ([93, 83, 79, 54, 54, 54, 54, 54, 54, 54, 54, 54, 54, 54, 54, 54, 54, 54, 54, 54, 54, 54, 54, 54, 54, 54, 54, 54, 54, 54, 54, 54, 54, 54, 54, 54, 54, 54, 54, 54, 54, 54, 54, 54, 54, 54, 54, 54, 54, 54, 54, 54, 54, 54, 54, 54, 54, 54, 54, 54, 54, 54, 54, 54] ++ Mw) = [122, 208, 78, 90, 161, 158, 238, 114, 24, 44, 154, 117, 172, 113, 186, 19, 131, 60, 83, 252, 77, 200, 200, 21, 206, 183, 148, 109, 86, 46, 54, 49] := by decide +kernel
theorem dw2 : shaN ([55, 57, 37, 92, 92, 92, 92, 92, 92, 92, 92, 92, 92, 92, 92, 92, 92, 92, 92, 92, 92, 92, 92, 92, 92, 92, 92, 92, 92, 92, 92, 92, 92, 92, 92, 92, 92, 92, 92, 92, 92, 92, 92, 92, 92, 92, 92, 92, 92, 92, 92, 92, 92, 92, 92, 92, 92, 92, 92, 92, 92, 92, 92, 92] ++ [122, 208, 78, 90, 161, 158, 238, 114, 24, 44, 154, 117, 172, 113, 186, 19, 131, 60, 83, 252, 77, 200, 200, 21, 206, 183, 148, 109, 86, 46, 54, 49]) = [247, 188, 131, 244, 48, 83, 132, 36, 177, 50, 152, 230, 170, 111, 177, 67, 239, 77, 89, 161, 73, 70, 23, 89, 151, 71, 157, 188, 45, 26, 60, 216] := by decide +kernel
theorem kw : keyOf (toI Kw) = toI [107, 101, 121] := by unfold keyOf; rw [if_neg (by decide +kernel)]; rfl
theorem hexw : (⟨(hexL (mac (toI Kw) (toI Mw)) 32).toArray⟩ : ByteArray) = Tw := by
  rw [mac_closed Kw _ Mw _ _ _ _ kw pw qw (by decide +kernel) (by decide +kernel) dw1 rfl dw2 rfl]
  decide +kernel
def Ka : List Nat := List.replicate 20 11
def Ma : List Nat := [72, 105, 32, 84, 104, 101, 114, 101]
def Ta : ByteArray := ⟨#[98, 48, 51, 52, 52, 99, 54, 49, 100, 56, 100, 98, 51, 56, 53, 51, 53, 99, 97, 56, 97, 102, 99, 101, 97, 102, 48, 98, 102, 49, 50, 98, 56, 56, 49, 100, 99, 50, 48, 48, 99, 57, 56, 51, 51, 100, 97, 55, 50, 54, 101, 57, 51, 55, 54, 99, 50, 101, 51, 50, 99, 102, 102, 55]⟩
theorem pa : padKey (toI [11, 11, 11, 11, 11, 11, 11, 11, 11, 11, 11, 11, 11, 11, 11, 11, 11, 11, 11, 11]) 54 = toI [61, 61, 61, 61, 61, 61, 61, 61, 61, 61, 61, 61, 61, 61, 61, 61, 61, 61, 61, 61, 54, 54, 54, 54, 54, 54, 54, 54, 54, 54, 54, 54, 54, 54, 54, 54, 54, 54, 54, 54, 54, 54, 54, 54, 54, 54, 54, 54, 54, 54, 54, 54, 54, 54, 54, 54, 54, 54, 54, 54, 54, 54, 54, 54] := by decide +kernel
theorem qa : padKey (toI [11, 11, 11, 11, 11, 11, 11, 11, 11, 11, 11, 11, 11, 11, 11, 11, 11, 11, 11, 11]) 92 = toI [87, 87, 87, 87, 87, 87, 87, 87, 87, 87, 87, 87, 87, 87, 87, 87, 87, 87, 87, 87, 92, 92, 92, 92, 92, 92, 92, 92, 92, 92, 92, 92, 92, 92, 92, 92, 92, 92, 92, 92, 92, 92, 92, 92, 92, 92, 92, 92, 92, 92, 92, 92, 92, 92, 92, 92, 92, 92, 92, 92, 92, 92, 92, 92] := by decide +kernel
theorem da1 : shaN ([61, 61, 61, 61, 61, 61, 61, 61, 61, 61, 61, 61, 61, 61, 61, 61, 61, 61, 61, 61, 54, 54, 54, 54, 54, 54, 54, 54, 54, 54, 54, 54, 54, 54, 54, 54, 54, 54, 54, 54, 54, 54, 54, 54, 54, 54, 54, 54, 54, 54, 54, 54, 54, 54, 54, 54, 54, 54, 54, 54, 54, 54, 54, 54] ++ Ma) = [146, 171, 77, 154, 31, 59, 97, 82, 188, 169, 221, 158, 105, 175, 67, 244, 206, 153, 228, 47, 212, 227, 15, 249, 114, 196, 128, 37, 185, 249, 207, 239] := by decide +kernel
theorem da2 : shaN ([87, 87, 87, 87, 87, 87, 87, 87, 87, 87, 87, 87, 87, 87, 87, 87, 87, 87, 87, 87, 92, 92, 92, 92, 92, 92, 92, 92, 92, 92, 92, 92, 92, 92, 92, 92, 92, 92, 92, 92, 92, 92, 92, 92, 92, 92, 92, 92, 92, 92, 92, 92, 92, 92, 92, 92, 92, 92, 92, 92, 92, 92, 92, 92] ++ [146, 171, 77, 154, 31, 59, 97, 82, 188, 169, 221, 158, 105, 175, 67, 244, 206, 153, 228, 47, 212, 227, 15, 249, 114, 196, 128, 37, 185, 249, 207, 239]) = [176, 52, 76, 97, 216, 219, 56, 83, 92, 168, 175, 206, 175, 11, 241, 43, 136, 29, 194, 0, 201, 131, 61, 167, 38, 233, 55, 108, 46, 50, 207, 247] := by decide +kernel
theorem ka : keyOf (toI Ka) = toI [11, 11, 11, 11, 11, 11, 11, 11, 11, 11, 11, 11, 11, 11, 11, 11, 11, 11, 11, 11] := by unfold keyOf; rw [if_neg (by decide +kernel)]; rfl
theorem hexa : (⟨(hexL (mac (toI Ka) (toI Ma)) 32).toArray⟩ : ByteArray) = Ta := by
  rw [mac_closed Ka _ Ma _ _ _ _ ka pa qa (by decide +kernel) (by decide +kernel) da1 rfl da2 rfl]
  decide +kernel
def Kb : List Nat := [74, 101, 102, 101]
def Mb : List Nat := [119, 104, 97, 116, 32, 100, 111, 32, 121, 97, 32, 119, 97, 110, 116, 32, 102, 111, 114, 32, 110, 111, 116, 104, 105, 110, 103, 63]
def Tb : ByteArray := ⟨#[53, 98, 100, 99, 99, 49, 52, 54, 98, 102, 54, 48, 55, 53, 52, 101, 54, 97, 48, 52, 50, 52, 50, 54, 48, 56, 57, 53, 55, 53, 99, 55, 53, 97, 48, 48, 51, 102, 48, 56, 57, 100, 50, 55, 51, 57, 56, 51, 57, 100, 101, 99, 53, 56, 98, 57, 54, 52, 101, 99, 51, 56, 52, 51]⟩
theorem pb : padKey (toI [74, 101, 102, 101]) 54 = toI [124, 83, 80, 83, 54, 54, 54, 54, 54, 54, 54, 54, 54, 54, 54, 54, 54, 54, 54, 54, 54, 54, 54, 54, 54, 54, 54, 54, 54, 54, 54, 54, 54, 54, 54, 54, 54, 54, 54, 54, 54, 54, 54, 54, 54, 54, 54, 54, 54, 54, 54, 54, 54, 54, 54, 54, 54, 54, 54, 54, 54, 54, 54, 54] := by decide +kernel
theorem qb : padKey (toI [74, 101, 102, 101]) 92 = toI [22, 57, 58, 57, 92, 92, 92, 92, 92, 92, 92, 92, 92, 92, 92, 92, 92, 92, 92, 92, 92, 92, 92, 92, 92, 92, 92, 92, 92, 92, 92, 92, 92, 92, 92, 92, 92, 92, 92, 92, 92, 92, 92, 92, 92, 92, 92, 92, 92, 92, 92, 92, 92, 92, 92, 92, 92, 92, 92, 92, 92, 92, 92, 92] := by decide +kernel
theorem db1 : shaN ([124, 83, 80, 83, 54, 54, 54, 54, 54, 54, 54, 54, 54, 54, 54, 54, 54, 54, 54, 54, 54, 54, 54, 54, 54, 54, 54, 54, 54, 54, 54, 54, 54, 54, 54, 54, 54, 54, 54, 54, 54, 54, 54, 54, 54, 54, 54, 54, 54, 54, 54, 54, 54, 54, 54, 54, 54, 54, 54, 54, 54, 54, 54, 54] ++ Mb) = [162, 228, 133, 134, 61, 39, 249, 216, 100, 172, 141, 128, 36, 50, 161, 237, 71, 125, 140, 76, 111, 52, 157, 22, 212, 231, 233, 23, 198, 41, 202, 215] := by decide +kernel
theorem db2 : shaN ([22, 57, 58, 57, 92, 92, 92, 92, 92, 92, 92, 92, 92, 92, 92, 92, 92, 92, 92, 92, 92, 92, 92, 92, 92, 92, 92, 92, 92, 92, 92, 92, 92, 92, 92, 92, 92, 92, 92, 92, 92, 92, 92, 92, 92, 92, 92, 92, 92, 92, 92, 92, 92, 92, 92, 92, 92, 92, 92, 92, 92, 92, 92, 92] ++ [162, 228, 133, 134, 61, 39, 249, 216, 100, 172, 141, 128, 36, 50, 161, 237, 71, 125, 140, 76, 111, 52, 157, 22, 212, 231, 233, 23, 198, 41, 202, 215]) = [91, 220, 193, 70, 191, 96, 117, 78, 106, 4, 36, 38, 8, 149, 117, 199, 90, 0, 63, 8, 157, 39, 57, 131, 157, 236, 88, 185, 100, 236, 56, 67] := by decide +kernel
theorem kb : keyOf (toI Kb) = toI [74, 101, 102, 101] := by unfold keyOf; rw [if_neg (by decide +kernel)]; rfl
theorem hexb : (⟨(hexL (mac (toI Kb) (toI Mb)) 32).toArray⟩ : ByteArray) = Tb := by
  rw [mac_closed Kb _ Mb _ _ _ _ kb pb qb (by decide +kernel) (by decide +kernel) db1 rfl db2 rfl]
  decide +kernel
def Kc : List Nat := List.replicate 131 170
def Mc : List Nat := [84, 101, 115, 116, 32, 85, 115, 105, 110, 103, 32, 76, 97, 114, 103, 101, 114, 32, 84, 104, 97, 110, 32, 66, 108, 111, 99, 107, 45, 83, 105, 122, 101, 32, 75, 101, 121, 32, 45, 32, 72, 97, 115, 104, 32, 75, 101, 121, 32, 70, 105, 114, 115, 116]
def Tc : ByteArray := ⟨#[54, 48, 101, 52, 51, 49, 53, 57, 49, 101, 101, 48, 98, 54, 55, 102, 48, 100, 56, 97, 50, 54, 97, 97, 99, 98, 102, 53, 98, 55, 55, 102, 56, 101, 48, 98, 99, 54, 50, 49, 51, 55, 50, 56, 99, 53, 49, 52, 48, 53, 52, 54, 48, 52, 48, 102, 48, 101, 101, 51, 55, 102, 53, 52]⟩
theorem pc : padKey (toI [69, 173, 75, 55, 198, 226, 252, 10, 44, 252, 193, 181, 218, 82, 65, 50, 236, 112, 118, 21, 194, 202, 225, 219, 188, 67, 201, 122, 165, 33, 219, 129]) 54 = toI [115, 155, 125, 1, 240, 212, 202, 60, 26, 202, 247, 131, 236, 100, 119, 4, 218, 70, 64, 35, 244, 252, 215, 237, 138, 117, 255, 76, 147, 23, 237, 183, 54, 54, 54, 54, 54, 54, 54, 54, 54, 54, 54, 54, 54, 54, 54, 54, 54, 54, 54, 54, 54, 54, 54, 54, 54, 54, 54, 54, 54, 54, 54, 54] := by decide +kernel
theorem qc : padKey (toI [69, 173, 75, 55, 198, 226, 252, 10, 44, 252, 193, 181, 218, 82, 65, 50, 236, 112, 118, 21, 194, 202, 225, 219, 188, 67, 201, 122, 165, 33, 219, 129]) 92 = toI [25, 241, 23, 107, 154, 190, 160, 86, 112, 160, 157, 233, 134, 14, 29, 110, 176, 44, 42, 73, 158, 150, 189, 135, 224, 31, 149, 38, 249, 125, 135, 221, 92, 92, 92, 92, 92, 92, 92, 92, 92, 92, 92, 92, 92, 92, 92, 92, 92, 92, 92, 92, 92, 92, 92, 92, 92, 92, 92, 92, 92, 92, 92, 92] := by decide +kernel
theorem dc1 : shaN ([115, 155, 125, 1, 240, 212, 202, 60, 26, 202, 247, 131, 236, 100, 119, 4, 218, 70, 64, 35, 244, 252, 215, 237, 138, 117, 255, 76, 147, 23, 237, 183, 54, 54, 54, 54, 54, 54, 54, 54, 54, 54, 54, 54, 54, 54, 54, 54, 54, 54, 54, 54, 54, 54, 54, 54, 54, 54, 54, 54, 54, 54, 54, 54] ++ Mc) = [167, 48, 56, 187, 204, 93, 111, 3, 55, 33, 85, 140, 164, 129, 243, 116, 114, 202, 1, 195, 180, 7, 47, 50, 92, 16, 114, 161, 146, 191, 226, 192] := by decide +kernel
theorem dc2 : shaN ([25, 241, 23, 107, 154, 190, 160, 86, 112, 160, 157, 233, 134, 14, 29, 110, 176, 44, 42, 73, 158, 150, 189, 135, 224, 31, 149, 38, 249, 125, 135, 221, 92, 92, 92, 92, 92, 92, 92, 92, 92, 92, 92, 92, 92, 92, 92, 92, 92, 92, 92, 92, 92, 92, 92, 92, 92, 92, 92, 92, 92, 92, 92, 92] ++ [167, 48, 56, 187, 204, 93, 111, 3, 55, 33, 85, 140, 164, 129, 243, 116, 114, 202, 1, 195, 180, 7, 47, 50, 92, 16, 114, 161, 146, 191, 226, 192]) = [96, 228, 49, 89, 30, 224, 182, 127, 13, 138, 38, 170, 203, 245, 183, 127, 142, 11, 198, 33, 55, 40, 197, 20, 5, 70, 4, 15, 14, 227, 127, 84] := by decide +kernel
theorem kc1 : shaN Kc = [69, 173, 75, 55, 198, 226, 252, 10, 44, 252, 193, 181, 218, 82, 65, 50, 236, 112, 118, 21, 194, 202, 225, 219, 188, 67, 201, 122, 165, 33, 219, 129] := by decide +kernel
theorem kc : keyOf (toI Kc) = toI [69, 173, 75, 55, 198, 226, 252, 10, 44, 252, 193, 181, 218, 82, 65, 50, 236, 112, 118, 21, 194, 202, 225, 219, 188, 67, 201, 122, 165, 33, 219, 129] := by unfold keyOf; rw [if_pos (by decide +kernel)]; exact dig_closed _ _ (by decide +kernel) kc1 rfl
theorem hexc : (⟨(hexL (mac (toI Kc) (toI Mc)) 32).toArray⟩ : ByteArray) = Tc := by
  rw [mac_closed Kc _ Mc _ _ _ _ kc pc qc (by decide +kernel) (by decide +kernel) dc1 rfl dc2 rfl]
  decide +kernel
def Kd : List Nat := []
def Md : List Nat := []
def Td : ByteArray := ⟨#[98, 54, 49, 51, 54, 55, 57, 97, 48, 56, 49, 52, 100, 57, 101, 99, 55, 55, 50, 102, 57, 53, 100, 55, 55, 56, 99, 51, 53, 102, 99, 53, 102, 102, 49, 54, 57, 55, 99, 52, 57, 51, 55, 49, 53, 54, 53, 51, 99, 54, 99, 55, 49, 50, 49, 52, 52, 50, 57, 50, 99, 53, 97, 100]⟩
theorem pd : padKey (toI []) 54 = toI [54, 54, 54, 54, 54, 54, 54, 54, 54, 54, 54, 54, 54, 54, 54, 54, 54, 54, 54, 54, 54, 54, 54, 54, 54, 54, 54, 54, 54, 54, 54, 54, 54, 54, 54, 54, 54, 54, 54, 54, 54, 54, 54, 54, 54, 54, 54, 54, 54, 54, 54, 54, 54, 54, 54, 54, 54, 54, 54, 54, 54, 54, 54, 54] := by decide +kernel
theorem qd : padKey (toI []) 92 = toI [92, 92, 92, 92, 92, 92, 92, 92, 92, 92, 92, 92, 92, 92, 92, 92, 92, 92, 92, 92, 92, 92, 92, 92, 92, 92, 92, 92, 92, 92, 92, 92, 92, 92, 92, 92, 92, 92, 92, 92, 92, 92, 92, 92, 92, 92, 92, 92, 92, 92, 92, 92, 92, 92, 92, 92, 92, 92, 92, 92, 92, 92, 92, 92] := by decide +kernel
theorem dd1 : shaN ([54, 54, 54, 54, 54, 54, 54, 54, 54, 54, 54, 54, 54, 54, 54, 54, 54, 54, 54, 54, 54, 54, 54, 54, 54, 54, 54, 54, 54, 54, 54, 54, 54, 54, 54, 54, 54, 54, 54, 54, 54, 54, 54, 54, 54, 54, 54, 54, 54, 54, 54, 54, 54, 54, 54, 54, 54, 54, 54, 54, 54, 54, 54, 54] ++ Md) = [231, 43, 189, 77, 66, 154, 201, 20, 168, 166, 197, 189, 73, 99, 47, 246, 176, 13, 79, 239, 66, 175, 180, 67, 240, 184, 4, 125, 240, 108, 133, 210] := by decide +kernel
theorem dd2 : shaN ([92, 92, 92, 92, 92, 92, 92, 92, 92, 92, 92, 92, 92, 92, 92, 92, 92, 92, 92, 92, 92, 92, 92, 92, 92, 92, 92, 92, 92, 92, 92, 92, 92, 92, 92, 92, 92, 92, 92, 92, 92, 92, 92, 92, 92, 92, 92, 92, 92, 92, 92, 92, 92, 92, 92, 92, 92, 92, 92, 92, 92, 92, 92, 92] ++ [231, 43, 189, 77, 66, 154, 201, 20, 168, 166, 197, 189, 73, 99, 47, 246, 176, 13, 79, 239, 66, 175, 180, 67, 240, 184, 4, 125, 240, 108, 133, 210]) = [182, 19, 103, 154, 8, 20, 217, 236, 119, 47, 149, 215, 120, 195, 95, 197, 255, 22, 151, 196, 147, 113, 86, 83, 198, 199, 18, 20, 66, 146, 197, 173] := by decide +kernel
theorem kd : keyOf (toI Kd) = toI [] := by unfold keyOf; rw [if_neg (by decide +kernel)]; rfl
theorem hexd : (⟨(hexL (mac (toI Kd) (toI Md)) 32).toArray⟩ : ByteArray) = Td := by
  rw [mac_closed Kd _ Md _ _ _ _ kd pd qd (by decide +kernel) (by decide +kernel) dd1 rfl dd2 rfl]
  decide +kernel

end Go.Proofs.YtclfmgkomkmbjaaDoor
