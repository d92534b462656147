/- Closed MACs of mask's works (written by mkmk.py). -/
import Derived.Test.YtppbaahaegmgeaaMkJ
import Derived.Test.YtppbaahaegmgeaaKnO
namespace Go.Proofs.Ytppbaahaegmgeaa
open Go.RowKit

theorem lt_all (L : List Nat) (h : L.all (· < 256) = true) (i : Nat) : L.getD i 0 < 256 := by
  rw [List.getD_eq_getElem?_getD]
  cases hx : L[i]? with
  | none => simp
  | some x => simpa using List.all_eq_true.1 h x (List.mem_of_getElem? hx)
theorem dig_closed (L D : List Nat) (hL : L.all (· < 256) = true) (hs : shaN L = D) (hD : D.length = 32) : dig (toI L) = toI D := by
  apply List.ext_getElem?
  intro j
  unfold dig toI
  rw [List.getElem?_map, List.getElem?_map]
  by_cases hj : j < 32
  · have h := sha_eq L (lt_all L hL) j hj
    rw [hs] at h
    have hb := sha_bd (toI L) j
    rw [List.getElem?_range hj, h]
    simp only [Option.map_some, Option.some.injEq]
    have : sha (toI L) j = (((sha (toI L) j).toNat : Nat) : Int) := by omega
    exact this
  · rw [List.getElem?_eq_none (by simp; omega), List.getElem?_eq_none (by omega)]; rfl
theorem toI_app (a b : List Nat) : toI (a ++ b) = toI a ++ toI b := by simp [toI]
theorem macL_closed (K P M Q D1 D2 : List Nat) (hk : keyOf (toI K) = toI K) (hp : padKey (toI K) 54 = toI P) (hq : padKey (toI K) 92 = toI Q)
    (h1 : (P ++ M).all (· < 256) = true) (h2 : (Q ++ D1).all (· < 256) = true) (s1 : shaN (P ++ M) = D1) (l1 : D1.length = 32) (s2 : shaN (Q ++ D1) = D2) (l2 : D2.length = 32) :
    keyL (mac (toI K) (toI M)) = toI D2 := by
  unfold mac
  rw [hk, hp, hq, ← toI_app, dig_closed _ D1 h1 s1 l1, ← toI_app]
  exact dig_closed _ D2 h2 s2 l2
theorem rng_toI (L : List Nat) (h : L.all (· < 256) = true) : Rng (toI L) := fun x hx => by
  obtain ⟨n, hn, rfl⟩ := List.mem_map.1 hx
  have : n < 256 := by simpa using List.all_eq_true.1 h n hn
  omega

/-- The key of the chapter's examples. -/
def Gc (i : Nat) : Int := ([1, 2, 3] : List Int).getD i 0
theorem Gc_rng : RngF Gc := fun i hi => by
  unfold Gc
  match i with
  | 0 => decide
  | 1 => decide
  | 2 => decide
  | i + 3 => simp

def Kc : List Nat := [1, 2, 3, 0, 0, 0, 0, 0, 0, 0, 0, 0, 0, 0, 0, 0, 0, 0, 0, 0, 0, 0, 0, 0, 0, 0, 0, 0, 0, 0, 0, 0]
theorem Kc_eq : keyL Gc = toI Kc := by decide +kernel
theorem Kc_row : (row32 Gc).toArray = #[.int .u8 1, .int .u8 2, .int .u8 3, .int .u8 0, .int .u8 0, .int .u8 0, .int .u8 0, .int .u8 0, .int .u8 0, .int .u8 0, .int .u8 0, .int .u8 0, .int .u8 0, .int .u8 0, .int .u8 0, .int .u8 0, .int .u8 0, .int .u8 0, .int .u8 0, .int .u8 0, .int .u8 0, .int .u8 0, .int .u8 0, .int .u8 0, .int .u8 0, .int .u8 0, .int .u8 0, .int .u8 0, .int .u8 0, .int .u8 0, .int .u8 0, .int .u8 0] := rfl
theorem kk : keyOf (toI Kc) = toI Kc := by unfold keyOf; rw [if_neg (by decide +kernel)]
theorem kp : padKey (toI Kc) 54 = toI [55, 52, 53, 54, 54, 54, 54, 54, 54, 54, 54, 54, 54, 54, 54, 54, 54, 54, 54, 54, 54, 54, 54, 54, 54, 54, 54, 54, 54, 54, 54, 54, 54, 54, 54, 54, 54, 54, 54, 54, 54, 54, 54, 54, 54, 54, 54, 54, 54, 54, 54, 54, 54, 54, 54, 54, 54, 54, 54, 54, 54, 54, 54, 54] := by decide +kernel
theorem kq : padKey (toI Kc) 92 = toI [93, 94, 95, 92, 92, 92, 92, 92, 92, 92, 92, 92, 92, 92, 92, 92, 92, 92, 92, 92, 92, 92, 92, 92, 92, 92, 92, 92, 92, 92, 92, 92, 92, 92, 92, 92, 92, 92, 92, 92, 92, 92, 92, 92, 92, 92, 92, 92, 92, 92, 92, 92, 92, 92, 92, 92, 92, 92, 92, 92, 92, 92, 92, 92] := by decide +kernel
theorem ds1 : shaN ([55, 52, 53, 54, 54, 54, 54, 54, 54, 54, 54, 54, 54, 54, 54, 54, 54, 54, 54, 54, 54, 54, 54, 54, 54, 54, 54, 54, 54, 54, 54, 54, 54, 54, 54, 54, 54, 54, 54, 54, 54, 54, 54, 54, 54, 54, 54, 54, 54, 54, 54, 54, 54, 54, 54, 54, 54, 54, 54, 54, 54, 54, 54, 54] ++ [4, 1, 2, 0, 0]) = [221, 148, 185, 226, 74, 213, 203, 41, 17, 227, 72, 209, 174, 132, 57, 25, 174, 61, 176, 146, 96, 91, 33, 200, 57, 102, 91, 234, 50, 130, 128, 218] := by decide +kernel
theorem ds2 : shaN ([93, 94, 95, 92, 92, 92, 92, 92, 92, 92, 92, 92, 92, 92, 92, 92, 92, 92, 92, 92, 92, 92, 92, 92, 92, 92, 92, 92, 92, 92, 92, 92, 92, 92, 92, 92, 92, 92, 92, 92, 92, 92, 92, 92, 92, 92, 92, 92, 92, 92, 92, 92, 92, 92, 92, 92, 92, 92, 92, 92, 92, 92, 92, 92] ++ [221, 148, 185, 226, 74, 213, 203, 41, 17, 227, 72, 209, 174, 132, 57, 25, 174, 61, 176, 146, 96, 91, 33, 200, 57, 102, 91, 234, 50, 130, 128, 218]) = [171, 131, 251, 169, 195, 199, 189, 110, 254, 133, 136, 198, 38, 141, 52, 152, 223, 51, 114, 247, 220, 212, 153, 58, 11, 65, 197, 206, 161, 176, 46, 135] := by decide +kernel
theorem macs : keyL (mac (keyL Gc) (toI [4, 1, 2, 0, 0])) = toI [171, 131, 251, 169, 195, 199, 189, 110, 254, 133, 136, 198, 38, 141, 52, 152, 223, 51, 114, 247, 220, 212, 153, 58, 11, 65, 197, 206, 161, 176, 46, 135] := by
  rw [Kc_eq]; exact macL_closed Kc _ [4, 1, 2, 0, 0] _ _ _ kk kp kq (by decide +kernel) (by decide +kernel) ds1 rfl ds2 rfl
theorem dt1 : shaN ([55, 52, 53, 54, 54, 54, 54, 54, 54, 54, 54, 54, 54, 54, 54, 54, 54, 54, 54, 54, 54, 54, 54, 54, 54, 54, 54, 54, 54, 54, 54, 54, 54, 54, 54, 54, 54, 54, 54, 54, 54, 54, 54, 54, 54, 54, 54, 54, 54, 54, 54, 54, 54, 54, 54, 54, 54, 54, 54, 54, 54, 54, 54, 54] ++ [5, 1, 2, 0, 202, 225, 152]) = [46, 24, 28, 53, 30, 88, 57, 244, 16, 91, 113, 240, 137, 142, 97, 77, 186, 126, 9, 244, 167, 61, 136, 252, 118, 171, 42, 196, 168, 151, 111, 197] := by decide +kernel
theorem dt2 : shaN ([93, 94, 95, 92, 92, 92, 92, 92, 92, 92, 92, 92, 92, 92, 92, 92, 92, 92, 92, 92, 92, 92, 92, 92, 92, 92, 92, 92, 92, 92, 92, 92, 92, 92, 92, 92, 92, 92, 92, 92, 92, 92, 92, 92, 92, 92, 92, 92, 92, 92, 92, 92, 92, 92, 92, 92, 92, 92, 92, 92, 92, 92, 92, 92] ++ [46, 24, 28, 53, 30, 88, 57, 244, 16, 91, 113, 240, 137, 142, 97, 77, 186, 126, 9, 244, 167, 61, 136, 252, 118, 171, 42, 196, 168, 151, 111, 197]) = [173, 213, 197, 197, 230, 225, 101, 182, 243, 226, 64, 199, 42, 234, 11, 111, 162, 201, 59, 144, 136, 231, 16, 39, 181, 93, 242, 169, 124, 77, 227, 77] := by decide +kernel
theorem mact : keyL (mac (keyL Gc) (toI [5, 1, 2, 0, 202, 225, 152])) = toI [173, 213, 197, 197, 230, 225, 101, 182, 243, 226, 64, 199, 42, 234, 11, 111, 162, 201, 59, 144, 136, 231, 16, 39, 181, 93, 242, 169, 124, 77, 227, 77] := by
  rw [Kc_eq]; exact macL_closed Kc _ [5, 1, 2, 0, 202, 225, 152] _ _ _ kk kp kq (by decide +kernel) (by decide +kernel) dt1 rfl dt2 rfl
theorem du1 : shaN ([55, 52, 53, 54, 54, 54, 54, 54, 54, 54, 54, 54, 54, 54, 54, 54, 54, 54, 54, 54, 54, 54, 54, 54, 54, 54, 54, 54, 54, 54, 54, 54, 54, 54, 54, 54, 54, 54, 54, 54, 54, 54, 54, 54, 54, 54, 54, 54, 54, 54, 54, 54, 54, 54, 54, 54, 54, 54, 54, 54, 54, 54, 54, 54] ++ [5, 1, 2, 0, 202, 225]) = [7, 23, 187, 149, 126, 163, 97, 142, 149, 71, 40, 76, 158, 71, 230, 2, 163, 89, 205, 218, 227, 210, 254, 210, 49, 108, 14, 140, 55, 115, 198, 216] := by decide +kernel
theorem du2 : shaN ([93, 94, 95, 92, 92, 92, 92, 92, 92, 92, 92, 92, 92, 92, 92, 92, 92, 92, 92, 92, 92, 92, 92, 92, 92, 92, 92, 92, 92, 92, 92, 92, 92, 92, 92, 92, 92, 92, 92, 92, 92, 92, 92, 92, 92, 92, 92, 92, 92, 92, 92, 92, 92, 92, 92, 92, 92, 92, 92, 92, 92, 92, 92, 92] ++ [7, 23, 187, 149, 126, 163, 97, 142, 149, 71, 40, 76, 158, 71, 230, 2, 163, 89, 205, 218, 227, 210, 254, 210, 49, 108, 14, 140, 55, 115, 198, 216]) = [15, 163, 183, 125, 69, 125, 19, 240, 238, 81, 54, 204, 49, 165, 27, 199, 98, 105, 191, 147, 16, 100, 17, 82, 49, 42, 151, 41, 85, 249, 182, 86] := by decide +kernel
theorem macu : keyL (mac (keyL Gc) (toI [5, 1, 2, 0, 202, 225])) = toI [15, 163, 183, 125, 69, 125, 19, 240, 238, 81, 54, 204, 49, 165, 27, 199, 98, 105, 191, 147, 16, 100, 17, 82, 49, 42, 151, 41, 85, 249, 182, 86] := by
  rw [Kc_eq]; exact macL_closed Kc _ [5, 1, 2, 0, 202, 225] _ _ _ kk kp kq (by decide +kernel) (by decide +kernel) du1 rfl du2 rfl
theorem dv1 : shaN ([55, 52, 53, 54, 54, 54, 54, 54, 54, 54, 54, 54, 54, 54, 54, 54, 54, 54, 54, 54, 54, 54, 54, 54, 54, 54, 54, 54, 54, 54, 54, 54, 54, 54, 54, 54, 54, 54, 54, 54, 54, 54, 54, 54, 54, 54, 54, 54, 54, 54, 54, 54, 54, 54, 54, 54, 54, 54, 54, 54, 54, 54, 54, 54] ++ [5, 1, 2, 1, 202, 225, 152]) = [141, 219, 188, 182, 89, 161, 62, 236, 72, 243, 160, 181, 18, 45, 135, 82, 223, 217, 52, 86, 217, 54, 220, 94, 226, 207, 53, 203, 42, 155, 238, 21] := by decide +kernel
theorem dv2 : shaN ([93, 94, 95, 92, 92, 92, 92, 92, 92, 92, 92, 92, 92, 92, 92, 92, 92, 92, 92, 92, 92, 92, 92, 92, 92, 92, 92, 92, 92, 92, 92, 92, 92, 92, 92, 92, 92, 92, 92, 92, 92, 92, 92, 92, 92, 92, 92, 92, 92, 92, 92, 92, 92, 92, 92, 92, 92, 92, 92, 92, 92, 92, 92, 92] ++ [141, 219, 188, 182, 89, 161, 62, 236, 72, 243, 160, 181, 18, 45, 135, 82, 223, 217, 52, 86, 217, 54, 220, 94, 226, 207, 53, 203, 42, 155, 238, 21]) = [210, 242, 111, 208, 92, 22, 211, 113, 118, 145, 220, 211, 125, 106, 143, 15, 132, 177, 229, 100, 187, 156, 88, 187, 176, 157, 205, 209, 93, 62, 108, 81] := by decide +kernel
theorem macv : keyL (mac (keyL Gc) (toI [5, 1, 2, 1, 202, 225, 152])) = toI [210, 242, 111, 208, 92, 22, 211, 113, 118, 145, 220, 211, 125, 106, 143, 15, 132, 177, 229, 100, 187, 156, 88, 187, 176, 157, 205, 209, 93, 62, 108, 81] := by
  rw [Kc_eq]; exact macL_closed Kc _ [5, 1, 2, 1, 202, 225, 152] _ _ _ kk kp kq (by decide +kernel) (by decide +kernel) dv1 rfl dv2 rfl

theorem row_c : rowsI [1, 2, 0] = [1, 2, 0] := by decide +kernel
theorem row_d : rowsI [1, 2, 1] = [1, 2, 1] := by decide +kernel
theorem row_0 : rowU 0 = [0] := by decide +kernel
theorem nonce_c : NonceOk [1, 2, 0] := by unfold NonceOk okU; decide
theorem nonce_d : NonceOk [1, 2, 1] := by unfold NonceOk okU; decide

theorem st_c (j : Nat) (hj : j < 32) : (keyL (mac (keyL Gc) [4, 1, 2, 0, 0]))[j]? = some (stF Gc [1, 2, 0] j) := by
  have h := stF_at Gc [1, 2, 0] 0 j hj
  rw [row_0, Nat.mul_zero, Nat.zero_add] at h
  rw [h]; unfold keyL; rw [List.getElem?_map, List.getElem?_range hj]; rfl
theorem st_0 : stF Gc [1, 2, 0] 0 = 171 := by
  have h := st_c 0 (by decide)
  rw [show ([4, 1, 2, 0, 0] : List Int) = toI [4, 1, 2, 0, 0] from rfl, macs] at h
  exact (Option.some.inj h).symm
theorem st_1 : stF Gc [1, 2, 0] 1 = 131 := by
  have h := st_c 1 (by decide)
  rw [show ([4, 1, 2, 0, 0] : List Int) = toI [4, 1, 2, 0, 0] from rfl, macs] at h
  exact (Option.some.inj h).symm
theorem st_2 : stF Gc [1, 2, 0] 2 = 251 := by
  have h := st_c 2 (by decide)
  rw [show ([4, 1, 2, 0, 0] : List Int) = toI [4, 1, 2, 0, 0] from rfl, macs] at h
  exact (Option.some.inj h).symm
theorem out_c : outL Gc [1, 2, 0] [97, 98, 99] = [202, 225, 152] := by
  show [bits .xor .u8 97 (stF Gc [1, 2, 0] 0), bits .xor .u8 98 (stF Gc [1, 2, 0] 1), bits .xor .u8 99 (stF Gc [1, 2, 0] 2)] = _
  rw [st_0, st_1, st_2]; decide
theorem tag_c : tagL Gc [1, 2, 0] [202, 225, 152] = [173, 213, 197, 197, 230, 225, 101, 182, 243, 226, 64, 199, 42, 234, 11, 111] := by
  unfold tagL macL; rw [show (5 :: ([1, 2, 0] ++ [202, 225, 152]) : List Int) = toI [5, 1, 2, 0, 202, 225, 152] from rfl, mact]; rfl
def Sc : List Int := [202, 225, 152, 173, 213, 197, 197, 230, 225, 101, 182, 243, 226, 64, 199, 42, 234, 11, 111]
theorem seal_c : sealL Gc [1, 2, 0] [97, 98, 99] = Sc := by
  unfold sealL; rw [out_c, tag_c]; rfl
theorem tag_u : tagL Gc [1, 2, 0] ((Sc.take 18).take 2) ≠ (Sc.take 18).drop 2 := by
  unfold tagL macL; rw [show (5 :: ([1, 2, 0] ++ (Sc.take 18).take 2) : List Int) = toI [5, 1, 2, 0, 202, 225] from rfl, macu]; decide
theorem tag_v : tagL Gc [1, 2, 1] (Sc.take 3) ≠ Sc.drop 3 := by
  unfold tagL macL; rw [show (5 :: ([1, 2, 1] ++ Sc.take 3) : List Int) = toI [5, 1, 2, 1, 202, 225, 152] from rfl, macv]; decide
theorem tag_w : tagL Gc [1, 2, 0] (Sc.take 3) = Sc.drop 3 := tag_c
theorem out_w : outL Gc [1, 2, 0] (Sc.take 3) = [97, 98, 99] := by
  show [bits .xor .u8 202 (stF Gc [1, 2, 0] 0), bits .xor .u8 225 (stF Gc [1, 2, 0] 1), bits .xor .u8 152 (stF Gc [1, 2, 0] 2)] = _
  rw [st_0, st_1, st_2]; decide
theorem Sc_rng : Rng Sc := rng_toI [202, 225, 152, 173, 213, 197, 197, 230, 225, 101, 182, 243, 226, 64, 199, 42, 234, 11, 111] (by decide)

end Go.Proofs.Ytppbaahaegmgeaa
