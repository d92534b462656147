/- Labels' texts: Text at the labels of the examples. -/
import Derived.Test.YtpkllbnaoiggkaaDoorVeC
namespace Go.Proofs.YtpkllbnaoiggkaaDoor
open Go.RowKit

theorem itoa_2 (w : World) : Calls Tryd.prog 34 #[.int .i64 2] w fun e w' => e = .returned (.string ⟨#[50]⟩) ∧ w' = w := by
  have h := Tryd.strconv_Itoa_small 2 (by decide) w
  rw [show Lib.decDigits 2 = [50] by decide +kernel] at h
  exact h
theorem itoa_3 (w : World) : Calls Tryd.prog 34 #[.int .i64 3] w fun e w' => e = .returned (.string ⟨#[51]⟩) ∧ w' = w := by
  have h := Tryd.strconv_Itoa_small 3 (by decide) w
  rw [show Lib.decDigits 3 = [51] by decide +kernel] at h
  exact h
theorem rep_7 (w : World) : Calls Tryd.prog 36 #[.string ⟨#[48]⟩, .int .i64 7] w fun e w' => e = .returned (.string ⟨#[48, 48, 48, 48, 48, 48, 48]⟩) ∧ Below w.heap.size w w' := by
  have h := Tryd.strings_Repeat ⟨#[48]⟩ 7 w (by decide) (by decide)
  rw [show Lib.repeatL (⟨#[48]⟩ : ByteArray).data.toList 7 = [48, 48, 48, 48, 48, 48, 48] by decide +kernel] at h
  exact h

set_option maxRecDepth 100000 in
theorem text_27 (w : World) (h : w.cell? ⟨5, 15, none⟩ = some (.int .u8 4)) :
    Calls Tryd.prog 21 #[labV (2, 7)] w fun e w' => e = .returned (.string ⟨#[50, 58, 48, 48, 48, 48, 48, 48, 48, 55]⟩) ∧ Upd [] w w' := by
  have hlt : 5 < w.heap.size := lt_of_cell h
  have u1 := (Upd.refl [] w).alloc (.cells #[.int .i64 2, .int .u32 7] 24)
  have hA := Blk.new w #[.int .i64 2, .int .u32 7] 24
  generalize hW : w.alloc (.cells #[.int .i64 2, .int .u32 7] 24) = W at u1 hA
  have a0 := hA.cell 0 rfl
  have a1 := hA.cell 1 rfl
  have u2 := u1.alloc (.cells #[.int .i64 2, .int .u32 7] 24)
  have hD := LabsAt.one (x := (2, 7)) (Blk.new W #[.int .i64 2, .int .u32 7] 24)
  have hA2 := hA.alloc (.cells #[.int .i64 2, .int .u32 7] 24)
  generalize hg : w.heap.size = t2 at *
  go_enter Tryd.func21, Tryd.ntmps21
  unfold labV
  go_upto_region 1 with fail
  try rw [hW]
  try rw [hg]
  clear hW
  go_wp2_with (first
    | (go_at_call 29; refine (vmay hD 1 (by simp [maxLen])).mono ?_; rw [show ([(2, 7)] : List Lab).all mayL = true by decide]; rintro e w3 ⟨rfl, hu3⟩; have hA3 := hA2.upd_nil hu3; have p0 := hA3.cell 0 rfl; have p1 := hA3.cell 1 rfl; have u3 := u2.trans_nil hu3; have h3 : w3.cell? ⟨5, 15, none⟩ = some (.int .u8 4) := by rw [u3.cell (by show 5 < w.heap.size; omega) (by simp)]; exact h)
    | (go_at_call 34; refine (itoa_2 _).mono ?_; rintro e w4 ⟨rfl, rfl⟩)
    | (go_at_call 35; refine (fmtUint_7 _ h3).mono ?_; rintro e w5 ⟨rfl, hu5⟩)
    | (go_at_call 36; refine (rep_7 _).mono ?_; rintro e w6 ⟨rfl, hb6⟩))
  go_ret
  exact ⟨rfl, (u3.trans_nil hu5).trans_nil (Upd.of_below hb6 (Nat.le_refl _) [])⟩

set_option maxRecDepth 100000 in
theorem text_30 (w : World) :
    Calls Tryd.prog 21 #[labV (3, 0)] w fun e w' => e = .returned (.string ⟨#[51]⟩) ∧ Upd [] w w' := by
  have u1 := (Upd.refl [] w).alloc (.cells #[.int .i64 3, .int .u32 0] 24)
  have hA := Blk.new w #[.int .i64 3, .int .u32 0] 24
  generalize hW : w.alloc (.cells #[.int .i64 3, .int .u32 0] 24) = W at u1 hA
  have a0 := hA.cell 0 rfl
  have a1 := hA.cell 1 rfl
  have u2 := u1.alloc (.cells #[.int .i64 3, .int .u32 0] 24)
  have hD := LabsAt.one (x := (3, 0)) (Blk.new W #[.int .i64 3, .int .u32 0] 24)
  have hA2 := hA.alloc (.cells #[.int .i64 3, .int .u32 0] 24)
  generalize hg : w.heap.size = t2 at *
  go_enter Tryd.func21, Tryd.ntmps21
  unfold labV
  go_upto_region 1 with fail
  try rw [hW]
  try rw [hg]
  clear hW
  go_wp2_with (first
    | (go_at_call 29; refine (vmay hD 1 (by simp [maxLen])).mono ?_; rw [show ([(3, 0)] : List Lab).all mayL = true by decide]; rintro e w3 ⟨rfl, hu3⟩; have hA3 := hA2.upd_nil hu3; have p0 := hA3.cell 0 rfl; have p1 := hA3.cell 1 rfl; have u3 := u2.trans_nil hu3)
    | (go_at_call 34; refine (itoa_3 _).mono ?_; rintro e w4 ⟨rfl, rfl⟩))
  go_ret
  exact ⟨rfl, u3⟩

set_option maxRecDepth 100000 in
theorem text_80 (w : World) :
    Calls Tryd.prog 21 #[labV (8, 0)] w fun e w' => e = .returned (.string ⟨#[]⟩) ∧ Upd [] w w' := by
  have u1 := (Upd.refl [] w).alloc (.cells #[.int .i64 8, .int .u32 0] 24)
  have hA := Blk.new w #[.int .i64 8, .int .u32 0] 24
  generalize hW : w.alloc (.cells #[.int .i64 8, .int .u32 0] 24) = W at u1 hA
  have a0 := hA.cell 0 rfl
  have a1 := hA.cell 1 rfl
  have u2 := u1.alloc (.cells #[.int .i64 8, .int .u32 0] 24)
  have hD := LabsAt.one (x := (8, 0)) (Blk.new W #[.int .i64 8, .int .u32 0] 24)
  generalize hg : w.heap.size = t2 at *
  go_enter Tryd.func21, Tryd.ntmps21
  unfold labV
  go_upto_region 1 with fail
  try rw [hW]
  try rw [hg]
  clear hW
  go_wp2_with (go_at_call 29; refine (vmay hD 1 (by simp [maxLen])).mono ?_; rw [show ([(8, 0)] : List Lab).all mayL = false by decide]; rintro e w3 ⟨rfl, hu3⟩; have u3 := u2.trans_nil hu3)
  go_ret
  exact ⟨rfl, u3⟩

end Go.Proofs.YtpkllbnaoiggkaaDoor
