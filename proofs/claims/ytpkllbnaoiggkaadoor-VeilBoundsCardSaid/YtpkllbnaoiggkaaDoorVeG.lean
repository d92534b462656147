/- Labels' texts: Read at the texts of the examples. -/
import Derived.Test.YtpkllbnaoiggkaaDoorVeF
namespace Go.Proofs.YtpkllbnaoiggkaaDoor
open Go.RowKit

theorem Upd.of_drewN' (w : World) (n : Nat) : Upd [] w (w.drewN n) := (Upd.refl [] w).of_drewN n

theorem cut_3 (w : World) (m : Int) (h : w.cell? ⟨1, 0, none⟩ = some (.int .i64 m)) : Calls Tryd.prog 42 #[.string ⟨#[51]⟩, .string ⟨#[58]⟩] w fun e w' => e = .returned (.tuple #[.string ⟨#[51]⟩, .string ⟨#[]⟩, .bool false]) ∧ Upd [] w w' := by
  have k := Tryd.strings_Cut ⟨#[51]⟩ ⟨#[58]⟩ m w (by decide) h
  rw [show Lib.cut (⟨#[51]⟩ : ByteArray).data.toList (⟨#[58]⟩ : ByteArray).data.toList = ([51], [], false) by decide +kernel] at k
  exact k.mono fun e w' ⟨h1, n, h2⟩ => ⟨h1, h2 ▸ Upd.of_drewN' w n⟩
theorem cut_8 (w : World) (m : Int) (h : w.cell? ⟨1, 0, none⟩ = some (.int .i64 m)) : Calls Tryd.prog 42 #[.string ⟨#[56]⟩, .string ⟨#[58]⟩] w fun e w' => e = .returned (.tuple #[.string ⟨#[56]⟩, .string ⟨#[]⟩, .bool false]) ∧ Upd [] w w' := by
  have k := Tryd.strings_Cut ⟨#[56]⟩ ⟨#[58]⟩ m w (by decide) h
  rw [show Lib.cut (⟨#[56]⟩ : ByteArray).data.toList (⟨#[58]⟩ : ByteArray).data.toList = ([56], [], false) by decide +kernel] at k
  exact k.mono fun e w' ⟨h1, n, h2⟩ => ⟨h1, h2 ▸ Upd.of_drewN' w n⟩
theorem cut_z (w : World) (m : Int) (h : w.cell? ⟨1, 0, none⟩ = some (.int .i64 m)) : Calls Tryd.prog 42 #[.string ⟨#[51, 58, 48, 48, 48, 48, 48, 48, 48, 48]⟩, .string ⟨#[58]⟩] w fun e w' => e = .returned (.tuple #[.string ⟨#[51]⟩, .string ⟨#[48, 48, 48, 48, 48, 48, 48, 48]⟩, .bool true]) ∧ Upd [] w w' := by
  have k := Tryd.strings_Cut ⟨#[51, 58, 48, 48, 48, 48, 48, 48, 48, 48]⟩ ⟨#[58]⟩ m w (by decide) h
  rw [show Lib.cut (⟨#[51, 58, 48, 48, 48, 48, 48, 48, 48, 48]⟩ : ByteArray).data.toList (⟨#[58]⟩ : ByteArray).data.toList = ([51], [48, 48, 48, 48, 48, 48, 48, 48], true) by decide +kernel] at k
  exact k.mono fun e w' ⟨h1, n, h2⟩ => ⟨h1, h2 ▸ Upd.of_drewN' w n⟩
theorem cut_g (w : World) (m : Int) (h : w.cell? ⟨1, 0, none⟩ = some (.int .i64 m)) : Calls Tryd.prog 42 #[.string ⟨#[51, 58, 48, 48, 48, 48, 48, 48, 48, 71]⟩, .string ⟨#[58]⟩] w fun e w' => e = .returned (.tuple #[.string ⟨#[51]⟩, .string ⟨#[48, 48, 48, 48, 48, 48, 48, 71]⟩, .bool true]) ∧ Upd [] w w' := by
  have k := Tryd.strings_Cut ⟨#[51, 58, 48, 48, 48, 48, 48, 48, 48, 71]⟩ ⟨#[58]⟩ m w (by decide) h
  rw [show Lib.cut (⟨#[51, 58, 48, 48, 48, 48, 48, 48, 48, 71]⟩ : ByteArray).data.toList (⟨#[58]⟩ : ByteArray).data.toList = ([51], [48, 48, 48, 48, 48, 48, 48, 71], true) by decide +kernel] at k
  exact k.mono fun e w' ⟨h1, n, h2⟩ => ⟨h1, h2 ▸ Upd.of_drewN' w n⟩
theorem atoi_3 (w : World) : Calls Tryd.prog 43 #[.string ⟨#[51]⟩] w fun e w' => e = .returned (.tuple #[.int .i64 3, .nilIface]) ∧ Upd [] w w' :=
  (Tryd.strconv_Atoi ⟨#[51]⟩ 3 (by decide) (by decide +kernel) w).mono fun e w' ⟨h1, t, h2⟩ => ⟨h1, h2 ▸ Upd.bytesWorld w _ t⟩
theorem atoi_8 (w : World) : Calls Tryd.prog 43 #[.string ⟨#[56]⟩] w fun e w' => e = .returned (.tuple #[.int .i64 8, .nilIface]) ∧ Upd [] w w' :=
  (Tryd.strconv_Atoi ⟨#[56]⟩ 8 (by decide) (by decide +kernel) w).mono fun e w' ⟨h1, t, h2⟩ => ⟨h1, h2 ▸ Upd.bytesWorld w _ t⟩
theorem cf_3 (w : World) : Calls Tryd.prog 44 #[.string ⟨#[51]⟩, .func (.func 40) #[] #[]] w fun e w' => e = .returned (.bool false) ∧ Upd [] w w' := by
  have k := cfunc ⟨#[51]⟩ w
  rw [show decide (0 ≤ Lib.idxFunc (fun x => !hexR x) true ⟨#[51]⟩) = false by decide +kernel] at k
  exact k.mono fun e w' ⟨h1, h2⟩ => ⟨h1, Upd.of_below h2 (Nat.le_refl _) []⟩
theorem cf_8 (w : World) : Calls Tryd.prog 44 #[.string ⟨#[56]⟩, .func (.func 40) #[] #[]] w fun e w' => e = .returned (.bool false) ∧ Upd [] w w' := by
  have k := cfunc ⟨#[56]⟩ w
  rw [show decide (0 ≤ Lib.idxFunc (fun x => !hexR x) true ⟨#[56]⟩) = false by decide +kernel] at k
  exact k.mono fun e w' ⟨h1, h2⟩ => ⟨h1, Upd.of_below h2 (Nat.le_refl _) []⟩
theorem cf_z (w : World) : Calls Tryd.prog 44 #[.string ⟨#[51, 58, 48, 48, 48, 48, 48, 48, 48, 48]⟩, .func (.func 40) #[] #[]] w fun e w' => e = .returned (.bool false) ∧ Upd [] w w' := by
  have k := cfunc ⟨#[51, 58, 48, 48, 48, 48, 48, 48, 48, 48]⟩ w
  rw [show decide (0 ≤ Lib.idxFunc (fun x => !hexR x) true ⟨#[51, 58, 48, 48, 48, 48, 48, 48, 48, 48]⟩) = false by decide +kernel] at k
  exact k.mono fun e w' ⟨h1, h2⟩ => ⟨h1, Upd.of_below h2 (Nat.le_refl _) []⟩
theorem cf_g (w : World) : Calls Tryd.prog 44 #[.string ⟨#[51, 58, 48, 48, 48, 48, 48, 48, 48, 71]⟩, .func (.func 40) #[] #[]] w fun e w' => e = .returned (.bool true) ∧ Upd [] w w' := by
  have k := cfunc ⟨#[51, 58, 48, 48, 48, 48, 48, 48, 48, 71]⟩ w
  rw [show decide (0 ≤ Lib.idxFunc (fun x => !hexR x) true ⟨#[51, 58, 48, 48, 48, 48, 48, 48, 48, 71]⟩) = true by decide +kernel] at k
  exact k.mono fun e w' ⟨h1, h2⟩ => ⟨h1, Upd.of_below h2 (Nat.le_refl _) []⟩

set_option maxHeartbeats 1000000 in
set_option maxRecDepth 100000 in
theorem read_3 (w : World) (m : Int) (h : w.cell? ⟨1, 0, none⟩ = some (.int .i64 m)) :
    Calls Tryd.prog 24 #[.string ⟨#[51]⟩] w fun e w' => e = .returned (.tuple #[labV (3, 0), .int .i64 0]) ∧ Upd [] w w' := by
  have hlt : 1 < w.heap.size := lt_of_cell h
  have u1 := (Upd.refl [] w).alloc (.cells #[.int .i64 0, .int .u32 0] 24)
  have hA := Blk.new w #[.int .i64 0, .int .u32 0] 24
  have h1 : (w.alloc (.cells #[.int .i64 0, .int .u32 0] 24)).cell? ⟨1, 0, none⟩ = some (.int .i64 m) := by rw [u1.cell hlt (by simp)]; exact h
  generalize hW : w.alloc (.cells #[.int .i64 0, .int .u32 0] 24) = W at u1 hA h1
  generalize hg : w.heap.size = t2 at *
  have ht2 : w.heap.size ≤ t2 := by omega
  go_enter Tryd.func24, Tryd.ntmps24
  go_upto_region 1 with fail
  try rw [hW]
  try rw [hg]
  clear hW hg
  go_upto_region 6 with (first
    | (go_at_call 42; refine (cut_3 _ m h1).mono ?_; rintro e w3 ⟨rfl, hu3⟩)
    | (go_at_call 43; refine (atoi_3 _).mono ?_; rintro e w4 ⟨rfl, hu4⟩)
    | (go_at_call 44; refine (cf_3 _).mono ?_; rintro e w5 ⟨rfl, hu5⟩))
  have u5 := ((u1.trans_nil hu3).trans_nil hu4).trans_nil hu5
  have hA5 := ((hA.upd_nil hu3).upd_nil hu4).upd_nil hu5
  clear hu3 hu4 hu5 hA u1 h1
  have hl5 := hA5.lt
  have u6 := u5.alloc (.cells #[.int .i64 3, .int .u32 0] 24)
  have hA6 := hA5.alloc (.cells #[.int .i64 3, .int .u32 0] 24)
  have hL6 := Blk.new w5 #[.int .i64 3, .int .u32 0] 24
  go_upto_region 7 with fail
  generalize hW : w5.alloc (.cells #[.int .i64 3, .int .u32 0] 24) = W6 at u6 hA6 hL6
  try rw [hW]
  generalize hg : w5.heap.size = b6 at *
  try rw [hg]
  clear hW hg
  have l0 := hL6.cell 0 rfl
  have l1 := hL6.cell 1 rfl
  go_wp2_with (go_at_call 21; refine (text_30 _).mono ?_; rintro e w7 ⟨rfl, hu7⟩; have hA7 := hA6.upd_nil hu7; have hL7 := hL6.upd_nil hu7; have q0 := hL7.cell 0 rfl; have q1 := hL7.cell 1 rfl; have k0 := hA7.cell 0 rfl; have k1 := hA7.cell 1 rfl; have f0 := hA7.free 0; have f1 := hA7.free 1; have u7 := u6.trans_nil hu7)
  have hN := (hA7.set 0 (.int .i64 3)).set 1 (.int .u32 0)
  have hU := (u7.setCell (p := ⟨t2, 0, none⟩) (Or.inr ht2) (.int .i64 3)).setCell (p := ⟨t2, 1, none⟩) (Or.inr ht2) (.int .u32 0)
  generalize (w7.setCell ⟨t2, 0, none⟩ (.int .i64 3)).setCell ⟨t2, 1, none⟩ (.int .u32 0) = WF at hN hU ⊢
  have z0 := hN.cell 0 rfl
  have z1 := hN.cell 1 rfl
  exact bodyPost_ret (v := .tuple #[labV (3, 0), .int .i64 0]) (by simp [results, Tryd.results24, go_sem, z0, z1, labV]) rfl ⟨rfl, hU⟩

set_option maxHeartbeats 1000000 in
set_option maxRecDepth 100000 in
theorem read_8 (w : World) (m : Int) (h : w.cell? ⟨1, 0, none⟩ = some (.int .i64 m)) :
    Calls Tryd.prog 24 #[.string ⟨#[56]⟩] w fun e w' => e = .returned (.tuple #[labV (0, 0), .int .i64 4]) ∧ Upd [] w w' := by
  have hlt : 1 < w.heap.size := lt_of_cell h
  have u1 := (Upd.refl [] w).alloc (.cells #[.int .i64 0, .int .u32 0] 24)
  have hA := Blk.new w #[.int .i64 0, .int .u32 0] 24
  have h1 : (w.alloc (.cells #[.int .i64 0, .int .u32 0] 24)).cell? ⟨1, 0, none⟩ = some (.int .i64 m) := by rw [u1.cell hlt (by simp)]; exact h
  generalize hW : w.alloc (.cells #[.int .i64 0, .int .u32 0] 24) = W at u1 hA h1
  generalize hg : w.heap.size = t2 at *
  have ht2 : w.heap.size ≤ t2 := by omega
  go_enter Tryd.func24, Tryd.ntmps24
  go_upto_region 1 with fail
  try rw [hW]
  try rw [hg]
  clear hW hg
  go_upto_region 6 with (first
    | (go_at_call 42; refine (cut_8 _ m h1).mono ?_; rintro e w3 ⟨rfl, hu3⟩)
    | (go_at_call 43; refine (atoi_8 _).mono ?_; rintro e w4 ⟨rfl, hu4⟩)
    | (go_at_call 44; refine (cf_8 _).mono ?_; rintro e w5 ⟨rfl, hu5⟩))
  have u5 := ((u1.trans_nil hu3).trans_nil hu4).trans_nil hu5
  have hA5 := ((hA.upd_nil hu3).upd_nil hu4).upd_nil hu5
  clear hu3 hu4 hu5 hA u1 h1
  have hl5 := hA5.lt
  have u6 := u5.alloc (.cells #[.int .i64 8, .int .u32 0] 24)
  have hA6 := hA5.alloc (.cells #[.int .i64 8, .int .u32 0] 24)
  have hL6 := Blk.new w5 #[.int .i64 8, .int .u32 0] 24
  go_upto_region 7 with fail
  generalize hW : w5.alloc (.cells #[.int .i64 8, .int .u32 0] 24) = W6 at u6 hA6 hL6
  try rw [hW]
  generalize hg : w5.heap.size = b6 at *
  try rw [hg]
  clear hW hg
  have l0 := hL6.cell 0 rfl
  have l1 := hL6.cell 1 rfl
  go_wp2_with (go_at_call 21; refine (text_80 _).mono ?_; rintro e w7 ⟨rfl, hu7⟩; have hA7 := hA6.upd_nil hu7; have hL7 := hL6.upd_nil hu7; have q0 := hL7.cell 0 rfl; have q1 := hL7.cell 1 rfl; have k0 := hA7.cell 0 rfl; have k1 := hA7.cell 1 rfl; have f0 := hA7.free 0; have f1 := hA7.free 1; have u7 := u6.trans_nil hu7)
  have hN := (hA7.set 0 (.int .i64 0)).set 1 (.int .u32 0)
  have hU := (u7.setCell (p := ⟨t2, 0, none⟩) (Or.inr ht2) (.int .i64 0)).setCell (p := ⟨t2, 1, none⟩) (Or.inr ht2) (.int .u32 0)
  generalize (w7.setCell ⟨t2, 0, none⟩ (.int .i64 0)).setCell ⟨t2, 1, none⟩ (.int .u32 0) = WF at hN hU ⊢
  have z0 := hN.cell 0 rfl
  have z1 := hN.cell 1 rfl
  exact bodyPost_ret (v := .tuple #[labV (0, 0), .int .i64 4]) (by simp [results, Tryd.results24, go_sem, z0, z1, labV]) rfl ⟨rfl, hU⟩

set_option maxHeartbeats 1000000 in
set_option maxRecDepth 100000 in
theorem read_z (w : World) (m : Int) (h : w.cell? ⟨1, 0, none⟩ = some (.int .i64 m)) :
    Calls Tryd.prog 24 #[.string ⟨#[51, 58, 48, 48, 48, 48, 48, 48, 48, 48]⟩] w fun e w' => e = .returned (.tuple #[labV (0, 0), .int .i64 4]) ∧ Upd [] w w' := by
  have hlt : 1 < w.heap.size := lt_of_cell h
  have u1 := (Upd.refl [] w).alloc (.cells #[.int .i64 0, .int .u32 0] 24)
  have hA := Blk.new w #[.int .i64 0, .int .u32 0] 24
  have h1 : (w.alloc (.cells #[.int .i64 0, .int .u32 0] 24)).cell? ⟨1, 0, none⟩ = some (.int .i64 m) := by rw [u1.cell hlt (by simp)]; exact h
  generalize hW : w.alloc (.cells #[.int .i64 0, .int .u32 0] 24) = W at u1 hA h1
  generalize hg : w.heap.size = t2 at *
  have ht2 : w.heap.size ≤ t2 := by omega
  go_enter Tryd.func24, Tryd.ntmps24
  go_upto_region 1 with fail
  try rw [hW]
  try rw [hg]
  clear hW hg
  go_upto_region 6 with (first
    | (go_at_call 42; refine (cut_z _ m h1).mono ?_; rintro e w3 ⟨rfl, hu3⟩)
    | (go_at_call 43; refine (atoi_3 _).mono ?_; rintro e w4 ⟨rfl, hu4⟩)
    | (go_at_call 44; refine (cf_z _).mono ?_; rintro e w5 ⟨rfl, hu5⟩))
  have u5 := ((u1.trans_nil hu3).trans_nil hu4).trans_nil hu5
  have hA5 := ((hA.upd_nil hu3).upd_nil hu4).upd_nil hu5
  clear hu3 hu4 hu5 hA u1 h1
  have hl5 := hA5.lt
  have u6 := u5.alloc (.cells #[.int .i64 3, .int .u32 0] 24)
  have hA6 := hA5.alloc (.cells #[.int .i64 3, .int .u32 0] 24)
  have hL6 := Blk.new w5 #[.int .i64 3, .int .u32 0] 24
  go_upto_region 7 with fail
  generalize hW : w5.alloc (.cells #[.int .i64 3, .int .u32 0] 24) = W6 at u6 hA6 hL6
  try rw [hW]
  generalize hg : w5.heap.size = b6 at *
  try rw [hg]
  clear hW hg
  have l0 := hL6.cell 0 rfl
  have l1 := hL6.cell 1 rfl
  have fl1 := hL6.free 1
  go_upto_region 12 with (go_at_call 45; refine (parse_0 _).mono ?_; rintro e w7 ⟨rfl, hu7⟩; have hA7 := hA6.upd_nil hu7; have hL7 := hL6.upd_nil hu7; have q0 := hL7.cell 0 rfl; have q1 := hL7.cell 1 rfl; have g1 := hL7.free 1; have u7 := u6.trans_nil hu7)
  have hA8 := hA7.set_ne ⟨b6, 1, none⟩ (by show t2 ≠ b6; omega) (.int .u32 0)
  have hL8 := hL7.set 1 (.int .u32 0)
  have u8 := u7.setCell (p := ⟨b6, 1, none⟩) (Or.inr (by show w.heap.size ≤ b6; omega)) (.int .u32 0)
  generalize w7.setCell ⟨b6, 1, none⟩ (.int .u32 0) = W8 at hA8 hL8 u8 ⊢
  have m0 := hL8.cell 0 rfl
  have m1 := hL8.cell 1 rfl
  go_wp2_with (go_at_call 21; refine (text_30 _).mono ?_; rintro e w9 ⟨rfl, hu9⟩; have hA9 := hA8.upd_nil hu9; have k0 := hA9.cell 0 rfl; have k1 := hA9.cell 1 rfl; have f0 := hA9.free 0; have f1 := hA9.free 1; have u9 := u8.trans_nil hu9)
  have hN := (hA9.set 0 (.int .i64 0)).set 1 (.int .u32 0)
  have hU := (u9.setCell (p := ⟨t2, 0, none⟩) (Or.inr ht2) (.int .i64 0)).setCell (p := ⟨t2, 1, none⟩) (Or.inr ht2) (.int .u32 0)
  generalize (w9.setCell ⟨t2, 0, none⟩ (.int .i64 0)).setCell ⟨t2, 1, none⟩ (.int .u32 0) = WF at hN hU ⊢
  have z0 := hN.cell 0 rfl
  have z1 := hN.cell 1 rfl
  exact bodyPost_ret (v := .tuple #[labV (0, 0), .int .i64 4]) (by simp [results, Tryd.results24, go_sem, z0, z1, labV]) rfl ⟨rfl, hU⟩

set_option maxHeartbeats 1000000 in
set_option maxRecDepth 100000 in
theorem read_g (w : World) (m : Int) (h : w.cell? ⟨1, 0, none⟩ = some (.int .i64 m)) :
    Calls Tryd.prog 24 #[.string ⟨#[51, 58, 48, 48, 48, 48, 48, 48, 48, 71]⟩] w fun e w' => e = .returned (.tuple #[labV (0, 0), .int .i64 4]) ∧ Upd [] w w' := by
  have hlt : 1 < w.heap.size := lt_of_cell h
  have u1 := (Upd.refl [] w).alloc (.cells #[.int .i64 0, .int .u32 0] 24)
  have hA := Blk.new w #[.int .i64 0, .int .u32 0] 24
  have h1 : (w.alloc (.cells #[.int .i64 0, .int .u32 0] 24)).cell? ⟨1, 0, none⟩ = some (.int .i64 m) := by rw [u1.cell hlt (by simp)]; exact h
  generalize hW : w.alloc (.cells #[.int .i64 0, .int .u32 0] 24) = W at u1 hA h1
  generalize hg : w.heap.size = t2 at *
  have ht2 : w.heap.size ≤ t2 := by omega
  go_enter Tryd.func24, Tryd.ntmps24
  go_upto_region 1 with fail
  try rw [hW]
  try rw [hg]
  clear hW hg
  go_wp2_with (first
    | (go_at_call 42; refine (cut_g _ m h1).mono ?_; rintro e w3 ⟨rfl, hu3⟩)
    | (go_at_call 43; refine (atoi_3 _).mono ?_; rintro e w4 ⟨rfl, hu4⟩)
    | (go_at_call 44; refine (cf_g _).mono ?_; rintro e w5 ⟨rfl, hu5⟩; have u5 := ((u1.trans_nil hu3).trans_nil hu4).trans_nil hu5; have hA5 := ((hA.upd_nil hu3).upd_nil hu4).upd_nil hu5; have k0 := hA5.cell 0 rfl; have k1 := hA5.cell 1 rfl; have f0 := hA5.free 0; have f1 := hA5.free 1))
  have hN := (hA5.set 0 (.int .i64 0)).set 1 (.int .u32 0)
  have hU := (u5.setCell (p := ⟨t2, 0, none⟩) (Or.inr ht2) (.int .i64 0)).setCell (p := ⟨t2, 1, none⟩) (Or.inr ht2) (.int .u32 0)
  generalize (w5.setCell ⟨t2, 0, none⟩ (.int .i64 0)).setCell ⟨t2, 1, none⟩ (.int .u32 0) = WF at hN hU ⊢
  have z0 := hN.cell 0 rfl
  have z1 := hN.cell 1 rfl
  exact bodyPost_ret (v := .tuple #[labV (0, 0), .int .i64 4]) (by simp [results, Tryd.results24, go_sem, z0, z1, labV]) rfl ⟨rfl, hU⟩

end Go.Proofs.YtpkllbnaoiggkaaDoor
