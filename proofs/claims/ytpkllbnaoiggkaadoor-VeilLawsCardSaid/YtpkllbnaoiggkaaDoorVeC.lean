/- Labels' texts: FormatUint of one hex digit. -/
import Derived.Test.YtpkllbnaoiggkaaDoorShelf
import Derived.Test.YtpkllbnaoiggkaaDoorVeB
namespace Go.Proofs.YtpkllbnaoiggkaaDoor
open Go.RowKit

set_option maxRecDepth 100000 in
theorem pow2_16 (w : World) : Calls Tryd.prog 92 #[.int .i64 16] w fun e w' => e = .returned (.bool true) ∧ w' = w := by
  go_enter Tryd.func92, Tryd.ntmps92
  go_wp2_with fail
  go_ret
  exact ⟨rfl, rfl⟩

set_option maxRecDepth 100000 in
theorem tz64_16 (w : World) (h : w.cell? ⟨5, 15, none⟩ = some (.int .u8 4)) : Calls Tryd.prog 102 #[.int .u64 16] w fun e w' => e = .returned (.int .i64 4) ∧ w' = w := by
  have e1 : IntKind.u64.wrap (-16) = 18446744073709551600 := by decide +kernel
  have e2 : bits BinOp.and IntKind.u64 16 18446744073709551600 = 16 := by decide +kernel
  have e3 : IntKind.u64.wrap (16 * 285870213051353865) = 4573923408821661840 := by decide +kernel
  have e4 : (4573923408821661840 : Int) / 288230376151711744 = 15 := by decide +kernel
  go_enter Tryd.func102, Tryd.ntmps102
  go_wp2_with fail
  go_ret
  exact ⟨rfl, rfl⟩

set_option maxRecDepth 100000 in
theorem tz_16 (w : World) (h : w.cell? ⟨5, 15, none⟩ = some (.int .u8 4)) : Calls Tryd.prog 93 #[.int .u64 16] w fun e w' => e = .returned (.int .i64 4) ∧ w' = w := by
  go_enter Tryd.func93, Tryd.ntmps93
  go_wp2_with (go_at_call 102; refine (tz64_16 _ h).mono ?_; rintro e w3 ⟨rfl, rfl⟩)
  go_ret
  exact ⟨rfl, rfl⟩

set_option maxRecDepth 100000 in
theorem fmtBits_7 (w : World) (h : w.cell? ⟨5, 15, none⟩ = some (.int .u8 4)) : Calls Tryd.prog 68 #[.slice none 0 0, .int .u64 7, .int .i64 16, .bool false, .bool false] w fun e w' => e = .returned (.tuple #[.slice none 0 0, .string ⟨#[55]⟩]) ∧ Upd [] w w' := by
  have hlt : 5 < w.heap.size := lt_of_cell h
  have e2 : bits BinOp.and IntKind.u64 7 15 = 7 := by decide +kernel
  have hB := Blk.new w Tryd.zeroCells117 117
  have u1 := (Upd.refl [] w).alloc (.cells Tryd.zeroCells117 117)
  have hf := hB.free 64
  have hh : (w.alloc (.cells Tryd.zeroCells117 117)).cell? ⟨5, 15, none⟩ = some (.int .u8 4) := by rw [u1.cell hlt (by simp)]; exact h
  have hc64 : (w.alloc (.cells Tryd.zeroCells117 117)).cell? ⟨w.heap.size, 64, none⟩ = some (.int .u8 0) := hB.cell 64 (by kernel_rfl)
  have u1' := (Upd.refl [] w).alloc (.cells (Tryd.zeroCells117.setIfInBounds 64 (.int .u8 55)) 117)
  have c64 := (Blk.new w (Tryd.zeroCells117.setIfInBounds 64 (.int .u8 55)) 117).cell 64 (v := .int .u8 55) (by kernel_rfl)
  have hcv := run_convert_bytes_arg (P := Tryd.prog) (w.alloc (.cells (Tryd.zeroCells117.setIfInBounds 64 (.int .u8 55)) 117)) 37 5 Tryd.underlying37 Tryd.underlying5 w.heap.size 64 1 1 [55] rfl (fun i hi => by
      have : i = 0 := by omega
      subst this; exact c64) 9 Tryd.underlying9
  have hcv' : (convert 37 9 (.slice (some ⟨w.heap.size, 64, none⟩) 1 1)).run Tryd.prog (w.alloc (.cells (Tryd.zeroCells117.setIfInBounds 64 (.int .u8 55)) 117)) = .ok (.string ⟨#[55]⟩) (w.alloc (.cells (Tryd.zeroCells117.setIfInBounds 64 (.int .u8 55)) 117)) := hcv
  clear hcv
  go_enter Tryd.func68, Tryd.ntmps68
  go_wp2_with (first | (go_at_call 92; refine (pow2_16 _).mono ?_; rintro e w3 ⟨rfl, rfl⟩) | (go_at_call 93; refine (tz_16 _ hh).mono ?_; rintro e w3 ⟨rfl, rfl⟩))
  go_loopw [1, 13] (fun uv iv wr => uv = .int .u64 7 ∧ iv = .int .i64 65 ∧ wr = w.alloc (.cells Tryd.zeroCells117 117)) (fun _ _ _ => 0)
  case atStart => exact ⟨rfl, rfl, rfl⟩
  case round =>
    obtain ⟨rfl, rfl, rfl⟩ := hrel
    go_wp2_with fail
    change Oper.upon _ _ _ _ _ ((Sem.run Tryd.prog (convert 37 9 (.slice (some ⟨w.heap.size, 64, none⟩) 1 1)) (w.alloc (.cells (Tryd.zeroCells117.setIfInBounds 64 (.int .u8 55)) 117))).andThen _)
    rw [hcv']
    go_wp2_with fail
    exact bodyPost_ret (v := .tuple #[.slice none 0 0, .string ⟨#[55]⟩]) (by simp [results, Tryd.results68, go_sem]) rfl ⟨rfl, u1'⟩

set_option maxRecDepth 100000 in
theorem ifmtUint_7 (w : World) (h : w.cell? ⟨5, 15, none⟩ = some (.int .u8 4)) : Calls Tryd.prog 49 #[.int .u64 7, .int .i64 16] w fun e w' => e = .returned (.string ⟨#[55]⟩) ∧ Upd [] w w' := by
  go_enter Tryd.func49, Tryd.ntmps49
  go_wp2_with (go_at_call 68; refine (fmtBits_7 _ h).mono ?_; rintro e w3 ⟨rfl, hu3⟩)
  go_ret
  exact ⟨rfl, hu3⟩

set_option maxRecDepth 100000 in
theorem fmtUint_7 (w : World) (h : w.cell? ⟨5, 15, none⟩ = some (.int .u8 4)) : Calls Tryd.prog 35 #[.int .u64 7, .int .i64 16] w fun e w' => e = .returned (.string ⟨#[55]⟩) ∧ Upd [] w w' := by
  go_enter Tryd.func35, Tryd.ntmps35
  go_wp2_with (go_at_call 49; refine (ifmtUint_7 _ h).mono ?_; rintro e w3 ⟨rfl, hu3⟩)
  go_ret
  exact ⟨rfl, hu3⟩

end Go.Proofs.YtpkllbnaoiggkaaDoor
