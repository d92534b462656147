/- SHA-256's turn of a word. -/
import Derived.Test.YtppbaahaegmgeaaChecked
import Derived.Test.YtppbaahaegmgeaaBase
import Derived.RegionTactic
import Derived.ChangeAlike
import Derived.Deep.DeepCutAuto
import Derived.StillTailTactics
import Derived.Laws.BitsAllLaws
namespace Go.Proofs.Ytppbaahaegmgeaa
open Go.RowKit

/-- A word turned to the right, by n of 1 to 31. -/
def rotr (x : Int) (n : Nat) : Int := bits BinOp.or IntKind.u32 (shl32 x (32 - n)) (x / 2 ^ n)

theorem ret_rotr (x : Int) (n : Nat) : Ending.returned (.int .u32 (bits BinOp.or IntKind.u32 (shl32 x (32 - n)) (x / 2 ^ n))) = .returned (.int .u32 (rotr x n)) := rfl

theorem turn_2 (x : Int) (h0 : 0 ≤ x) (h1 : x < 4294967296) (w : World) :
    Calls Try.prog 61 #[.int .u32 x, .int .i64 2] w fun e w' => e = .returned (.int .u32 (rotr x 2)) ∧ w = w' := by
  have e : bits BinOp.and IntKind.u64 (IntKind.u64.wrap (-2)) 31 = 30 := by decide +kernel
  have hs := fun w => run_shl32 Try.prog x 30 .u64 (by omega) w
  go_enter Try.func61, Try.ntmps61
  go_wp2
  go_ret
  exact ⟨ret_rotr x 2, rfl⟩

theorem turn_6 (x : Int) (h0 : 0 ≤ x) (h1 : x < 4294967296) (w : World) :
    Calls Try.prog 61 #[.int .u32 x, .int .i64 6] w fun e w' => e = .returned (.int .u32 (rotr x 6)) ∧ w = w' := by
  have e : bits BinOp.and IntKind.u64 (IntKind.u64.wrap (-6)) 31 = 26 := by decide +kernel
  have hs := fun w => run_shl32 Try.prog x 26 .u64 (by omega) w
  go_enter Try.func61, Try.ntmps61
  go_wp2
  go_ret
  exact ⟨ret_rotr x 6, rfl⟩

theorem turn_7 (x : Int) (h0 : 0 ≤ x) (h1 : x < 4294967296) (w : World) :
    Calls Try.prog 61 #[.int .u32 x, .int .i64 7] w fun e w' => e = .returned (.int .u32 (rotr x 7)) ∧ w = w' := by
  have e : bits BinOp.and IntKind.u64 (IntKind.u64.wrap (-7)) 31 = 25 := by decide +kernel
  have hs := fun w => run_shl32 Try.prog x 25 .u64 (by omega) w
  go_enter Try.func61, Try.ntmps61
  go_wp2
  go_ret
  exact ⟨ret_rotr x 7, rfl⟩

theorem turn_11 (x : Int) (h0 : 0 ≤ x) (h1 : x < 4294967296) (w : World) :
    Calls Try.prog 61 #[.int .u32 x, .int .i64 11] w fun e w' => e = .returned (.int .u32 (rotr x 11)) ∧ w = w' := by
  have e : bits BinOp.and IntKind.u64 (IntKind.u64.wrap (-11)) 31 = 21 := by decide +kernel
  have hs := fun w => run_shl32 Try.prog x 21 .u64 (by omega) w
  go_enter Try.func61, Try.ntmps61
  go_wp2
  go_ret
  exact ⟨ret_rotr x 11, rfl⟩

theorem turn_13 (x : Int) (h0 : 0 ≤ x) (h1 : x < 4294967296) (w : World) :
    Calls Try.prog 61 #[.int .u32 x, .int .i64 13] w fun e w' => e = .returned (.int .u32 (rotr x 13)) ∧ w = w' := by
  have e : bits BinOp.and IntKind.u64 (IntKind.u64.wrap (-13)) 31 = 19 := by decide +kernel
  have hs := fun w => run_shl32 Try.prog x 19 .u64 (by omega) w
  go_enter Try.func61, Try.ntmps61
  go_wp2
  go_ret
  exact ⟨ret_rotr x 13, rfl⟩

theorem turn_17 (x : Int) (h0 : 0 ≤ x) (h1 : x < 4294967296) (w : World) :
    Calls Try.prog 61 #[.int .u32 x, .int .i64 17] w fun e w' => e = .returned (.int .u32 (rotr x 17)) ∧ w = w' := by
  have e : bits BinOp.and IntKind.u64 (IntKind.u64.wrap (-17)) 31 = 15 := by decide +kernel
  have hs := fun w => run_shl32 Try.prog x 15 .u64 (by omega) w
  go_enter Try.func61, Try.ntmps61
  go_wp2
  go_ret
  exact ⟨ret_rotr x 17, rfl⟩

theorem turn_18 (x : Int) (h0 : 0 ≤ x) (h1 : x < 4294967296) (w : World) :
    Calls Try.prog 61 #[.int .u32 x, .int .i64 18] w fun e w' => e = .returned (.int .u32 (rotr x 18)) ∧ w = w' := by
  have e : bits BinOp.and IntKind.u64 (IntKind.u64.wrap (-18)) 31 = 14 := by decide +kernel
  have hs := fun w => run_shl32 Try.prog x 14 .u64 (by omega) w
  go_enter Try.func61, Try.ntmps61
  go_wp2
  go_ret
  exact ⟨ret_rotr x 18, rfl⟩

theorem turn_19 (x : Int) (h0 : 0 ≤ x) (h1 : x < 4294967296) (w : World) :
    Calls Try.prog 61 #[.int .u32 x, .int .i64 19] w fun e w' => e = .returned (.int .u32 (rotr x 19)) ∧ w = w' := by
  have e : bits BinOp.and IntKind.u64 (IntKind.u64.wrap (-19)) 31 = 13 := by decide +kernel
  have hs := fun w => run_shl32 Try.prog x 13 .u64 (by omega) w
  go_enter Try.func61, Try.ntmps61
  go_wp2
  go_ret
  exact ⟨ret_rotr x 19, rfl⟩

theorem turn_22 (x : Int) (h0 : 0 ≤ x) (h1 : x < 4294967296) (w : World) :
    Calls Try.prog 61 #[.int .u32 x, .int .i64 22] w fun e w' => e = .returned (.int .u32 (rotr x 22)) ∧ w = w' := by
  have e : bits BinOp.and IntKind.u64 (IntKind.u64.wrap (-22)) 31 = 10 := by decide +kernel
  have hs := fun w => run_shl32 Try.prog x 10 .u64 (by omega) w
  go_enter Try.func61, Try.ntmps61
  go_wp2
  go_ret
  exact ⟨ret_rotr x 22, rfl⟩

theorem turn_25 (x : Int) (h0 : 0 ≤ x) (h1 : x < 4294967296) (w : World) :
    Calls Try.prog 61 #[.int .u32 x, .int .i64 25] w fun e w' => e = .returned (.int .u32 (rotr x 25)) ∧ w = w' := by
  have e : bits BinOp.and IntKind.u64 (IntKind.u64.wrap (-25)) 31 = 7 := by decide +kernel
  have hs := fun w => run_shl32 Try.prog x 7 .u64 (by omega) w
  go_enter Try.func61, Try.ntmps61
  go_wp2
  go_ret
  exact ⟨ret_rotr x 25, rfl⟩

theorem turn_any (x : Int) (n : Int) (h0 : 0 ≤ x) (h1 : x < 4294967296) (hn : n = 2 ∨ n = 6 ∨ n = 7 ∨ n = 11 ∨ n = 13 ∨ n = 17 ∨ n = 18 ∨ n = 19 ∨ n = 22 ∨ n = 25) (w : World) :
    Calls Try.prog 61 #[.int .u32 x, .int .i64 n] w fun e w' => e = .returned (.int .u32 (rotr x n.toNat)) ∧ w = w' := by
  rcases hn with rfl | rfl | rfl | rfl | rfl | rfl | rfl | rfl | rfl | rfl
  · exact turn_2 x h0 h1 w
  · exact turn_6 x h0 h1 w
  · exact turn_7 x h0 h1 w
  · exact turn_11 x h0 h1 w
  · exact turn_13 x h0 h1 w
  · exact turn_17 x h0 h1 w
  · exact turn_18 x h0 h1 w
  · exact turn_19 x h0 h1 w
  · exact turn_22 x h0 h1 w
  · exact turn_25 x h0 h1 w

end Go.Proofs.Ytppbaahaegmgeaa
