/- Labels' texts: ParseUint of eight zeros; the closure of Read. -/
import Derived.Test.YtpkllbnaoiggkaaDoorVeD
namespace Go.Proofs.YtpkllbnaoiggkaaDoor
open Go.RowKit

def zeros8 : ByteArray := ⟨#[48, 48, 48, 48, 48, 48, 48, 48]⟩
theorem zeros8_get (k : Nat) (h : k < 8) : (zeros8.data.toList.getD k 0).toNat = 48 := by
  have : ∀ k, k < 8 → (zeros8.data.toList.getD k 0).toNat = 48 := by decide +kernel
  exact this k h

theorem Upd.bytesWorld (w : World) (e : TypeId) (s : ByteArray) : Upd [] w (Lib.bytesWorld w e s) :=
  ⟨rfl, rfl, rfl, by rw [Lib.bytesWorld_size]; omega, fun k hk _ => Lib.bytesWorld_at_old w e s k hk⟩

set_option maxRecDepth 100000 in
theorem iparse_0 (w : World) : Calls Tryd.prog 62 #[.string ⟨#[48, 48, 48, 48, 48, 48, 48, 48]⟩, .int .i64 16, .int .i64 32] w fun e w' => e = .returned (.tuple #[.int .u64 0, .nilIface]) ∧ Upd [] w w' := by
  have hcv := Lib.run_convert_string_bytes (P := Tryd.prog) w 9 37 5 ⟨#[48, 48, 48, 48, 48, 48, 48, 48]⟩ (u := .string) Tryd.underlying9 Tryd.underlying37 Tryd.underlying5
  have hB : ∀ j, j < 8 → (Lib.bytesWorld w 5 ⟨#[48, 48, 48, 48, 48, 48, 48, 48]⟩).cell? ⟨w.heap.size, j, none⟩ = some (.int .u8 48) := fun j hj => by
    have h := Lib.bytesWorld_cell w 5 zeros8 j hj
    rw [zeros8_get j hj] at h
    exact h
  have u1 := Upd.bytesWorld w 5 ⟨#[48, 48, 48, 48, 48, 48, 48, 48]⟩
  generalize Lib.bytesWorld w 5 ⟨#[48, 48, 48, 48, 48, 48, 48, 48]⟩ = W1 at hcv hB u1
  rw [show (⟨#[48, 48, 48, 48, 48, 48, 48, 48]⟩ : ByteArray).size = 8 by decide +kernel] at hcv
  generalize grownCap w 8 0 5 = cap at hcv
  go_enter Tryd.func62, Tryd.ntmps62
  go_upto_region 35 with fail
  go_wp2_with fail
  go_loopw [12, 13, 101] (fun vu vn vi wr => ∃ k : Nat, k ≤ 8 ∧ vu = .bool false ∧ vn = .int .u64 0 ∧ vi = .int .i64 k ∧ wr = W1) (fun _ _ vi _ => 8 - (intOf vi).toNat)
  case atStart => exact ⟨0, by omega, rfl, rfl, rfl, rfl⟩
  case round =>
    obtain ⟨k, hk, rfl, rfl, rfl, rfl⟩ := hrel
    by_cases hlt : k < 8
    · have hc := hB k hlt
      go_wp2_with fail
      exact ⟨⟨k + 1, by omega, rfl, rfl, by go_num, by first | rfl | trivial⟩, by simp [intOf]; omega⟩
    · obtain rfl : k = 8 := by omega
      go_wp2_with fail
      exact bodyPost_ret (v := .tuple #[.int .u64 0, .nilIface]) (by simp [results, Tryd.results62, go_sem]) rfl ⟨rfl, u1⟩

set_option maxRecDepth 100000 in
theorem parse_0 (w : World) : Calls Tryd.prog 45 #[.string ⟨#[48, 48, 48, 48, 48, 48, 48, 48]⟩, .int .i64 16, .int .i64 32] w fun e w' => e = .returned (.tuple #[.int .u64 0, .nilIface]) ∧ Upd [] w w' := by
  go_enter Tryd.func45, Tryd.ntmps45
  go_wp2_with (go_at_call 62; refine (iparse_0 _).mono ?_; rintro e w3 ⟨rfl, hu3⟩)
  exact bodyPost_ret (v := .tuple #[.int .u64 0, .nilIface]) (by simp [results, Tryd.results45, go_sem]) rfl ⟨rfl, hu3⟩

end Go.Proofs.YtpkllbnaoiggkaaDoor
