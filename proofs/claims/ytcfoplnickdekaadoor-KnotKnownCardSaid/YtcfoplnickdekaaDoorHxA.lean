/- A byte's text to the base 16: FormatInt. -/
import Derived.Test.YtcfoplnickdekaaDoorShelf
import Derived.Test.YtcfoplnickdekaaDoorBase
namespace Go.Proofs.YtcfoplnickdekaaDoor
open Go.RowKit

/-- A digit's byte. -/
def hx (d : Nat) : Nat := if d < 10 then 48 + d else 87 + d
def hxAll : ByteArray := ⟨#[48, 49, 50, 51, 52, 53, 54, 55, 56, 57, 97, 98, 99, 100, 101, 102, 103, 104, 105, 106, 107, 108, 109, 110, 111, 112, 113, 114, 115, 116, 117, 118, 119, 120, 121, 122]⟩
theorem hx_at : ∀ d, d < 16 → hxAll[d]? = some (UInt8.ofNat (hx d)) ∧ (UInt8.ofNat (hx d)).toNat = hx d := by decide +kernel
theorem hx_get (d : Nat) (h : d < 16) (h2 : d < hxAll.size) : (hxAll[d]).toNat = hx d := by
  have := hx_at d h
  rw [ByteArray.getElem?_lt' _ _ h2] at this
  rw [Option.some.inj this.1, this.2]

set_option maxRecDepth 100000 in
theorem hpow2_16 (w : World) : Calls Tryd.prog 56 #[.int .i64 16] w fun e w' => e = .returned (.bool true) ∧ w' = w := by
  go_enter Tryd.func56, Tryd.ntmps56
  go_wp2_with fail
  go_ret
  exact ⟨rfl, rfl⟩

set_option maxRecDepth 100000 in
theorem htz64_16 (w : World) (h : w.cell? ⟨3, 15, none⟩ = some (.int .u8 4)) : Calls Tryd.prog 59 #[.int .u64 16] w fun e w' => e = .returned (.int .i64 4) ∧ w' = w := by
  have e1 : IntKind.u64.wrap (-16) = 18446744073709551600 := by decide +kernel
  have e2 : bits BinOp.and IntKind.u64 16 18446744073709551600 = 16 := by decide +kernel
  have e3 : IntKind.u64.wrap (16 * 285870213051353865) = 4573923408821661840 := by decide +kernel
  have e4 : (4573923408821661840 : Int) / 288230376151711744 = 15 := by decide +kernel
  go_enter Tryd.func59, Tryd.ntmps59
  go_wp2_with fail
  go_ret
  exact ⟨rfl, rfl⟩

set_option maxRecDepth 100000 in
theorem htz_16 (w : World) (h : w.cell? ⟨3, 15, none⟩ = some (.int .u8 4)) : Calls Tryd.prog 57 #[.int .u64 16] w fun e w' => e = .returned (.int .i64 4) ∧ w' = w := by
  go_enter Tryd.func57, Tryd.ntmps57
  go_wp2_with (go_at_call 59; refine (htz64_16 _ h).mono ?_; rintro e w3 ⟨rfl, rfl⟩)
  go_ret
  exact ⟨rfl, rfl⟩

set_option maxRecDepth 100000 in
theorem hbits_1 (w : World) (u : Nat) (hu : u < 16) (h : w.cell? ⟨3, 15, none⟩ = some (.int .u8 4)) :
    Calls Tryd.prog 50 #[.slice none 0 0, .int .u64 u, .int .i64 16, .bool false, .bool false] w fun e w' => e = .returned (.tuple #[.slice none 0 0, .string (strOfNums [(hx u : Int)])]) ∧ Upd [] w w' := by
  have hlt : 3 < w.heap.size := lt_of_cell h
  have hB := Blk.new w Tryd.zeroCells95 95
  have u1 := (Upd.refl [] w).alloc (.cells Tryd.zeroCells95 95)
  have hf := hB.free 64
  have hh : (w.alloc (.cells Tryd.zeroCells95 95)).cell? ⟨3, 15, none⟩ = some (.int .u8 4) := by rw [u1.cell hlt (by simp)]; exact h
  have hc64 : (w.alloc (.cells Tryd.zeroCells95 95)).cell? ⟨w.heap.size, 64, none⟩ = some (.int .u8 0) := hB.cell 64 (by kernel_rfl)
  have u1' := (Upd.refl [] w).alloc (.cells (Tryd.zeroCells95.setIfInBounds 64 (.int .u8 (hx u : Int))) 95)
  have c64 := (Blk.new w (Tryd.zeroCells95.setIfInBounds 64 (.int .u8 (hx u : Int))) 95).cell 64 (v := .int .u8 (hx u : Int)) (by rw [Array.toList_setIfInBounds, List.getElem?_set_self (by decide +kernel)])
  have hcv' : (convert 26 9 (.slice (some ⟨w.heap.size, 64, none⟩) 1 1)).run Tryd.prog (w.alloc (.cells (Tryd.zeroCells95.setIfInBounds 64 (.int .u8 (hx u : Int))) 95)) = .ok (.string (strOfNums [(hx u : Int)])) (w.alloc (.cells (Tryd.zeroCells95.setIfInBounds 64 (.int .u8 (hx u : Int))) 95)) :=
    run_convert_bytes_arg (P := Tryd.prog) (w.alloc (.cells (Tryd.zeroCells95.setIfInBounds 64 (.int .u8 (hx u : Int))) 95)) 26 5 Tryd.underlying26 Tryd.underlying5 w.heap.size 64 1 1 [(hx u : Int)] rfl (fun i hi => by
      have : i = 0 := by omega
      subst this; exact c64) 9 Tryd.underlying9
  have hv := hx_get u hu (by show u < 36; omega)
  unfold hxAll at hv
  have Hv := Lib.hid hv
  have Hcv := Lib.hid hcv'
  clear hv hcv'
  go_enter Tryd.func50, Tryd.ntmps50
  go_wp2_with (first | (go_at_call 56; refine (hpow2_16 _).mono ?_; rintro e w3 ⟨rfl, rfl⟩) | (go_at_call 57; refine (htz_16 _ hh).mono ?_; rintro e w3 ⟨rfl, rfl⟩))
  go_loopw [1, 13] (fun uv iv wr => uv = .int .u64 u ∧ iv = .int .i64 65 ∧ wr = w.alloc (.cells Tryd.zeroCells95 95)) (fun _ _ _ => 0)
  case atStart => exact ⟨rfl, rfl, rfl⟩
  case round =>
    obtain ⟨rfl, rfl, rfl⟩ := hrel
    go_wp2_with fail
    rw [Hv.out]
    rw [show (convert 26 9 (.slice (some ⟨w.heap.size, 64, none⟩) 1 1)).run Tryd.prog (w.alloc (.cells (Tryd.zeroCells95.setIfInBounds 64 (.int .u8 (hx u : Int))) 95)) = _ from Hcv.out]
    go_wp2_with fail
    exact bodyPost_ret (v := .tuple #[.slice none 0 0, .string (strOfNums [(hx u : Int)])]) (by simp [results, Tryd.results50, go_sem]) rfl ⟨rfl, u1'⟩

set_option maxRecDepth 100000 in
set_option maxHeartbeats 4000000 in
theorem hbits_2 (w : World) (u q r : Nat) (hu2 : 16 ≤ u) (l1 : q < 16) (l2 : r < 16) (e2 : bits BinOp.and IntKind.u64 (u : Int) 15 = (r : Int)) (e3 : (u : Int) / 16 = (q : Int)) (h : w.cell? ⟨3, 15, none⟩ = some (.int .u8 4)) :
    Calls Tryd.prog 50 #[.slice none 0 0, .int .u64 u, .int .i64 16, .bool false, .bool false] w fun e w' => e = .returned (.tuple #[.slice none 0 0, .string (strOfNums [(hx q : Int), (hx r : Int)])]) ∧ Upd [] w w' := by
  have hlt : 3 < w.heap.size := lt_of_cell h
  have hB := Blk.new w Tryd.zeroCells95 95
  have u1 := (Upd.refl [] w).alloc (.cells Tryd.zeroCells95 95)
  have hf := hB.free 64
  have hh : (w.alloc (.cells Tryd.zeroCells95 95)).cell? ⟨3, 15, none⟩ = some (.int .u8 4) := by rw [u1.cell hlt (by simp)]; exact h
  have hc64 : (w.alloc (.cells Tryd.zeroCells95 95)).cell? ⟨w.heap.size, 64, none⟩ = some (.int .u8 0) := hB.cell 64 (by kernel_rfl)
  have hB1 := Blk.new w (Tryd.zeroCells95.setIfInBounds 64 (.int .u8 (hx r : Int))) 95
  have hf1 := hB1.free 63
  have hl1 : (Tryd.zeroCells95.setIfInBounds 64 (.int .u8 (hx r : Int))).toList.length = 65 := by rw [Array.toList_setIfInBounds, List.length_set]; decide +kernel
  have hc63 : (w.alloc (.cells (Tryd.zeroCells95.setIfInBounds 64 (.int .u8 (hx r : Int))) 95)).cell? ⟨w.heap.size, 63, none⟩ = some (.int .u8 0) := hB1.cell 63 (by rw [Array.toList_setIfInBounds, List.getElem?_set_ne (by decide)]; kernel_rfl)
  have hB2 := Blk.new w ((Tryd.zeroCells95.setIfInBounds 64 (.int .u8 (hx r : Int))).setIfInBounds 63 (.int .u8 (hx q : Int))) 95
  have u2 := (Upd.refl [] w).alloc (.cells ((Tryd.zeroCells95.setIfInBounds 64 (.int .u8 (hx r : Int))).setIfInBounds 63 (.int .u8 (hx q : Int))) 95)
  have c63 := hB2.cell 63 (v := .int .u8 (hx q : Int)) (by rw [Array.toList_setIfInBounds, List.getElem?_set_self (by rw [hl1]; decide)])
  have c64 := hB2.cell 64 (v := .int .u8 (hx r : Int)) (by rw [Array.toList_setIfInBounds, List.getElem?_set_ne (by decide), Array.toList_setIfInBounds, List.getElem?_set_self (by decide +kernel)])
  have hcv' : (convert 26 9 (.slice (some ⟨w.heap.size, 63, none⟩) 2 2)).run Tryd.prog (w.alloc (.cells ((Tryd.zeroCells95.setIfInBounds 64 (.int .u8 (hx r : Int))).setIfInBounds 63 (.int .u8 (hx q : Int))) 95)) = .ok (.string (strOfNums [(hx q : Int), (hx r : Int)])) (w.alloc (.cells ((Tryd.zeroCells95.setIfInBounds 64 (.int .u8 (hx r : Int))).setIfInBounds 63 (.int .u8 (hx q : Int))) 95)) :=
    run_convert_bytes_arg (P := Tryd.prog) (w.alloc (.cells ((Tryd.zeroCells95.setIfInBounds 64 (.int .u8 (hx r : Int))).setIfInBounds 63 (.int .u8 (hx q : Int))) 95)) 26 5 Tryd.underlying26 Tryd.underlying5 w.heap.size 63 2 2 [(hx q : Int), (hx r : Int)] rfl (fun i hi => by
      match i, hi with
      | 0, _ => exact c63
      | 1, _ => exact c64
      | i + 2, h => exact absurd h (by omega)) 9 Tryd.underlying9
  have hv1 := hx_get r l2 (by show r < 36; omega)
  have hv2 := hx_get q l1 (by show q < 36; omega)
  unfold hxAll at hv1 hv2
  have Hv1 := Lib.hid hv1
  have Hv2 := Lib.hid hv2
  have Hcv := Lib.hid hcv'
  clear hv1 hv2 hcv'
  go_enter Tryd.func50, Tryd.ntmps50
  go_wp2_with (first | (go_at_call 56; refine (hpow2_16 _).mono ?_; rintro e w3 ⟨rfl, rfl⟩) | (go_at_call 57; refine (htz_16 _ hh).mono ?_; rintro e w3 ⟨rfl, rfl⟩))
  go_loopw [1, 13] (fun uv iv wr => (uv = .int .u64 u ∧ iv = .int .i64 65 ∧ wr = (w.alloc (.cells Tryd.zeroCells95 95))) ∨ (uv = .int .u64 (q : Int) ∧ iv = .int .i64 64 ∧ wr = (w.alloc (.cells (Tryd.zeroCells95.setIfInBounds 64 (.int .u8 (hx r : Int))) 95)))) (fun _ iv _ => (intOf iv).toNat)
  case atStart => exact Or.inl ⟨rfl, rfl, rfl⟩
  case round =>
    rcases hrel with ⟨rfl, rfl, rfl⟩ | ⟨rfl, rfl, rfl⟩
    · clear hB1 hf1 hl1 hc63 hB2 u2 c63 c64 Hcv Hv2 hh
      go_wp2_with fail
      exact ⟨Or.inr ⟨rfl, rfl, by rw [Hv1.out]⟩, by decide⟩
    · clear hB hf hc64 hB1 hl1 hB2 c63 c64 hh Hv1
      go_wp2_with fail
      rw [Hv2.out]
      rw [show (convert 26 9 (.slice (some ⟨w.heap.size, 63, none⟩) 2 2)).run Tryd.prog (w.alloc (.cells ((Tryd.zeroCells95.setIfInBounds 64 (.int .u8 (hx r : Int))).setIfInBounds 63 (.int .u8 (hx q : Int))) 95)) = _ from Hcv.out]
      go_wp2_with fail
      exact bodyPost_ret (v := .tuple #[.slice none 0 0, .string (strOfNums [(hx q : Int), (hx r : Int)])]) (by simp [results, Tryd.results50, go_sem]) rfl ⟨rfl, u2⟩

/-- A byte's text to the base 16. -/
def hxs (u : Nat) : List Int := if u < 16 then [(hx u : Int)] else [(hx (u / 16) : Int), (hx (u % 16) : Int)]

theorem hbits (w : World) (u : Nat) (hu : u < 256) (h : w.cell? ⟨3, 15, none⟩ = some (.int .u8 4)) :
    Calls Tryd.prog 50 #[.slice none 0 0, .int .u64 u, .int .i64 16, .bool false, .bool false] w fun e w' => e = .returned (.tuple #[.slice none 0 0, .string (strOfNums (hxs u))]) ∧ Upd [] w w' := by
  unfold hxs
  by_cases h1 : u < 16
  · rw [if_pos h1]; exact hbits_1 w u h1 h
  · rw [if_neg h1]
    refine hbits_2 w u (u / 16) (u % 16) (by omega) (by omega) (Nat.mod_lt _ (by decide)) ?_ (by omega) h
    rw [show (15 : Int) = ((15 : Nat) : Int) from rfl, u64_and_nat _ _ (by omega) (by decide)]
    exact congrArg Nat.cast (Nat.and_two_pow_sub_one_eq_mod u 4)

set_option maxRecDepth 100000 in
theorem hifmt (w : World) (u : Nat) (hu : u < 256) (h : w.cell? ⟨3, 15, none⟩ = some (.int .u8 4)) :
    Calls Tryd.prog 38 #[.int .i64 u, .int .i64 16] w fun e w' => e = .returned (.string (strOfNums (hxs u))) ∧ Upd [] w w' := by
  have hs := hbits w u hu h
  generalize strOfNums (hxs u) = s at hs ⊢
  go_enter Tryd.func38, Tryd.ntmps38
  go_wp2_with (go_at_call 50; refine hs.mono ?_; rintro e w3 ⟨rfl, hu3⟩)
  go_ret
  exact ⟨rfl, hu3⟩

set_option maxRecDepth 100000 in
theorem hfmt (w : World) (u : Nat) (hu : u < 256) (h : w.cell? ⟨3, 15, none⟩ = some (.int .u8 4)) :
    Calls Tryd.prog 25 #[.int .i64 u, .int .i64 16] w fun e w' => e = .returned (.string (strOfNums (hxs u))) ∧ Upd [] w w' := by
  have hs := hifmt w u hu h
  generalize strOfNums (hxs u) = s at hs ⊢
  go_enter Tryd.func25, Tryd.ntmps25
  go_wp2_with (go_at_call 38; refine hs.mono ?_; rintro e w3 ⟨rfl, hu3⟩)
  go_ret
  exact ⟨rfl, hu3⟩

end Go.Proofs.YtcfoplnickdekaaDoor
