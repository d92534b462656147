/- SHA-256's turn of a word. -/
import Derived.Test.YtppbaahaegmgeaaChecked
import Derived.Test.YtppbaahaegmgeaaBase
import Derived.RegionTactic
import Derived.ChangeAlike
import Derived.Deep.DeepCutAuto
import Derived.StillTailTactics
import Derived.Laws.BitsAllLaws
import Derived.Deep.RegionHeld3
import Derived.Test.YtppbaahaegmgeaaShelf
import Derived.Test.YtppbaahaegmgeaaReg
import Derived.Test.YtppbaahaegmgeaaByt
import Derived.Outline
import Derived.Laws.Rows
import Derived.Great.BuildSlice
import Derived.Deep.CutBlock
namespace Go.Proofs.Ytppbaahaegmgeaa
open Go.RowKit

/-- A word turned to the right, by n of 1 to 31. -/
def rotr (x : Int) (n : Nat) : Int := bits BinOp.or IntKind.u32 (shl32 x (32 - n)) (x / 2 ^ n)

theorem ret_rotr (x : Int) (n : Nat) : Ending.returned (.int .u32 (bits BinOp.or IntKind.u32 (shl32 x (32 - n)) (x / 2 ^ n))) = .returned (.int .u32 (rotr x n)) := rfl

theorem turn_2 (x : Int) (h0 : 0 ≤ x) (h1 : x < 4294967296) (w : World) :
    Calls Try.prog 61 #[.int .u32 x, .int .i64 2] w fun e w' => e = .returned (.int .u32 (rotr x 2)) ∧ w = w' := by
  have e : bits BinOp.and IntKind.u64 (IntKind.u64.wrap (-2)) 31 = 30 := by decide +kernel
  have hs := fun w => run_shl32 Try.prog x 30 .u64 (by omega) w
  go_enter Try.func61, Try.ntmps61
  go_wp2
  go_ret
  exact ⟨ret_rotr x 2, rfl⟩

theorem turn_6 (x : Int) (h0 : 0 ≤ x) (h1 : x < 4294967296) (w : World) :
    Calls Try.prog 61 #[.int .u32 x, .int .i64 6] w fun e w' => e = .returned (.int .u32 (rotr x 6)) ∧ w = w' := by
  have e : bits BinOp.and IntKind.u64 (IntKind.u64.wrap (-6)) 31 = 26 := by decide +kernel
  have hs := fun w => run_shl32 Try.prog x 26 .u64 (by omega) w
  go_enter Try.func61, Try.ntmps61
  go_wp2
  go_ret
  exact ⟨ret_rotr x 6, rfl⟩

theorem turn_7 (x : Int) (h0 : 0 ≤ x) (h1 : x < 4294967296) (w : World) :
    Calls Try.prog 61 #[.int .u32 x, .int .i64 7] w fun e w' => e = .returned (.int .u32 (rotr x 7)) ∧ w = w' := by
  have e : bits BinOp.and IntKind.u64 (IntKind.u64.wrap (-7)) 31 = 25 := by decide +kernel
  have hs := fun w => run_shl32 Try.prog x 25 .u64 (by omega) w
  go_enter Try.func61, Try.ntmps61
  go_wp2
  go_ret
  exact ⟨ret_rotr x 7, rfl⟩

theorem turn_11 (x : Int) (h0 : 0 ≤ x) (h1 : x < 4294967296) (w : World) :
    Calls Try.prog 61 #[.int .u32 x, .int .i64 11] w fun e w' => e = .returned (.int .u32 (rotr x 11)) ∧ w = w' := by
  have e : bits BinOp.and IntKind.u64 (IntKind.u64.wrap (-11)) 31 = 21 := by decide +kernel
  have hs := fun w => run_shl32 Try.prog x 21 .u64 (by omega) w
  go_enter Try.func61, Try.ntmps61
  go_wp2
  go_ret
  exact ⟨ret_rotr x 11, rfl⟩

theorem turn_13 (x : Int) (h0 : 0 ≤ x) (h1 : x < 4294967296) (w : World) :
    Calls Try.prog 61 #[.int .u32 x, .int .i64 13] w fun e w' => e = .returned (.int .u32 (rotr x 13)) ∧ w = w' := by
  have e : bits BinOp.and IntKind.u64 (IntKind.u64.wrap (-13)) 31 = 19 := by decide +kernel
  have hs := fun w => run_shl32 Try.prog x 19 .u64 (by omega) w
  go_enter Try.func61, Try.ntmps61
  go_wp2
  go_ret
  exact ⟨ret_rotr x 13, rfl⟩

theorem turn_17 (x : Int) (h0 : 0 ≤ x) (h1 : x < 4294967296) (w : World) :
    Calls Try.prog 61 #[.int .u32 x, .int .i64 17] w fun e w' => e = .returned (.int .u32 (rotr x 17)) ∧ w = w' := by
  have e : bits BinOp.and IntKind.u64 (IntKind.u64.wrap (-17)) 31 = 15 := by decide +kernel
  have hs := fun w => run_shl32 Try.prog x 15 .u64 (by omega) w
  go_enter Try.func61, Try.ntmps61
  go_wp2
  go_ret
  exact ⟨ret_rotr x 17, rfl⟩

theorem turn_18 (x : Int) (h0 : 0 ≤ x) (h1 : x < 4294967296) (w : World) :
    Calls Try.prog 61 #[.int .u32 x, .int .i64 18] w fun e w' => e = .returned (.int .u32 (rotr x 18)) ∧ w = w' := by
  have e : bits BinOp.and IntKind.u64 (IntKind.u64.wrap (-18)) 31 = 14 := by decide +kernel
  have hs := fun w => run_shl32 Try.prog x 14 .u64 (by omega) w
  go_enter Try.func61, Try.ntmps61
  go_wp2
  go_ret
  exact ⟨ret_rotr x 18, rfl⟩

theorem turn_19 (x : Int) (h0 : 0 ≤ x) (h1 : x < 4294967296) (w : World) :
    Calls Try.prog 61 #[.int .u32 x, .int .i64 19] w fun e w' => e = .returned (.int .u32 (rotr x 19)) ∧ w = w' := by
  have e : bits BinOp.and IntKind.u64 (IntKind.u64.wrap (-19)) 31 = 13 := by decide +kernel
  have hs := fun w => run_shl32 Try.prog x 13 .u64 (by omega) w
  go_enter Try.func61, Try.ntmps61
  go_wp2
  go_ret
  exact ⟨ret_rotr x 19, rfl⟩

theorem turn_22 (x : Int) (h0 : 0 ≤ x) (h1 : x < 4294967296) (w : World) :
    Calls Try.prog 61 #[.int .u32 x, .int .i64 22] w fun e w' => e = .returned (.int .u32 (rotr x 22)) ∧ w = w' := by
  have e : bits BinOp.and IntKind.u64 (IntKind.u64.wrap (-22)) 31 = 10 := by decide +kernel
  have hs := fun w => run_shl32 Try.prog x 10 .u64 (by omega) w
  go_enter Try.func61, Try.ntmps61
  go_wp2
  go_ret
  exact ⟨ret_rotr x 22, rfl⟩

theorem turn_25 (x : Int) (h0 : 0 ≤ x) (h1 : x < 4294967296) (w : World) :
    Calls Try.prog 61 #[.int .u32 x, .int .i64 25] w fun e w' => e = .returned (.int .u32 (rotr x 25)) ∧ w = w' := by
  have e : bits BinOp.and IntKind.u64 (IntKind.u64.wrap (-25)) 31 = 7 := by decide +kernel
  have hs := fun w => run_shl32 Try.prog x 7 .u64 (by omega) w
  go_enter Try.func61, Try.ntmps61
  go_wp2
  go_ret
  exact ⟨ret_rotr x 25, rfl⟩

theorem turn_any (x : Int) (n : Int) (h0 : 0 ≤ x) (h1 : x < 4294967296) (hn : n = 2 ∨ n = 6 ∨ n = 7 ∨ n = 11 ∨ n = 13 ∨ n = 17 ∨ n = 18 ∨ n = 19 ∨ n = 22 ∨ n = 25) (w : World) :
    Calls Try.prog 61 #[.int .u32 x, .int .i64 n] w fun e w' => e = .returned (.int .u32 (rotr x n.toNat)) ∧ w = w' := by
  rcases hn with rfl | rfl | rfl | rfl | rfl | rfl | rfl | rfl | rfl | rfl
  · exact turn_2 x h0 h1 w
  · exact turn_6 x h0 h1 w
  · exact turn_7 x h0 h1 w
  · exact turn_11 x h0 h1 w
  · exact turn_13 x h0 h1 w
  · exact turn_17 x h0 h1 w
  · exact turn_18 x h0 h1 w
  · exact turn_19 x h0 h1 w
  · exact turn_22 x h0 h1 w
  · exact turn_25 x h0 h1 w

end Go.Proofs.Ytppbaahaegmgeaa

/- SHA-256's tie of a block: the walk. -/
namespace Go.Proofs.Ytppbaahaegmgeaa
open Go.RowKit

def wrow (n : Nat) (f : Nat → Int) : List Value := row n fun i => .int .u32 (f i)
def upd1 (f : Nat → Int) (i : Nat) (v : Int) : Nat → Int := fun j => if j = i then v else f j
theorem wrow_set (n : Nat) (f : Nat → Int) (i : Nat) (v : Int) : (wrow n f).set i (.int .u32 v) = wrow n (upd1 f i v) := by
  unfold wrow
  rw [row_set]
  apply row_congr
  intro j _
  unfold put1 upd1
  split <;> rfl
theorem wrow_get {n : Nat} (f : Nat → Int) {i : Nat} (hi : i < n) : (wrow n f)[i]? = some (.int .u32 (f i)) := row_get _ hi

def zrow (n : Nat) : Array Value := (wrow n fun _ => 0).toArray
theorem zero_64 (w : World) : (zeroValue 83).run Try.prog w = .ok (.agg (zrow 64)) w := by kernel_rfl
theorem zero_8 (w : World) : (zeroValue 82).run Try.prog w = .ok (.agg (zrow 8)) w := by kernel_rfl

/-- The words of a block's bytes, k bytes in. -/
def wIn (B : Nat → Int) : Nat → (Nat → Int)
  | 0 => fun _ => 0
  | k + 1 => upd1 (wIn B k) (k / 4) (bits BinOp.or IntKind.u32 (wIn B k (k / 4) * 256 % 4294967296) (B k))

theorem wIn_bd (B : Nat → Int) (k j : Nat) : 0 ≤ wIn B k j ∧ wIn B k j < 4294967296 := by
  induction k with
  | zero => simp [wIn]
  | succ k ih =>
    unfold wIn upd1
    split
    · have h1 := bits_lo_u32 .or (wIn B k (k / 4) * 256 % 4294967296) (B k)
      have h2 := bits_hi_u32 .or (wIn B k (k / 4) * 256 % 4294967296) (B k)
      omega
    · exact ih

/-- A new word of the rounds, out of the words from k on. -/
def newW (f : Nat → Int) (k : Nat) : Int :=
  (((f k + f (k + 9)) % 4294967296 + bits BinOp.xor IntKind.u32 (bits BinOp.xor IntKind.u32 (rotr (f (k + 1)) 7) (rotr (f (k + 1)) 18)) (f (k + 1) / 8)) % 4294967296 +
    bits BinOp.xor IntKind.u32 (bits BinOp.xor IntKind.u32 (rotr (f (k + 14)) 17) (rotr (f (k + 14)) 19)) (f (k + 14) / 1024)) % 4294967296
theorem newW_bd (f : Nat → Int) (k : Nat) : 0 ≤ newW f k ∧ newW f k < 4294967296 := by unfold newW; omega

def wExt (f : Nat → Int) : Nat → (Nat → Int)
  | 0 => f
  | k + 1 => upd1 (wExt f k) (k + 16) (newW (wExt f k) k)

/-- The two sums of a round. -/
def sumT (K f v : Nat → Int) (i : Nat) : Int :=
  (v 7 + bits BinOp.xor IntKind.u32 (bits BinOp.xor IntKind.u32 (rotr (v 4) 6) (rotr (v 4) 11)) (rotr (v 4) 25) +
    bits BinOp.xor IntKind.u32 (v 6) (bits BinOp.and IntKind.u32 (v 4) (bits BinOp.xor IntKind.u32 (v 5) (v 6))) + K i + f i) % 4294967296
def sumU (v : Nat → Int) : Int :=
  (bits BinOp.xor IntKind.u32 (bits BinOp.xor IntKind.u32 (rotr (v 0) 2) (rotr (v 0) 13)) (rotr (v 0) 22) +
    bits BinOp.xor IntKind.u32 (bits BinOp.xor IntKind.u32 (bits BinOp.and IntKind.u32 (v 0) (v 1)) (bits BinOp.and IntKind.u32 (v 0) (v 2))) (bits BinOp.and IntKind.u32 (v 1) (v 2))) % 4294967296
theorem sumT_bd (K f v : Nat → Int) (i : Nat) : 0 ≤ sumT K f v i ∧ sumT K f v i < 4294967296 := by unfold sumT; omega
theorem sumU_bd (v : Nat → Int) : 0 ≤ sumU v ∧ sumU v < 4294967296 := by unfold sumU; omega

def rnd (t u : Int) (v : Nat → Int) : Nat → Int
  | 0 => (t + u) % 4294967296
  | 1 => v 0
  | 2 => v 1
  | 3 => v 2
  | 4 => (v 3 + t) % 4294967296
  | 5 => v 4
  | 6 => v 5
  | 7 => v 6
  | _ => 0

def rounds (K f s : Nat → Int) : Nat → (Nat → Int)
  | 0 => s
  | k + 1 => rnd (sumT K f (rounds K f s k) k) (sumU (rounds K f s k)) (rounds K f s k)

theorem rnd_set (t u : Int) (v : Nat → Int) :
    ((((((((wrow 8 v).set 0 (.int .u32 ((t + u) % 4294967296))).set 1 (.int .u32 (v 0))).set 2 (.int .u32 (v 1))).set 3 (.int .u32 (v 2))).set 4 (.int .u32 ((v 3 + t) % 4294967296))).set 5 (.int .u32 (v 4))).set 6 (.int .u32 (v 5))).set 7 (.int .u32 (v 6)) = wrow 8 (rnd t u v) := rfl

theorem rnd_bd (t u : Int) (v : Nat → Int) (h : ∀ j, 0 ≤ v j ∧ v j < 4294967296) : ∀ j, 0 ≤ rnd t u v j ∧ rnd t u v j < 4294967296 := by
  intro j
  unfold rnd
  split <;> first | exact h _ | omega

/-- What tie makes of eight words and a block. -/
def tieF (K B s : Nat → Int) : Nat → Int := fun j => (s j + rounds K (wExt (wIn B 64) 48) s 64 j) % 4294967296

def addTo (s v : Nat → Int) (k : Nat) : Nat → Int := fun j => if j < k then (s j + v j) % 4294967296 else s j
theorem addTo_zero (s v : Nat → Int) : addTo s v 0 = s := by
  funext j; unfold addTo; rw [if_neg (by omega)]
theorem addTo_all (s v : Nat → Int) (j : Nat) (h : j < 8) : addTo s v 8 j = (s j + v j) % 4294967296 := by unfold addTo; rw [if_pos h]
theorem addTo_step (s v : Nat → Int) (k : Nat) : upd1 (addTo s v k) k ((s k + v k) % 4294967296) = addTo s v (k + 1) := by
  funext j
  unfold upd1 addTo
  by_cases e : j = k
  · subst e; simp
  · rw [if_neg e]
    by_cases h : j < k
    · rw [if_pos h, if_pos (by omega)]
    · rw [if_neg h, if_neg (by omega)]

def agg8 (f : Nat → Int) : Value := .agg #[.int .u32 (f 0), .int .u32 (f 1), .int .u32 (f 2), .int .u32 (f 3), .int .u32 (f 4), .int .u32 (f 5), .int .u32 (f 6), .int .u32 (f 7)]
theorem eight_set (f g : Nat → Int) :
    ((((((((wrow 8 g).set 0 (.int .u32 (f 0))).set 1 (.int .u32 (f 1))).set 2 (.int .u32 (f 2))).set 3 (.int .u32 (f 3))).set 4 (.int .u32 (f 4))).set 5 (.int .u32 (f 5))).set 6 (.int .u32 (f 6))).set 7 (.int .u32 (f 7)) = wrow 8 f := rfl

set_option maxHeartbeats 4000000 in
set_option maxRecDepth 100000 in
theorem tie_walk (br ro bb bo len cap : Nat) (K B s : Nat → Int) (w : World) (hK : ∀ i, i < 64 → w.cell? ⟨br, ro + i, none⟩ = some (.int .u32 (K i))) (hB : ∀ i, i < 64 → w.cell? ⟨bb, bo + i, none⟩ = some (.int .u8 (B i)))
    (hbd : ∀ i, 0 ≤ B i ∧ B i < 256) (hsb : ∀ j, 0 ≤ s j ∧ s j < 4294967296) (hlen : 64 ≤ len) (hlen2 : len ≤ 9223372036854775807) :
    Calls Try.prog 54 #[.pointer (some ⟨br, ro, none⟩), .agg #[.int .u32 (s 0), .int .u32 (s 1), .int .u32 (s 2), .int .u32 (s 3), .int .u32 (s 4), .int .u32 (s 5), .int .u32 (s 6), .int .u32 (s 7)], .slice (some ⟨bb, bo, none⟩) len cap] w fun e w' => e = .returned (agg8 (tieF K B s)) ∧ Upd [] w w' := by
  have hz64 := zero_64
  go_enter Try.func54, Try.ntmps54
  go_wp2_with fail
  go_loopw [19, 8] (fun iv _ wr => ∃ i : Nat, i ≤ 64 ∧ iv = .int .i64 i ∧ Upd [] w wr ∧ Blk wr (w.heap.size + 2) (wrow 64 (wIn B i)) 83 ∧ Blk wr w.heap.size (wrow 8 s) 82 ∧ Blk wr (w.heap.size + 1) (wrow 8 fun _ => 0) 82)
    (fun iv _ _ => 64 - (intOf iv).toNat)
  case atStart =>
    refine ⟨0, by omega, rfl, ?_, ?_, ?_, ?_⟩
    · exact (((Upd.refl _ _).alloc _).alloc _).alloc _
    · exact Blk.new_at (by simp) rfl
    · exact ((Blk.new_at rfl rfl).alloc _).alloc _
    · exact (Blk.new_at (by simp) rfl).alloc _
  case round =>
    obtain ⟨i, hi, rfl, hu, hb, hA, hZ⟩ := hrel
    by_cases hlt : i < 64
    · have c1 := (hu.cell (a := ⟨bb, bo + i, none⟩) (lt_of_cell (hB i hlt)) (by simp)).trans (hB i hlt)
      have c2 := hb.cell (i / 4) (wrow_get _ (by omega))
      have f2 := hb.free (i / 4)
      obtain ⟨b1, b2⟩ := hbd i
      go_wp2_with fail
      go_region
      go_wp2_with fail
      have hb3 := (hb.set (i / 4) (.int .u32 (bits BinOp.or IntKind.u32 (wIn B i (i / 4) * 256 % 4294967296) (B i)))).drew
      rw [wrow_set] at hb3
      exact ⟨⟨i + 1, by omega, by go_num, (hu.setCell (Or.inr (by simp; omega)) _).drew, hb3, (hA.set_ne _ (by dsimp only; omega) _).drew, (hZ.set_ne _ (by dsimp only; omega) _).drew⟩, by simp [intOf]; omega⟩
    · have H64 : Hid (i = 64) := Lib.hid (by omega)

      have hs := hu.size
      go_wp2_with fail
      go_loopw [9] (fun iv wq => ∃ (i : Nat) (f : Nat → Int), 16 ≤ i ∧ i ≤ 64 ∧ iv = .int .i64 i ∧ Upd [] w wq ∧ Blk wq (w.heap.size + 2) (wrow 64 f) 83 ∧ Blk wq w.heap.size (wrow 8 s) 82 ∧ Blk wq (w.heap.size + 1) (wrow 8 fun _ => 0) 82 ∧ f = wExt (wIn B 64) (i - 16) ∧ ∀ j, 0 ≤ f j ∧ f j < 4294967296)
        (fun iv _ => 64 - (intOf iv).toNat)
      case atStart => exact ⟨16, wIn B i, by omega, by omega, rfl, hu, hb, hA, hZ, by rw [H64.out]; rfl, fun j => wIn_bd B i j⟩
      case round =>
        clear hu hb hA hZ
        obtain ⟨i2, f, hi1, hi2, rfl, hu, hb, hA, hZ, hfe, hf⟩ := hrel
        have Hfe := Lib.hid hfe; clear hfe
        by_cases hlt : i2 < 64
        · have c1 := hb.cell (i2 - 15) (wrow_get _ (by omega))
          have c2 := hb.cell (i2 - 2) (wrow_get _ (by omega))
          have c3 := hb.cell (i2 - 16) (wrow_get _ (by omega))
          have c4 := hb.cell (i2 - 7) (wrow_get _ (by omega))
          obtain ⟨k, rfl⟩ : ∃ k, i2 = k + 16 := ⟨i2 - 16, by omega⟩
          simp only [show k + 16 - 15 = k + 1 by omega, show k + 16 - 2 = k + 14 by omega, show k + 16 - 16 = k by omega, show k + 16 - 7 = k + 9 by omega] at c1 c2 c3 c4
          have f0 := hb.free (k + 16)
          have c0 := hb.cell (k + 16) (wrow_get _ (by omega))
          have w1 : IntKind.i64.wrap (k : Int) = k := IntWalk.i64_in _ (by omega)
          have w2 : IntKind.i64.wrap ((k : Int) + 9) = k + 9 := IntWalk.i64_in _ (by omega)
          have w3 : IntKind.i64.wrap ((k : Int) + 16 - 16) = k := by rw [show (k : Int) + 16 - 16 = k by omega]; exact w1
          have w4 : IntKind.i64.wrap ((k : Int) + 16 - 7) = k + 9 := by rw [show (k : Int) + 16 - 7 = k + 9 by omega]; exact w2
          have t9 : ((k : Int) + 9).toNat = k + 9 := by omega
          have t16 : ((k : Int) + 16).toNat = k + 16 := by omega
          have g1 : (0 : Int) ≤ k := by omega
          have g2 : (k : Int) < 64 := by omega
          have g3 : (0 : Int) ≤ (k : Int) + 9 := by omega
          have g4 : (k : Int) + 9 < 64 := by omega
          have g5 : (0 : Int) ≤ (k : Int) + 16 := by omega
          have g6 : (k : Int) + 16 < 64 := by omega
          obtain ⟨b1, b2⟩ := hf (k + 1)
          obtain ⟨b3, b4⟩ := hf (k + 14)
          go_upto_region 10 with fail
          go_quiet (fail)
          go_upto_region 11 with fail
          go_region_held3 (fun w' => w'.cell? ⟨w.heap.size + 2, k, none⟩ = some (.int .u32 (f k)) ∧ w'.cell? ⟨w.heap.size + 2, k + 9, none⟩ = some (.int .u32 (f (k + 9))))
            (first | go_keep | exact ⟨(World.cell?_setCell_other _ _ _ _ (by intro h; injection h; omega)).trans c3, (World.cell?_setCell_other _ _ _ _ (by intro h; injection h; omega)).trans c4⟩)
            (first | (go_at_call 61; refine (turn_any _ _ (by assumption) (by assumption) (by simp) _).mono ?_; rintro e w' ⟨rfl, rfl⟩))
          go_wp2_with fail
          have hb3 := ((hb.of_drewN (nq + 1)).set (k + 16) (.int .u32 (newW f k)))
          rw [wrow_set] at hb3
          refine ⟨⟨k + 17, upd1 f (k + 16) (newW f k), by omega, by omega, by go_num, (hu.of_drewN (nq + 1)).setCell (Or.inr (by simp; omega)) _, hb3, (hA.of_drewN (nq + 1)).set_ne _ (by dsimp only; omega) _, (hZ.of_drewN (nq + 1)).set_ne _ (by dsimp only; omega) _, ?_, fun j => ?_⟩, by simp [intOf]; omega⟩
          · rw [Hfe.out, show k + 17 - 16 = k + 1 by omega, show k + 16 - 16 = k by omega]; rfl
          · unfold upd1
            split
            · exact newW_bd f k
            · exact hf j
        · have H2 : Hid (i2 = 64) := Lib.hid (by omega)
          have a0 := hA.cell 0 (wrow_get s (by omega))
          have a1 := hA.cell 1 (wrow_get s (by omega))
          have a2 := hA.cell 2 (wrow_get s (by omega))
          have a3 := hA.cell 3 (wrow_get s (by omega))
          have a4 := hA.cell 4 (wrow_get s (by omega))
          have a5 := hA.cell 5 (wrow_get s (by omega))
          have a6 := hA.cell 6 (wrow_get s (by omega))
          have a7 := hA.cell 7 (wrow_get s (by omega))
          have hs2 := hu.size
          have hsz := hb.lt
          obtain ⟨wo, rfl⟩ : ∃ wo : World, wo = wr := ⟨_, rfl⟩
          go_wp2_with fail
          go_loopw [79] (fun iv wq => ∃ (i : Nat) (v : Nat → Int), i ≤ 64 ∧ iv = .int .i64 i ∧ Upd [] wo wq ∧ Blk wq wo.heap.size (wrow 8 v) 82 ∧ v = rounds K f s i ∧ ∀ j, 0 ≤ v j ∧ v j < 4294967296)
            (fun iv _ => 64 - (intOf iv).toNat)
          case atStart => exact ⟨0, s, by omega, rfl, (Upd.refl _ _).alloc _, Blk.new_at rfl rfl, rfl, hsb⟩
          case round =>
            obtain ⟨i3, v, hi3, rfl, hu3, hv, hve, hvb⟩ := hrel
            have Hve := Lib.hid hve; clear hve
            by_cases hlt3 : i3 < 64
            · have k1 := ((hu.cell (a := ⟨br, ro + i3, none⟩) (lt_of_cell (hK i3 hlt3)) (by simp)).trans (hK i3 hlt3))
              have k2 := (hu3.cell (a := ⟨br, ro + i3, none⟩) (lt_of_cell k1) (by simp)).trans k1
              have c1 := (hb.upd_nil hu3).cell i3 (wrow_get _ hlt3)
              have v0 := hv.cell 0 (wrow_get v (by omega))
              have v1 := hv.cell 1 (wrow_get v (by omega))
              have v2 := hv.cell 2 (wrow_get v (by omega))
              have v3 := hv.cell 3 (wrow_get v (by omega))
              have v4 := hv.cell 4 (wrow_get v (by omega))
              have v5 := hv.cell 5 (wrow_get v (by omega))
              have v6 := hv.cell 6 (wrow_get v (by omega))
              have v7 := hv.cell 7 (wrow_get v (by omega))
              clear k1 a0 a1 a2 a3 a4 a5 a6 a7
              obtain ⟨b1, b2⟩ := hvb 4
              obtain ⟨b3, b4⟩ := hvb 0
              have g1 : (0 : Int) ≤ i3 := by omega
              have g2 : (i3 : Int) < 64 := by omega
              obtain ⟨tb1, tb2⟩ := sumT_bd K f v i3
              obtain ⟨ub1, ub2⟩ := sumU_bd v
              obtain ⟨b5, b6⟩ := hvb 3
              go_upto_region 17 with fail
              go_cut [15] (fun s15 wx => s15 = .int .u32 (sumT K f v i3) ∧ Upd [] wr wx)
              case first =>
                go_quiet ((first | (go_at_call_of 61 (Value.int .i64 6); exact Calls.quiet_of_same ((turn_6 (v 4) b1 b2 _).mono fun e w' ⟨h1, h2⟩ => ⟨h1, h2.symm⟩)) | (go_at_call_of 61 (Value.int .i64 11); exact Calls.quiet_of_same ((turn_11 (v 4) b1 b2 _).mono fun e w' ⟨h1, h2⟩ => ⟨h1, h2.symm⟩)) | (go_at_call_of 61 (Value.int .i64 25); exact Calls.quiet_of_same ((turn_25 (v 4) b1 b2 _).mono fun e w' ⟨h1, h2⟩ => ⟨h1, h2.symm⟩))))
                go_wp2_with fail
                go_meet
                exact ⟨congrArg (Value.int .u32) (by unfold sumT; omega), (Upd.refl _ _).of_drewN _⟩
              case rest =>
                obtain ⟨rfl, hq1⟩ := hcut
                have hv' := hv.upd_nil hq1
                have e0 := hv'.cell 0 (wrow_get v (by omega))
                have e1 := hv'.cell 1 (wrow_get v (by omega))
                have e2 := hv'.cell 2 (wrow_get v (by omega))
                clear k2 c1 v0 v1 v2 v3 v4 v5 v6 v7
                go_upto_region 19 with fail
                go_cut [17] (fun s17 wy => s17 = .int .u32 (sumU v) ∧ Upd [] wc wy)
                case first =>
                  go_quiet ((first | (go_at_call_of 61 (Value.int .i64 2); exact Calls.quiet_of_same ((turn_2 (v 0) b3 b4 _).mono fun e w' ⟨h1, h2⟩ => ⟨h1, h2.symm⟩)) | (go_at_call_of 61 (Value.int .i64 13); exact Calls.quiet_of_same ((turn_13 (v 0) b3 b4 _).mono fun e w' ⟨h1, h2⟩ => ⟨h1, h2.symm⟩)) | (go_at_call_of 61 (Value.int .i64 22); exact Calls.quiet_of_same ((turn_22 (v 0) b3 b4 _).mono fun e w' ⟨h1, h2⟩ => ⟨h1, h2.symm⟩))))
                  go_wp2_with fail
                  go_meet
                  exact ⟨congrArg (Value.int .u32) (by unfold sumU; omega), (Upd.refl _ _).of_drewN _⟩
                case rest =>
                  obtain ⟨rfl, hq2⟩ := hcut
                  have hv2 := hv'.upd_nil hq2
                  clear e0 e1 e2 hv'
                  have v0 := hv2.cell 0 (wrow_get v (by omega))
                  have v1 := hv2.cell 1 (wrow_get v (by omega))
                  have v2 := hv2.cell 2 (wrow_get v (by omega))
                  have v3 := hv2.cell 3 (wrow_get v (by omega))
                  have v4 := hv2.cell 4 (wrow_get v (by omega))
                  have v5 := hv2.cell 5 (wrow_get v (by omega))
                  have v6 := hv2.cell 6 (wrow_get v (by omega))
                  have v7 := hv2.cell 7 (wrow_get v (by omega))
                  have f0 := hv2.free 0
                  have f1 := hv2.free 1
                  have f2 := hv2.free 2
                  have f3 := hv2.free 3
                  have f4 := hv2.free 4
                  have f5 := hv2.free 5
                  have f6 := hv2.free 6
                  have f7 := hv2.free 7
                  go_wp2_with fail
                  have hb8 := (((((((hv2.set 0 (.int .u32 ((sumT K f v i3 + sumU v) % 4294967296))).set 1 (.int .u32 (v 0))).set 2 (.int .u32 (v 1))).set 3 (.int .u32 (v 2))).set 4 (.int .u32 ((v 3 + sumT K f v i3) % 4294967296))).set 5 (.int .u32 (v 4))).set 6 (.int .u32 (v 5))).set 7 (.int .u32 (v 6))
                  rw [rnd_set] at hb8
                  exact ⟨⟨i3 + 1, rnd (sumT K f v i3) (sumU v) v, by omega, by go_num,
                    ((((((((hu3.trans_nil hq1).trans_nil hq2).setCell (Or.inr (Nat.le_refl _)) _).setCell (Or.inr (Nat.le_refl _)) _).setCell (Or.inr (Nat.le_refl _)) _).setCell (Or.inr (Nat.le_refl _)) _).setCell (Or.inr (Nat.le_refl _)) _).setCell (Or.inr (Nat.le_refl _)) _).setCell (Or.inr (Nat.le_refl _)) _ |>.setCell (Or.inr (Nat.le_refl _)) _,
                    hb8, by rw [Hve.out]; rfl, rnd_bd _ _ v hvb⟩, by simp [intOf]; omega⟩
            · have H3 : Hid (i3 = 64) := Lib.hid (by omega)
              have hA3 := hA.upd_nil hu3
              have hZ3 := hZ.upd_nil hu3
              have hu4 := hu.trans_nil hu3
              have hvl := hv.lt
              have hs3 := hu3.size
              have hne : wo.heap.size ≠ w.heap.size := by omega
              clear a0 a1 a2 a3 a4 a5 a6 a7 hu3 hA hZ hb
              go_wp2_with fail
              go_loopw [163] (fun iv wq => ∃ k : Nat, k ≤ 8 ∧ iv = .int .i64 k ∧ Upd [] w wq ∧ Blk wq w.heap.size (wrow 8 (addTo s v k)) 82 ∧ Blk wq wo.heap.size (wrow 8 v) 82 ∧ Blk wq (w.heap.size + 1) (wrow 8 fun _ => 0) 82)
                (fun iv _ => 8 - (intOf iv).toNat)
              case atStart => exact ⟨0, by omega, rfl, hu4, (by rw [addTo_zero]; exact hA3), hv, hZ3⟩
              case round =>
                obtain ⟨k, hk, rfl, hu5, hA5, hv5, hZ5⟩ := hrel
                by_cases hk8 : k < 8
                · have c1 := hA5.cell k (wrow_get _ hk8)
                  have c2 := hv5.cell k (wrow_get _ hk8)
                  have c3 := hA5.free k
                  have e1 : addTo s v k k = s k := by unfold addTo; rw [if_neg (by omega)]
                  rw [e1] at c1
                  have e2 := addTo_step s v k
                  have E1 := Lib.hid e1; have E2 := Lib.hid e2; clear e1 e2
                  obtain ⟨b1, b2⟩ := hsb k
                  obtain ⟨b3, b4⟩ := hvb k
                  go_wp2_with fail
                  go_region
                  go_wp2_with fail
                  have hb8 := (hA5.set k (.int .u32 ((s k + v k) % 4294967296))).drew
                  rw [wrow_set, E2.out] at hb8
                  exact ⟨⟨k + 1, by omega, by go_num, (hu5.setCell (Or.inr (Nat.le_refl _)) _).drew, hb8, (hv5.set_ne _ hne _).drew, (hZ5.set_ne _ (by dsimp only; omega) _).drew⟩, by simp [intOf]; omega⟩
                · have H8 : Hid (k = 8) := Lib.hid (by omega)
                  have a0 := hA5.cell 0 (wrow_get _ (by omega))
                  have a1 := hA5.cell 1 (wrow_get _ (by omega))
                  have a2 := hA5.cell 2 (wrow_get _ (by omega))
                  have a3 := hA5.cell 3 (wrow_get _ (by omega))
                  have a4 := hA5.cell 4 (wrow_get _ (by omega))
                  have a5 := hA5.cell 5 (wrow_get _ (by omega))
                  have a6 := hA5.cell 6 (wrow_get _ (by omega))
                  have a7 := hA5.cell 7 (wrow_get _ (by omega))
                  have z0 := hZ5.cell 0 rfl
                  have z1 := hZ5.cell 1 rfl
                  have z2 := hZ5.cell 2 rfl
                  have z3 := hZ5.cell 3 rfl
                  have z4 := hZ5.cell 4 rfl
                  have z5 := hZ5.cell 5 rfl
                  have z6 := hZ5.cell 6 rfl
                  have z7 := hZ5.cell 7 rfl
                  have f0 := hZ5.free 0
                  have f1 := hZ5.free 1
                  have f2 := hZ5.free 2
                  have f3 := hZ5.free 3
                  have f4 := hZ5.free 4
                  have f5 := hZ5.free 5
                  have f6 := hZ5.free 6
                  have f7 := hZ5.free 7
                  go_wp2_with fail
                  have hF := ((((((((hZ5.set 0 (.int .u32 (addTo s v k 0))).set 1 (.int .u32 (addTo s v k 1))).set 2 (.int .u32 (addTo s v k 2))).set 3 (.int .u32 (addTo s v k 3))).set 4 (.int .u32 (addTo s v k 4))).set 5 (.int .u32 (addTo s v k 5))).set 6 (.int .u32 (addTo s v k 6))).set 7 (.int .u32 (addTo s v k 7)))
                  have hU := ((((((((hu5.setCell (p := ⟨w.heap.size + 1, 0, none⟩) (Or.inr (by dsimp only; omega)) (.int .u32 (addTo s v k 0))).setCell (p := ⟨w.heap.size + 1, 1, none⟩) (Or.inr (by dsimp only; omega)) (.int .u32 (addTo s v k 1))).setCell (p := ⟨w.heap.size + 1, 2, none⟩) (Or.inr (by dsimp only; omega)) (.int .u32 (addTo s v k 2))).setCell (p := ⟨w.heap.size + 1, 3, none⟩) (Or.inr (by dsimp only; omega)) (.int .u32 (addTo s v k 3))).setCell (p := ⟨w.heap.size + 1, 4, none⟩) (Or.inr (by dsimp only; omega)) (.int .u32 (addTo s v k 4))).setCell (p := ⟨w.heap.size + 1, 5, none⟩) (Or.inr (by dsimp only; omega)) (.int .u32 (addTo s v k 5))).setCell (p := ⟨w.heap.size + 1, 6, none⟩) (Or.inr (by dsimp only; omega)) (.int .u32 (addTo s v k 6))).setCell (p := ⟨w.heap.size + 1, 7, none⟩) (Or.inr (by dsimp only; omega)) (.int .u32 (addTo s v k 7)))
                  have hfin : ∀ j, j < 8 → addTo s v k j = tieF K B s j := by
                    intro j hj
                    rw [H8.out, addTo_all _ _ _ hj, Hve.out, H3.out, Hfe.out, H2.out]; rfl
                  rw [eight_set] at hF
                  have hw : wrow 8 (addTo s v k) = wrow 8 (tieF K B s) := row_congr fun j hj => by rw [hfin j hj]
                  rw [hw] at hF
                  clear a0 a1 a2 a3 a4 a5 a6 a7 z0 z1 z2 z3 z4 z5 z6 z7 f0 f1 f2 f3 f4 f5 f6 f7 hA5 hv5 hZ5 hfin hw
                  generalize (((((((wr.setCell ⟨w.heap.size + 1, 0, none⟩ (.int .u32 (addTo s v k 0))).setCell ⟨w.heap.size + 1, 1, none⟩ (.int .u32 (addTo s v k 1))).setCell ⟨w.heap.size + 1, 2, none⟩ (.int .u32 (addTo s v k 2))).setCell ⟨w.heap.size + 1, 3, none⟩ (.int .u32 (addTo s v k 3))).setCell ⟨w.heap.size + 1, 4, none⟩ (.int .u32 (addTo s v k 4))).setCell ⟨w.heap.size + 1, 5, none⟩ (.int .u32 (addTo s v k 5))).setCell ⟨w.heap.size + 1, 6, none⟩ (.int .u32 (addTo s v k 6))).setCell ⟨w.heap.size + 1, 7, none⟩ (.int .u32 (addTo s v k 7)) = wz at hF hU ⊢
                  have z0 := hF.cell 0 (wrow_get _ (by omega))
                  have z1 := hF.cell 1 (wrow_get _ (by omega))
                  have z2 := hF.cell 2 (wrow_get _ (by omega))
                  have z3 := hF.cell 3 (wrow_get _ (by omega))
                  have z4 := hF.cell 4 (wrow_get _ (by omega))
                  have z5 := hF.cell 5 (wrow_get _ (by omega))
                  have z6 := hF.cell 6 (wrow_get _ (by omega))
                  have z7 := hF.cell 7 (wrow_get _ (by omega))
                  exact bodyPost_ret (v := agg8 (tieF K B s)) (by simp [results, Try.results54, go_sem, z0, z1, z2, z3, z4, z5, z6, z7, agg8]) rfl ⟨rfl, hU⟩

end Go.Proofs.Ytppbaahaegmgeaa

/- SHA-256's tables: power, root. -/
namespace Go.Proofs.Ytppbaahaegmgeaa
open Go.RowKit

set_option maxRecDepth 100000 in
theorem power_2 (x p : Nat) (hx : x < 68719476737) (hp : p < 4096) (w : World) :
    Calls Try.prog 60 #[.int .u64 x, .int .i64 2, .int .u64 p] w fun e w' => e = .returned (.bool (decide (x * x ≤ p * 18446744073709551616))) ∧ w = w' := by
  have hM := fun w => Try.bits_Mul64 x x (by omega) (by omega) w
  have hd := Nat.div_add_mod (x * x) 18446744073709551616
  have hl := Nat.mod_lt (x * x) (show 0 < 18446744073709551616 by decide)
  generalize x * x / 18446744073709551616 = hi at hM hd
  generalize x * x % 18446744073709551616 = lo at hM hd hl
  generalize hs : x * x = s at hd
  by_cases h1 : hi < p
  · have hr : decide (s ≤ p * 18446744073709551616) = true := decide_eq_true (by omega)
    have Hr := Lib.hid hr
    clear hr hd
    go_enter Try.func60, Try.ntmps60
    go_wp2_with (go_at_call 66; refine (hM _).mono ?_; rintro e w3 ⟨rfl, rfl⟩)
    go_ret
    exact ⟨ret_bool Hr.out.symm, rfl⟩
  · by_cases h2 : hi = p
    · by_cases h3 : lo = 0
      · have hr : decide (s ≤ p * 18446744073709551616) = true := decide_eq_true (by omega)
        have Hr := Lib.hid hr
        clear hr hd
        subst h2
        subst h3
        go_enter Try.func60, Try.ntmps60
        go_wp2_with (go_at_call 66; refine (hM _).mono ?_; rintro e w3 ⟨rfl, rfl⟩)
        go_ret
        exact ⟨ret_bool Hr.out.symm, rfl⟩
      · have hr : decide (s ≤ p * 18446744073709551616) = false := decide_eq_false (by omega)
        have Hr := Lib.hid hr
        have h3' : ((lo : Int) == 0) = false := by simp; omega
        clear hr hd
        subst h2
        go_enter Try.func60, Try.ntmps60
        go_wp2_with (go_at_call 66; refine (hM _).mono ?_; rintro e w3 ⟨rfl, rfl⟩)
        go_ret
        exact ⟨ret_bool Hr.out.symm, rfl⟩
    · have hr : decide (s ≤ p * 18446744073709551616) = false := decide_eq_false (by omega)
      have Hr := Lib.hid hr
      have h2' : ((hi : Int) == (p : Int)) = false := by simp; omega
      clear hr hd
      go_enter Try.func60, Try.ntmps60
      go_wp2_with (go_at_call 66; refine (hM _).mono ?_; rintro e w3 ⟨rfl, rfl⟩)
      go_ret
      exact ⟨ret_bool Hr.out.symm, rfl⟩

set_option maxRecDepth 100000 in
theorem pow3_walk (x p hi lo over low : Nat) (b0 : 0 ≤ (hi : Int) * (x : Int)) (b1 : (hi : Int) * (x : Int) ≤ 17660905521409) (hov : over < 68719476738) (hp : p < 4096)
    (hM : ∀ w, Calls Try.prog 66 #[.int .u64 x, .int .u64 x] w fun e w' => e = .returned (.tuple #[.int .u64 hi, .int .u64 lo]) ∧ w' = w)
    (hM2 : ∀ w, Calls Try.prog 66 #[.int .u64 lo, .int .u64 x] w fun e w' => e = .returned (.tuple #[.int .u64 over, .int .u64 low]) ∧ w' = w) (w : World)
    (b : Bool) (hb : ((over : Int) + (hi : Int) * (x : Int) < (p : Int) * 4294967296 ∨ ((over : Int) + (hi : Int) * (x : Int) = (p : Int) * 4294967296 ∧ low = 0)) ↔ b = true) :
    Calls Try.prog 60 #[.int .u64 x, .int .i64 3, .int .u64 p] w fun e w' => e = .returned (.bool b) ∧ w = w' := by
  by_cases h1 : (over : Int) + (hi : Int) * (x : Int) < (p : Int) * 4294967296
  · obtain rfl : b = true := hb.1 (.inl h1)
    clear hb
    go_enter Try.func60, Try.ntmps60
    go_upto_region 4 with (go_at_call 66; refine (hM _).mono ?_; rintro e w3 ⟨rfl, rfl⟩)
    go_wp2_with (go_at_call 66; refine (hM2 _).mono ?_; rintro e w4 ⟨rfl, rfl⟩)
    go_ret
    exact ⟨rfl, rfl⟩
  · have t1 : decide ((over : Int) + (hi : Int) * (x : Int) < (p : Int) * 4294967296) = false := decide_eq_false h1
    by_cases h2 : (over : Int) + (hi : Int) * (x : Int) = (p : Int) * 4294967296
    · have t2 : (((over : Int) + (hi : Int) * (x : Int)) == (p : Int) * 4294967296) = true := by rw [beq_iff_eq]; exact h2
      by_cases h3 : low = 0
      · obtain rfl : b = true := hb.1 (.inr ⟨h2, h3⟩)
        clear hb h2
        subst h3
        go_enter Try.func60, Try.ntmps60
        go_upto_region 4 with (go_at_call 66; refine (hM _).mono ?_; rintro e w3 ⟨rfl, rfl⟩)
        go_wp2_with (go_at_call 66; refine (hM2 _).mono ?_; rintro e w4 ⟨rfl, rfl⟩)
        go_ret
        exact ⟨rfl, rfl⟩
      · have hf : b = false := by
          rw [← Bool.not_eq_true]; exact fun h => (hb.2 h).elim h1 (fun h => h3 h.2)
        subst hf
        have h3' : ((low : Int) == 0) = false := by simp; omega
        clear hb h2
        go_enter Try.func60, Try.ntmps60
        go_upto_region 4 with (go_at_call 66; refine (hM _).mono ?_; rintro e w3 ⟨rfl, rfl⟩)
        go_wp2_with (go_at_call 66; refine (hM2 _).mono ?_; rintro e w4 ⟨rfl, rfl⟩)
        go_ret
        exact ⟨rfl, rfl⟩
    · have hf : b = false := by
        rw [← Bool.not_eq_true]; exact fun h => (hb.2 h).elim h1 (fun h => h2 h.1)
      subst hf
      have t2 : (((over : Int) + (hi : Int) * (x : Int)) == (p : Int) * 4294967296) = false := by rw [beq_eq_false_iff_ne]; exact h2
      clear hb h2
      go_enter Try.func60, Try.ntmps60
      go_upto_region 4 with (go_at_call 66; refine (hM _).mono ?_; rintro e w3 ⟨rfl, rfl⟩)
      go_wp2_with (go_at_call 66; refine (hM2 _).mono ?_; rintro e w4 ⟨rfl, rfl⟩)
      go_ret
      exact ⟨rfl, rfl⟩

theorem pow3_law (x p hi lo over low B : Nat) (hB : 0 < B) (h1 : B * hi + lo = x * x) (h2 : B * over + low = lo * x) (hl : low < B) :
    (over + hi * x < p * 4294967296 ∨ (over + hi * x = p * 4294967296 ∧ low = 0)) ↔ x * x * x ≤ p * 4294967296 * B := by
  have hc : x * x * x = B * (over + hi * x) + low := by
    rw [← h1, Nat.add_mul, ← h2, Nat.mul_add, Nat.mul_assoc]; omega
  rw [hc]
  generalize over + hi * x = s
  generalize p * 4294967296 = q
  rw [Nat.mul_comm q B]
  constructor
  · rintro (h | ⟨rfl, rfl⟩)
    · have : B * (s + 1) ≤ B * q := Nat.mul_le_mul_left _ h
      rw [Nat.mul_add] at this; omega
    · omega
  · intro h
    rcases Nat.lt_trichotomy s q with h1 | h1 | h1
    · exact .inl h1
    · subst h1; exact .inr ⟨rfl, by omega⟩
    · have : B * (q + 1) ≤ B * s := Nat.mul_le_mul_left _ h1
      rw [Nat.mul_add] at this; omega

theorem power_3 (x p : Nat) (hx : x < 68719476737) (hp : p < 4096) (w : World) :
    Calls Try.prog 60 #[.int .u64 x, .int .i64 3, .int .u64 p] w fun e w' => e = .returned (.bool (decide (x * x * x ≤ p * 4294967296 * 18446744073709551616))) ∧ w = w' := by
  have hM := fun w => Try.bits_Mul64 x x (by omega) (by omega) w
  have hd := Nat.div_add_mod (x * x) 18446744073709551616
  have hl := Nat.mod_lt (x * x) (show 0 < 18446744073709551616 by decide)
  have hsq : x * x < 68719476737 * 68719476737 := Nat.mul_lt_mul'' hx hx
  generalize x * x / 18446744073709551616 = hi at hM hd
  generalize x * x % 18446744073709551616 = lo at hM hd hl
  have hhi : hi ≤ 256 := by omega
  have hM2 := fun w => Try.bits_Mul64 lo x (by omega) (by omega) w
  have hd2 := Nat.div_add_mod (lo * x) 18446744073709551616
  have hl2 := Nat.mod_lt (lo * x) (show 0 < 18446744073709551616 by decide)
  have hlox : lo * x ≤ 18446744073709551615 * 68719476736 := Nat.mul_le_mul (by omega) (by omega)
  generalize lo * x / 18446744073709551616 = over at hM2 hd2
  generalize lo * x % 18446744073709551616 = low at hM2 hd2 hl2
  have hhx : hi * x ≤ 256 * 68719476736 := Nat.mul_le_mul hhi (by omega)
  have e0 : (hi : Int) * (x : Int) = ((hi * x : Nat) : Int) := by rw [Int.natCast_mul]
  refine pow3_walk x p hi lo over low (by rw [e0]; omega) (by rw [e0]; omega) (by omega) hp hM hM2 w _ ?_
  rw [decide_eq_true_eq, ← pow3_law x p hi lo over low 18446744073709551616 (by decide) hd hd2 hl2, e0]
  omega

/-- n of 2, 3: x to the power of n is at most p, n times 32 bits on. -/
def powOk (n x p : Nat) : Prop := if n = 2 then x * x ≤ p * 18446744073709551616 else x * x * x ≤ p * 4294967296 * 18446744073709551616
instance (n x p : Nat) : Decidable (powOk n x p) := by unfold powOk; infer_instance
theorem powOk_mono {n x y p : Nat} (h : x ≤ y) (hy : powOk n y p) : powOk n x p := by
  unfold powOk at *
  split at hy
  · rename_i hn
    rw [if_pos hn]
    exact Nat.le_trans (Nat.mul_le_mul h h) hy
  · rename_i hn
    rw [if_neg hn]
    exact Nat.le_trans (Nat.mul_le_mul (Nat.mul_le_mul h h) h) hy

theorem power_any (n x p : Nat) (hn : n = 2 ∨ n = 3) (hx : x < 68719476737) (hp : p < 4096) (w : World) :
    Calls Try.prog 60 #[.int .u64 x, .int .i64 n, .int .u64 p] w fun e w' => e = .returned (.bool (decide (powOk n x p))) ∧ w = w' := by
  rcases hn with rfl | rfl
  · exact power_2 x p hx hp w
  · exact power_3 x p hx hp w

set_option maxRecDepth 100000 in
theorem root_any (n p r : Nat) (hn : n = 2 ∨ n = 3) (hp : p < 4096) (hr : r < 68719476736) (h1 : powOk n r p) (h2 : ¬ powOk n (r + 1) p) (w : World) :
    Calls Try.prog 59 #[.int .u64 p, .int .i64 n] w fun e w' => e = .returned (.int .u32 ((r % 4294967296 : Nat) : Int)) ∧ w = w' := by
  have lo1 : ∀ x, powOk n x p → x ≤ r := fun x hx => by
    rcases Nat.lt_or_ge r x with h | h
    · exact absurd (powOk_mono h hx) h2
    · exact h
  have lo2 : ∀ x, ¬ powOk n x p → r < x := fun x hx => by
    rcases Nat.lt_or_ge r x with h | h
    · exact h
    · exact absurd (powOk_mono h h1) hx
  have H1 := Lib.hid lo1
  have H2 := Lib.hid lo2
  clear lo1 lo2 h1 h2
  go_enter Try.func59, Try.ntmps59
  go_wp2_with fail
  go_loop [5, 6] (fun lv hv => ∃ l h : Nat, lv = .int .u64 l ∧ hv = .int .u64 h ∧ l ≤ r ∧ r < h ∧ h ≤ 68719476736) (fun lv hv => (intOf hv - intOf lv).toNat)
  case atStart => exact ⟨0, 68719476736, rfl, rfl, by omega, by omega, by omega⟩
  case round =>
    obtain ⟨l, h, rfl, rfl, hl, hh, hh2⟩ := hrel
    by_cases hgt : l + 1 < h
    · have hmid : ∃ m : Nat, (l : Int) + ((h : Int) - (l : Int)) / 2 = (m : Int) ∧ l < m ∧ m < h := ⟨l + (h - l) / 2, by omega, by omega, by omega⟩
      obtain ⟨m, hm, hm1, hm2⟩ := hmid
      by_cases hpw : powOk n m p
      · have Hp := Lib.hid (H1.out m hpw)
        have hd : decide (powOk n m p) = true := decide_eq_true hpw
        clear hpw
        go_wp2_with (go_at_call 60; refine (power_any n m p hn (by omega) hp _).mono ?_; rw [hd]; rintro e w3 ⟨rfl, rfl⟩)
        go_round
        case rel => exact ⟨m, h, rfl, rfl, Hp.out, hh, hh2⟩
        case measure => simp [intOf]; omega
      · have Hp := Lib.hid (H2.out m hpw)
        have hd : decide (powOk n m p) = false := decide_eq_false hpw
        clear hpw
        go_wp2_with (go_at_call 60; refine (power_any n m p hn (by omega) hp _).mono ?_; rw [hd]; rintro e w3 ⟨rfl, rfl⟩)
        go_round
        case rel => exact ⟨l, m, rfl, rfl, hl, Hp.out, by omega⟩
        case measure => simp [intOf]; omega
    · obtain rfl : l = r := by omega
      go_wp2_with fail
      go_ret
      exact ⟨ret_int (by omega), rfl⟩

end Go.Proofs.Ytppbaahaegmgeaa

/- SHA-256's tables: the numbers. -/
namespace Go.Proofs.Ytppbaahaegmgeaa
open Go.RowKit

def PL : List Nat := [2, 3, 5, 7, 11, 13, 17, 19, 23, 29, 31, 37, 41, 43, 47, 53, 59, 61, 67, 71, 73, 79, 83, 89, 97, 101, 103, 107, 109, 113, 127, 131, 137, 139, 149, 151, 157, 163, 167, 173, 179, 181, 191, 193, 197, 199, 211, 223, 227, 229, 233, 239, 241, 251, 257, 263, 269, 271, 277, 281, 283, 293, 307, 311]
/-- Square roots, cube roots, 32 bits behind the point. -/
def rt2 : List Nat := [6074000999, 7439101573, 9603838834, 11363415354, 14244795007, 15485724812, 17708603819, 18721328409]
def rt3 : List Nat := [5411319704, 6194414737, 7344290767, 8215976869, 9551921755, 10098905585, 11043570340, 11460697813, 12214315672, 13195500289, 13492127166, 14311783875, 14809980276, 15046980094, 15499789991, 16133124468, 16720292289, 16907126662, 17444216262, 17784676812, 17950125167, 18429019306, 18734950876, 19175934170, 19734090066, 20001703533, 20132865992, 20390182855, 20516441075, 20764397895, 21588763473, 21813078375, 22141143685, 22248366392, 22769593852, 22871018771, 23170020180, 23461497531, 23651862830, 23931792517, 24205322401, 24295138891, 24734567280, 24820601251, 24990902297, 25075189284, 25569408389, 26045227120, 26200031510, 26276752392, 26428864332, 26653801653, 26727943347, 27092625994, 27306805839, 27517677555, 27725365998, 27793908591, 27997534228, 28131656200, 28198240250, 28526537963, 28973835255, 29099129074]
/-- H, K. -/
def H0 (i : Nat) : Int := ((rt2.getD i 0 % 4294967296 : Nat) : Int)
def K0 (i : Nat) : Int := ((rt3.getD i 0 % 4294967296 : Nat) : Int)
theorem H0_bd (i : Nat) : 0 ≤ H0 i ∧ H0 i < 4294967296 := by unfold H0; omega
theorem K0_bd (i : Nat) : 0 ≤ K0 i ∧ K0 i < 4294967296 := by unfold K0; omega

def isP (p : Nat) : Bool := PL.contains p
def cnt (p : Nat) : Nat := (PL.filter (fun x => decide (x < p))).length
theorem pl_1 : ∀ p, p < 312 → 2 ≤ p → isP p = false → ∃ q, q < 18 ∧ 2 ≤ q ∧ q * q ≤ p ∧ p % q = 0 := by decide +kernel
theorem pl_2' : ∀ p, p < 312 → isP p = true → ∀ q, q < 18 → (decide (2 ≤ q) && decide (q * q ≤ p) && decide (p % q = 0)) = false := by decide +kernel
theorem pl_2 (p : Nat) (hp : p < 312) (h : isP p = true) (q : Nat) (hq : q < 18) (h2 : 2 ≤ q) (h3 : q * q ≤ p) : p % q ≠ 0 := fun e => by
  have := pl_2' p hp h q hq
  simp [h2, h3, e] at this
theorem pl_3 : ∀ p, p < 312 → isP p = true → PL[cnt p]? = some p ∧ cnt (p + 1) = cnt p + 1 := by decide +kernel
theorem pl_4 : ∀ p, p < 312 → isP p = false → cnt (p + 1) = cnt p := by decide +kernel
theorem pl_5 : ∀ x ∈ PL, x < 312 := by decide +kernel
theorem cnt_big {p : Nat} (h : 312 ≤ p) : cnt p = 64 := by
  unfold cnt
  rw [List.filter_eq_self.2 (fun x hx => by have := pl_5 x hx; simp; omega)]
  rfl
theorem rt2_ok : ∀ i, i < 8 → rt2.getD i 0 < 68719476736 ∧ powOk 2 (rt2.getD i 0) (PL.getD i 0) ∧ ¬ powOk 2 (rt2.getD i 0 + 1) (PL.getD i 0) := by decide +kernel
theorem rt3_ok : ∀ i, i < 64 → rt3.getD i 0 < 68719476736 ∧ powOk 3 (rt3.getD i 0) (PL.getD i 0) ∧ ¬ powOk 3 (rt3.getD i 0 + 1) (PL.getD i 0) := by decide +kernel

/-- The rows, n numbers in. -/
def mk (n m j : Nat) : Int := if j < 8 then (if j < n then H0 j else 0) else (if j - 8 < m then K0 (j - 8) else 0)
theorem mk_h {n : Nat} (h : n < 8) : upd1 (mk n n) n (H0 n) = mk (n + 1) n := by
  funext j
  unfold upd1 mk
  by_cases e : j = n
  · subst e; simp [h]
  · rw [if_neg e]
    by_cases h8 : j < 8
    · rw [if_pos h8, if_pos h8]
      by_cases hj : j < n
      · rw [if_pos hj, if_pos (by omega)]
      · rw [if_neg hj, if_neg (by omega)]
    · rw [if_neg h8, if_neg h8]
theorem mk_k {n m : Nat} : upd1 (mk n m) (8 + m) (K0 m) = mk n (m + 1) := by
  funext j
  unfold upd1 mk
  by_cases e : j = 8 + m
  · subst e; rw [if_pos rfl, if_neg (by omega), if_pos (by omega)]; congr 1; omega
  · rw [if_neg e]
    by_cases h8 : j < 8
    · rw [if_pos h8, if_pos h8]
    · rw [if_neg h8, if_neg h8]
      by_cases hj : j - 8 < m
      · rw [if_pos hj, if_pos (by omega)]
      · rw [if_neg hj, if_neg (by omega)]
theorem mk_big {n m : Nat} (h : 8 ≤ n) : mk n m = mk (n + 1) m := by
  funext j
  unfold mk
  by_cases h8 : j < 8
  · rw [if_pos h8, if_pos h8, if_pos (by omega), if_pos (by omega)]
  · rw [if_neg h8, if_neg h8]
theorem mk_zero : mk 0 0 = fun _ => 0 := by
  funext j; unfold mk; simp
def rowsF : Nat → Int := mk 64 64

end Go.Proofs.Ytppbaahaegmgeaa

/- SHA-256's tables: made. -/
namespace Go.Proofs.Ytppbaahaegmgeaa
open Go.RowKit

theorem zero_rows (w : World) : (zeroValue 85).run Try.prog w = .ok (.agg (zrow 72)) w := by kernel_rfl

theorem wrow72_zero : (zrow 72).toList = wrow 72 (mk 0 0) := by rw [mk_zero]; rfl

theorem Upd.trans_nil' {bs : List Nat} {a b c : World} (h : Upd [] a b) (k : Upd bs b c) (hc : ∀ x ∈ bs, a.heap.size ≤ x) : Upd [] a c := h.trans k (fun x hx => Or.inr (hc x hx))

theorem pl_at {p n : Nat} (h : PL[n]? = some p) : PL.getD n 0 = p := by rw [List.getD_eq_getElem?_getD, h]; rfl
theorem pl_lt {p n : Nat} (h : PL[n]? = some p) : n < 64 := by have := (List.getElem?_eq_some_iff.1 h).1; exact this

theorem root_h {p n : Nat} (h : PL[n]? = some p) (hp : p < 4096) (hn : n < 8) (w : World) :
    Calls Try.prog 59 #[.int .u64 p, .int .i64 2] w fun e w' => e = .returned (.int .u32 (H0 n)) ∧ w = w' := by
  obtain ⟨h1, h2, h3⟩ := rt2_ok n hn
  rw [pl_at h] at h2 h3
  exact root_any 2 p _ (.inl rfl) hp h1 h2 h3 w
theorem root_k {p n : Nat} (h : PL[n]? = some p) (hp : p < 4096) (w : World) :
    Calls Try.prog 59 #[.int .u64 p, .int .i64 3] w fun e w' => e = .returned (.int .u32 (K0 n)) ∧ w = w' := by
  obtain ⟨h1, h2, h3⟩ := rt3_ok n (pl_lt h)
  rw [pl_at h] at h2 h3
  exact root_any 3 p _ (.inr rfl) hp h1 h2 h3 w

set_option maxHeartbeats 4000000 in
set_option maxRecDepth 100000 in
theorem made_walk (w : World) :
    Calls Try.prog 52 #[] w fun e w' => e = .returned (.pointer (some ⟨w.heap.size, 0, none⟩)) ∧ Upd [] w w' ∧ Blk w' w.heap.size (wrow 72 rowsF) 85 := by
  have hz := zero_rows
  go_enter Try.func52, Try.ntmps52
  go_wp2_with fail
  go_step3
  go_wp2_with fail
  go_step3
  go_wp2_with fail
  have u1 := (Upd.refl [] w).alloc (.cells (zrow 72) 85)
  have hB := Blk.new w (zrow 72) 85
  rw [wrow72_zero] at hB
  clear hz
  generalize w.alloc (.cells (zrow 72) 85) = W1 at u1 hB ⊢
  generalize hg : w.heap.size = rb at hB ⊢
  have hrb : w.heap.size ≤ rb := by omega
  go_loopw [3, 4, 5] (fun nv pv _ wr => ∃ n p : Nat, nv = .int .i64 n ∧ pv = .int .u64 p ∧ 2 ≤ p ∧ p ≤ 312 ∧ n ≤ 64 ∧ Hid (n = cnt p) ∧ Blk wr rb (wrow 72 (mk n n)) 85 ∧ Upd [] w wr) (fun _ pv _ _ => 312 - (intOf pv).toNat)
  case atStart => exact ⟨0, 2, rfl, rfl, by omega, by omega, by omega, Lib.hid (by decide), hB, u1⟩
  case round =>
    obtain ⟨n, p, rfl, rfl, hp2, hp312, hn64, Hn, hB, hu⟩ := hrel
    clear u1
    obtain ⟨wo, rfl⟩ : ∃ wo, wo = wr := ⟨_, rfl⟩
    by_cases hn : n < 64
    · have hp : p < 312 := by
        rcases Nat.lt_or_ge p 312 with h | h
        · exact h
        · have := cnt_big h; have := Hn.out; omega
      go_wp2_with fail
      go_loop [5] (fun qv => ∃ q : Nat, qv = .int .u64 q ∧ 2 ≤ q ∧ q ≤ 18 ∧ Hid (∀ x, 2 ≤ x → x < q → p % x ≠ 0)) (fun qv => 18 - (intOf qv).toNat)
      case atStart => exact ⟨2, rfl, by omega, by omega, Lib.hid (fun x h1 h2 => by omega)⟩
      case round =>
        obtain ⟨q, rfl, hq2, hq18, Hq⟩ := hrel
        have hqq : q * q ≤ 18 * 18 := Nat.mul_le_mul hq18 hq18
        have e0 : (q : Int) * (q : Int) = ((q * q : Nat) : Int) := by rw [Int.natCast_mul]
        have b0 : 0 ≤ (q : Int) * (q : Int) := by rw [e0]; omega
        have b1 : (q : Int) * (q : Int) ≤ 324 := by rw [e0]; omega
        have em : (p : Int) % (q : Int) = ((p % q : Nat) : Int) := by rw [Int.natCast_emod]
        by_cases hle : q * q ≤ p
        · have t1 : (q : Int) * (q : Int) ≤ (p : Int) := by rw [e0]; omega
          have hq17 : q < 18 := by
            rcases Nat.lt_or_ge q 18 with h | h
            · exact h
            · have : 18 * 18 ≤ q * q := Nat.mul_le_mul h h
              omega
          by_cases hdv : p % q = 0
          · have t2 : (((p : Int) % (q : Int)) == 0) = true := by rw [em, hdv]; rfl
            have hnp : isP p = false := by
              rw [← Bool.not_eq_true]; exact fun h => pl_2 p hp h q hq17 hq2 hle hdv
            have Hc := Lib.hid (pl_4 p hp hnp)
            clear hnp hdv e0 em hle hqq
            go_wp2_with fail
            exact ⟨⟨n, p + 1, rfl, by go_num, by omega, by omega, hn64, Lib.hid (by rw [Hc.out]; exact Hn.out), hB, hu⟩, by simp [intOf]; omega⟩
          · have t2 : (((p : Int) % (q : Int)) == 0) = false := by rw [em, beq_eq_false_iff_ne]; omega
            clear e0 em hle hqq
            go_wp2_with fail
            go_round
            case rel => exact ⟨q + 1, by go_num, by omega, by omega, Lib.hid (fun x h1 h2 => by
              rcases Nat.lt_or_ge x q with h | h
              · exact Hq.out x h1 h
              · obtain rfl : x = q := by omega
                exact hdv)⟩
            case measure => simp [intOf]; omega
        · have t1 : ¬ (q : Int) * (q : Int) ≤ (p : Int) := by rw [e0]; omega
          have hpp : isP p = true := by
            cases h : isP p with
            | true => rfl
            | false =>
              obtain ⟨x, hx1, hx2, hx3, hx4⟩ := pl_1 p hp hp2 h
              exfalso
              have hxq : x < q := by
                rcases Nat.lt_or_ge x q with h | h
                · exact h
                · have : q * q ≤ x * x := Nat.mul_le_mul h h
                  omega
              exact Hq.out x hx2 hxq hx4
          obtain ⟨hpl, hc1⟩ := pl_3 p hp hpp
          rw [← Hn.out] at hpl hc1
          have Hpl := Lib.hid hpl
          have Hc := Lib.hid hc1
          clear hpl hc1 hpp e0 em hle hqq Hq Hn
          have hni : (n : Int) < 64 := by omega
          by_cases hn8 : n < 8
          · have hn8i : (n : Int) < 8 := by omega
            go_upto_region 12 with fail
            refine wp_region_blk [(.eq (.pointer (some ⟨rb, 0, none⟩))), (.eq (.int .i64 n)), (.eq (.func (.func 59) #[] #[])), (.eq (.int .u64 p)), (.eq (.int .u32 (H0 n))), (.eq (.pointer (some ⟨rb, 0, none⟩))), (.eq (.pointer (some ⟨rb, 0, none⟩))), (.eq (.pointer (some ⟨rb, n, none⟩))), .any] [⟨8, (rb), (wrow 72 (mk n n)), (wrow 72 (mk (n + 1) n)), (85)⟩] (by kernel_rfl) (by kernel_rfl) rfl ?ne ?pre ?step ?fin
            case ne => intro x hx y hy hxy; simp only [List.mem_cons, List.not_mem_nil, or_false] at hx hy; rcases hx with rfl <;> rcases hy with rfl <;> first | (exact absurd rfl hxy) | (dsimp only; omega)
            case pre => intro x hx; simp only [List.mem_cons, List.not_mem_nil, or_false] at hx; rcases hx with rfl <;> assumption
            case step =>
              intro i o ho a w' hS hold hneed hun K' hK
              match i, ho with
              | 0, ho =>
                obtain rfl := Option.some.inj ho
                have q8 := hun 8 (.inr (by kernel_rfl))
                replace hneed := fun j hj => (hneed j hj).2
                replace hK := fun v w1 h u => hK v w1 h trivial u
                clear hun
                have d2 := hold 2 _ (by kernel_rfl) rfl
                clear hold hneed ho
                (go_simp; exact hK _ _ rfl (Upd.refl [] _))
              | 1, ho =>
                obtain rfl := Option.some.inj ho
                have q8 := hun 8 (.inr (by kernel_rfl))
                replace hneed := fun j hj => (hneed j hj).2
                replace hK := fun v w1 h u => hK v w1 h trivial u
                clear hun
                have d3 := hold 3 _ (by kernel_rfl) rfl
                clear hold hneed ho
                (go_simp; exact hK _ _ rfl (Upd.refl [] _))
              | 2, ho =>
                obtain rfl := Option.some.inj ho
                have q8 := hun 8 (.inr (by kernel_rfl))
                replace hneed := fun j hj => (hneed j hj).2
                replace hK := fun v w1 h u => hK v w1 h trivial u
                clear hun
                have d1 := hold 1 _ (by kernel_rfl) rfl
                clear hold hneed ho
                (go_simp; exact hK _ _ rfl (Upd.refl [] _))
              | 3, ho =>
                obtain rfl := Option.some.inj ho
                have q8 := hun 8 (.inr (by kernel_rfl))
                replace hneed := fun j hj => (hneed j hj).2
                replace hK := fun v w1 h u => hK v w1 h trivial u
                clear hun
                have d4 := hold 4 _ (by kernel_rfl) rfl
                clear hold hneed ho
                (go_simp; exact hK _ _ rfl (Upd.refl [] _))
              | 4, ho =>
                obtain rfl := Option.some.inj ho
                have q8 := hun 8 (.inr (by kernel_rfl))
                replace hneed := fun j hj => (hneed j hj).2
                replace hK := fun v w1 h u => hK v w1 h trivial u
                clear hun
                have d27 := get_of_at (hneed 2 (of_decide_eq_true (by kernel_rfl)) 27 rfl) (by simp [undef])
                have d28 := get_of_at (hneed 3 (of_decide_eq_true (by kernel_rfl)) 28 rfl) (by simp [undef])
                clear hold hneed ho
                (go_simp; go_at_call 59; refine (root_h Hpl.out (by omega) hn8 _).mono ?_; rintro e w3 ⟨rfl, rfl⟩; exact hK _ _ rfl (Upd.refl [] _))
              | 5, ho =>
                obtain rfl := Option.some.inj ho
                have q8 := hun 8 (.inr (by kernel_rfl))
                replace hneed := fun j hj => (hneed j hj).2
                replace hK := fun v w1 h u => hK v w1 h trivial u
                clear hun
                have d25 := get_of_at (hneed 0 (of_decide_eq_true (by kernel_rfl)) 25 rfl) (by simp [undef])
                clear hold hneed ho
                (go_simp; exact hK _ _ rfl (Upd.refl [] _))
              | 6, ho =>
                obtain rfl := Option.some.inj ho
                have q8 := hun 8 (.inr (by kernel_rfl))
                replace hneed := fun j hj => (hneed j hj).2
                replace hK := fun v w1 h u => hK v w1 h trivial u
                clear hun
                have d30 := get_of_at (hneed 5 (of_decide_eq_true (by kernel_rfl)) 30 rfl) (by simp [undef])
                clear hold hneed ho
                (go_simp; exact hK _ _ rfl (Upd.refl [] _))
              | 7, ho =>
                obtain rfl := Option.some.inj ho
                have q8 := hun 8 (.inr (by kernel_rfl))
                replace hneed := fun j hj => (hneed j hj).2
                replace hK := fun v w1 h u => hK v w1 h trivial u
                clear hun
                have d31 := get_of_at (hneed 6 (of_decide_eq_true (by kernel_rfl)) 31 rfl) (by simp [undef])
                have d26 := get_of_at (hneed 1 (of_decide_eq_true (by kernel_rfl)) 26 rfl) (by simp [undef])
                clear hold hneed ho
                (go_simp; exact hK _ _ rfl (Upd.refl [] _))
              | 8, ho =>
                obtain rfl := Option.some.inj ho
                have q8 := hun 8 (.inl rfl)
                change Blk _ _ _ _ at q8
                replace hneed := fun j hj => (hneed j hj).2
                clear hun
                have d32 := get_of_at (hneed 7 (of_decide_eq_true (by kernel_rfl)) 32 rfl) (by simp [undef])
                have d29 := get_of_at (hneed 4 (of_decide_eq_true (by kernel_rfl)) 29 rfl) (by simp [undef])
                clear hold hneed ho
                (have p0 := q8.cell n (wrow_get _ (by omega)); have f0 := q8.free n; have hq := q8.set n (.int .u32 (H0 n)); rw [wrow_set, mk_h hn8] at hq; go_simp; exact hK undef _ trivial hq ((Upd.refl _ _).setCell (Or.inl (by simp [effOf, BE.eff])) _))
              | _ + 9, ho => exact absurd ho (by simp)
            case fin =>
              intro a w' hS hsz hdf hold hvals hposts
              have hP8 : Blk w' (rb) (wrow 72 (mk (n + 1) n)) (85) := hposts 8 (of_decide_eq_true (by kernel_rfl))
              have ha := act_lit hsz hdf (RowIs.cons (at_of_get (hold 0 _ (by kernel_rfl) rfl)) (RowIs.cons (at_of_get (hold 1 _ (by kernel_rfl) rfl)) (RowIs.cons (at_of_get (hold 2 _ (by kernel_rfl) rfl)) (RowIs.cons (at_of_get (hold 3 _ (by kernel_rfl) rfl)) (RowIs.cons (at_of_get (hold 4 _ (by kernel_rfl) rfl)) (RowIs.cons (at_of_get (hold 5 _ (by kernel_rfl) rfl)) (RowIs.cons (at_of_get (hold 6 _ (by kernel_rfl) rfl)) (RowIs.cons (at_of_get (hold 7 _ (by kernel_rfl) rfl)) (RowIs.cons (at_of_get (hold 8 _ (by kernel_rfl) rfl)) (RowIs.cons (at_of_get (hold 9 _ (by kernel_rfl) rfl)) (RowIs.cons (at_of_get (hold 10 _ (by kernel_rfl) rfl)) (RowIs.cons (at_of_get (hold 11 _ (by kernel_rfl) rfl)) (RowIs.cons (at_of_get (hold 12 _ (by kernel_rfl) rfl)) (RowIs.cons (at_of_get (hold 13 _ (by kernel_rfl) rfl)) (RowIs.cons (at_of_get (hold 14 _ (by kernel_rfl) rfl)) (RowIs.cons (at_of_get (hold 15 _ (by kernel_rfl) rfl)) (RowIs.cons (at_of_get (hold 16 _ (by kernel_rfl) rfl)) (RowIs.cons (at_of_get (hold 17 _ (by kernel_rfl) rfl)) (RowIs.cons (at_of_get (hold 18 _ (by kernel_rfl) rfl)) (RowIs.cons (at_of_get (hold 19 _ (by kernel_rfl) rfl)) (RowIs.cons (at_of_get (hold 20 _ (by kernel_rfl) rfl)) (RowIs.cons (at_of_get (hold 21 _ (by kernel_rfl) rfl)) (RowIs.cons (at_of_get (hold 22 _ (by kernel_rfl) rfl)) (RowIs.cons (at_of_get (hold 23 _ (by kernel_rfl) rfl)) (RowIs.cons (at_of_get (hold 24 _ (by kernel_rfl) rfl)) (RowIs.cons (hvals 0 25 rfl) (RowIs.cons (hvals 1 26 rfl) (RowIs.cons (hvals 2 27 rfl) (RowIs.cons (hvals 3 28 rfl) (RowIs.cons (hvals 4 29 rfl) (RowIs.cons (hvals 5 30 rfl) (RowIs.cons (hvals 6 31 rfl) (RowIs.cons (hvals 7 32 rfl) (RowIs.cons (at_of_get (hold 33 _ (by kernel_rfl) rfl)) (RowIs.cons (at_of_get (hold 34 _ (by kernel_rfl) rfl)) (RowIs.cons (at_of_get (hold 35 _ (by kernel_rfl) rfl)) (RowIs.cons (at_of_get (hold 36 _ (by kernel_rfl) rfl)) (RowIs.cons (at_of_get (hold 37 _ (by kernel_rfl) rfl)) (RowIs.cons (at_of_get (hold 38 _ (by kernel_rfl) rfl)) (RowIs.cons (at_of_get (hold 39 _ (by kernel_rfl) rfl)) (RowIs.cons (at_of_get (hold 40 _ (by kernel_rfl) rfl)) (RowIs.cons (at_of_get (hold 41 _ (by kernel_rfl) rfl)) (RowIs.cons (at_of_get (hold 42 _ (by kernel_rfl) rfl)) (RowIs.cons (at_of_get (hold 43 _ (by kernel_rfl) rfl)) (RowIs.nil _ _))))))))))))))))))))))))))))))))))))))))))))) rfl
              clear hsz hdf hold hvals hposts
              subst ha
              try simp only [List.getElem_toArray, List.getElem_cons_succ, List.getElem_cons_zero]
              replace hu := hu.trans_nil' hS (by simp; omega)
              clear hS hB
              have hB := hP8
              clear hP8
              obtain ⟨wq, rfl⟩ : ∃ wq, wq = w' := ⟨_, rfl⟩
              go_upto_region 13 with fail
              refine wp_region_blk [(.eq (.pointer (some ⟨rb, 0, none⟩))), (.eq (.int .i64 n)), (.eq (.func (.func 59) #[] #[])), (.eq (.int .u64 p)), (.eq (.int .u32 (K0 n))), (.eq (.pointer (some ⟨rb, 0, none⟩))), (.eq (.pointer (some ⟨rb, 8, none⟩))), (.eq (.pointer (some ⟨rb, 8 + n, none⟩))), .any] [⟨8, (rb), (wrow 72 (mk (n + 1) n)), (wrow 72 (mk (n + 1) (n + 1))), (85)⟩] (by kernel_rfl) (by kernel_rfl) rfl ?ne ?pre ?step ?fin
              case ne => intro x hx y hy hxy; simp only [List.mem_cons, List.not_mem_nil, or_false] at hx hy; rcases hx with rfl <;> rcases hy with rfl <;> first | (exact absurd rfl hxy) | (dsimp only; omega)
              case pre => intro x hx; simp only [List.mem_cons, List.not_mem_nil, or_false] at hx; rcases hx with rfl <;> assumption
              case step =>
                intro i o ho a w' hS hold hneed hun K' hK
                match i, ho with
                | 0, ho =>
                  obtain rfl := Option.some.inj ho
                  have q8 := hun 8 (.inr (by kernel_rfl))
                  replace hneed := fun j hj => (hneed j hj).2
                  replace hK := fun v w1 h u => hK v w1 h trivial u
                  clear hun
                  have d2 := hold 2 _ (by kernel_rfl) rfl
                  clear hold hneed ho
                  (go_simp; exact hK _ _ rfl (Upd.refl [] _))
                | 1, ho =>
                  obtain rfl := Option.some.inj ho
                  have q8 := hun 8 (.inr (by kernel_rfl))
                  replace hneed := fun j hj => (hneed j hj).2
                  replace hK := fun v w1 h u => hK v w1 h trivial u
                  clear hun
                  have d3 := hold 3 _ (by kernel_rfl) rfl
                  clear hold hneed ho
                  (go_simp; exact hK _ _ rfl (Upd.refl [] _))
                | 2, ho =>
                  obtain rfl := Option.some.inj ho
                  have q8 := hun 8 (.inr (by kernel_rfl))
                  replace hneed := fun j hj => (hneed j hj).2
                  replace hK := fun v w1 h u => hK v w1 h trivial u
                  clear hun
                  have d1 := hold 1 _ (by kernel_rfl) rfl
                  clear hold hneed ho
                  (go_simp; exact hK _ _ rfl (Upd.refl [] _))
                | 3, ho =>
                  obtain rfl := Option.some.inj ho
                  have q8 := hun 8 (.inr (by kernel_rfl))
                  replace hneed := fun j hj => (hneed j hj).2
                  replace hK := fun v w1 h u => hK v w1 h trivial u
                  clear hun
                  have d4 := hold 4 _ (by kernel_rfl) rfl
                  clear hold hneed ho
                  (go_simp; exact hK _ _ rfl (Upd.refl [] _))
                | 4, ho =>
                  obtain rfl := Option.some.inj ho
                  have q8 := hun 8 (.inr (by kernel_rfl))
                  replace hneed := fun j hj => (hneed j hj).2
                  replace hK := fun v w1 h u => hK v w1 h trivial u
                  clear hun
                  have d35 := get_of_at (hneed 2 (of_decide_eq_true (by kernel_rfl)) 35 rfl) (by simp [undef])
                  have d36 := get_of_at (hneed 3 (of_decide_eq_true (by kernel_rfl)) 36 rfl) (by simp [undef])
                  clear hold hneed ho
                  (go_simp; go_at_call 59; refine (root_k Hpl.out (by omega) _).mono ?_; rintro e w3 ⟨rfl, rfl⟩; exact hK _ _ rfl (Upd.refl [] _))
                | 5, ho =>
                  obtain rfl := Option.some.inj ho
                  have q8 := hun 8 (.inr (by kernel_rfl))
                  replace hneed := fun j hj => (hneed j hj).2
                  replace hK := fun v w1 h u => hK v w1 h trivial u
                  clear hun
                  have d33 := get_of_at (hneed 0 (of_decide_eq_true (by kernel_rfl)) 33 rfl) (by simp [undef])
                  clear hold hneed ho
                  (go_simp; exact hK _ _ rfl (Upd.refl [] _))
                | 6, ho =>
                  obtain rfl := Option.some.inj ho
                  have q8 := hun 8 (.inr (by kernel_rfl))
                  replace hneed := fun j hj => (hneed j hj).2
                  replace hK := fun v w1 h u => hK v w1 h trivial u
                  clear hun
                  have d38 := get_of_at (hneed 5 (of_decide_eq_true (by kernel_rfl)) 38 rfl) (by simp [undef])
                  clear hold hneed ho
                  (go_simp; exact hK _ _ rfl (Upd.refl [] _))
                | 7, ho =>
                  obtain rfl := Option.some.inj ho
                  have q8 := hun 8 (.inr (by kernel_rfl))
                  replace hneed := fun j hj => (hneed j hj).2
                  replace hK := fun v w1 h u => hK v w1 h trivial u
                  clear hun
                  have d39 := get_of_at (hneed 6 (of_decide_eq_true (by kernel_rfl)) 39 rfl) (by simp [undef])
                  have d34 := get_of_at (hneed 1 (of_decide_eq_true (by kernel_rfl)) 34 rfl) (by simp [undef])
                  clear hold hneed ho
                  (go_simp; exact hK _ _ rfl (Upd.refl [] _))
                | 8, ho =>
                  obtain rfl := Option.some.inj ho
                  have q8 := hun 8 (.inl rfl)
                  change Blk _ _ _ _ at q8
                  replace hneed := fun j hj => (hneed j hj).2
                  clear hun
                  have d40 := get_of_at (hneed 7 (of_decide_eq_true (by kernel_rfl)) 40 rfl) (by simp [undef])
                  have d37 := get_of_at (hneed 4 (of_decide_eq_true (by kernel_rfl)) 37 rfl) (by simp [undef])
                  clear hold hneed ho
                  (have p0 := q8.cell (8 + n) (wrow_get _ (by omega)); have f0 := q8.free (8 + n); have hq := q8.set (8 + n) (.int .u32 (K0 n)); rw [wrow_set, mk_k] at hq; go_simp; exact hK undef _ trivial hq ((Upd.refl _ _).setCell (Or.inl (by simp [effOf, BE.eff])) _))
                | _ + 9, ho => exact absurd ho (by simp)
              case fin =>
                intro a w' hS hsz hdf hold hvals hposts
                have hP8 : Blk w' (rb) (wrow 72 (mk (n + 1) (n + 1))) (85) := hposts 8 (of_decide_eq_true (by kernel_rfl))
                have ha := act_lit hsz hdf (RowIs.cons (at_of_get (hold 0 _ (by kernel_rfl) rfl)) (RowIs.cons (at_of_get (hold 1 _ (by kernel_rfl) rfl)) (RowIs.cons (at_of_get (hold 2 _ (by kernel_rfl) rfl)) (RowIs.cons (at_of_get (hold 3 _ (by kernel_rfl) rfl)) (RowIs.cons (at_of_get (hold 4 _ (by kernel_rfl) rfl)) (RowIs.cons (at_of_get (hold 5 _ (by kernel_rfl) rfl)) (RowIs.cons (at_of_get (hold 6 _ (by kernel_rfl) rfl)) (RowIs.cons (at_of_get (hold 7 _ (by kernel_rfl) rfl)) (RowIs.cons (at_of_get (hold 8 _ (by kernel_rfl) rfl)) (RowIs.cons (at_of_get (hold 9 _ (by kernel_rfl) rfl)) (RowIs.cons (at_of_get (hold 10 _ (by kernel_rfl) rfl)) (RowIs.cons (at_of_get (hold 11 _ (by kernel_rfl) rfl)) (RowIs.cons (at_of_get (hold 12 _ (by kernel_rfl) rfl)) (RowIs.cons (at_of_get (hold 13 _ (by kernel_rfl) rfl)) (RowIs.cons (at_of_get (hold 14 _ (by kernel_rfl) rfl)) (RowIs.cons (at_of_get (hold 15 _ (by kernel_rfl) rfl)) (RowIs.cons (at_of_get (hold 16 _ (by kernel_rfl) rfl)) (RowIs.cons (at_of_get (hold 17 _ (by kernel_rfl) rfl)) (RowIs.cons (at_of_get (hold 18 _ (by kernel_rfl) rfl)) (RowIs.cons (at_of_get (hold 19 _ (by kernel_rfl) rfl)) (RowIs.cons (at_of_get (hold 20 _ (by kernel_rfl) rfl)) (RowIs.cons (at_of_get (hold 21 _ (by kernel_rfl) rfl)) (RowIs.cons (at_of_get (hold 22 _ (by kernel_rfl) rfl)) (RowIs.cons (at_of_get (hold 23 _ (by kernel_rfl) rfl)) (RowIs.cons (at_of_get (hold 24 _ (by kernel_rfl) rfl)) (RowIs.cons (at_of_get (hold 25 _ (by kernel_rfl) rfl)) (RowIs.cons (at_of_get (hold 26 _ (by kernel_rfl) rfl)) (RowIs.cons (at_of_get (hold 27 _ (by kernel_rfl) rfl)) (RowIs.cons (at_of_get (hold 28 _ (by kernel_rfl) rfl)) (RowIs.cons (at_of_get (hold 29 _ (by kernel_rfl) rfl)) (RowIs.cons (at_of_get (hold 30 _ (by kernel_rfl) rfl)) (RowIs.cons (at_of_get (hold 31 _ (by kernel_rfl) rfl)) (RowIs.cons (at_of_get (hold 32 _ (by kernel_rfl) rfl)) (RowIs.cons (hvals 0 33 rfl) (RowIs.cons (hvals 1 34 rfl) (RowIs.cons (hvals 2 35 rfl) (RowIs.cons (hvals 3 36 rfl) (RowIs.cons (hvals 4 37 rfl) (RowIs.cons (hvals 5 38 rfl) (RowIs.cons (hvals 6 39 rfl) (RowIs.cons (hvals 7 40 rfl) (RowIs.cons (at_of_get (hold 41 _ (by kernel_rfl) rfl)) (RowIs.cons (at_of_get (hold 42 _ (by kernel_rfl) rfl)) (RowIs.cons (at_of_get (hold 43 _ (by kernel_rfl) rfl)) (RowIs.nil _ _))))))))))))))))))))))))))))))))))))))))))))) rfl
                clear hsz hdf hold hvals hposts
                subst ha
                try simp only [List.getElem_toArray, List.getElem_cons_succ, List.getElem_cons_zero]
                replace hu := hu.trans_nil' hS (by simp; omega)
                clear hS hB
                go_wp2_with fail
                exact ⟨⟨n + 1, p + 1, by go_num, by go_num, by omega, by omega, by omega, Lib.hid (by rw [Hc.out]), hP8, hu⟩, by simp [intOf]; omega⟩
          · rw [mk_big (by omega : 8 ≤ n)] at hB
            go_upto_region 13 with fail
            refine wp_region_blk [(.eq (.pointer (some ⟨rb, 0, none⟩))), (.eq (.int .i64 n)), (.eq (.func (.func 59) #[] #[])), (.eq (.int .u64 p)), (.eq (.int .u32 (K0 n))), (.eq (.pointer (some ⟨rb, 0, none⟩))), (.eq (.pointer (some ⟨rb, 8, none⟩))), (.eq (.pointer (some ⟨rb, 8 + n, none⟩))), .any] [⟨8, (rb), (wrow 72 (mk (n + 1) n)), (wrow 72 (mk (n + 1) (n + 1))), (85)⟩] (by kernel_rfl) (by kernel_rfl) rfl ?ne ?pre ?step ?fin
            case ne => intro x hx y hy hxy; simp only [List.mem_cons, List.not_mem_nil, or_false] at hx hy; rcases hx with rfl <;> rcases hy with rfl <;> first | (exact absurd rfl hxy) | (dsimp only; omega)
            case pre => intro x hx; simp only [List.mem_cons, List.not_mem_nil, or_false] at hx; rcases hx with rfl <;> assumption
            case step =>
              intro i o ho a w' hS hold hneed hun K' hK
              match i, ho with
              | 0, ho =>
                obtain rfl := Option.some.inj ho
                have q8 := hun 8 (.inr (by kernel_rfl))
                replace hneed := fun j hj => (hneed j hj).2
                replace hK := fun v w1 h u => hK v w1 h trivial u
                clear hun
                have d2 := hold 2 _ (by kernel_rfl) rfl
                clear hold hneed ho
                (go_simp; exact hK _ _ rfl (Upd.refl [] _))
              | 1, ho =>
                obtain rfl := Option.some.inj ho
                have q8 := hun 8 (.inr (by kernel_rfl))
                replace hneed := fun j hj => (hneed j hj).2
                replace hK := fun v w1 h u => hK v w1 h trivial u
                clear hun
                have d3 := hold 3 _ (by kernel_rfl) rfl
                clear hold hneed ho
                (go_simp; exact hK _ _ rfl (Upd.refl [] _))
              | 2, ho =>
                obtain rfl := Option.some.inj ho
                have q8 := hun 8 (.inr (by kernel_rfl))
                replace hneed := fun j hj => (hneed j hj).2
                replace hK := fun v w1 h u => hK v w1 h trivial u
                clear hun
                have d1 := hold 1 _ (by kernel_rfl) rfl
                clear hold hneed ho
                (go_simp; exact hK _ _ rfl (Upd.refl [] _))
              | 3, ho =>
                obtain rfl := Option.some.inj ho
                have q8 := hun 8 (.inr (by kernel_rfl))
                replace hneed := fun j hj => (hneed j hj).2
                replace hK := fun v w1 h u => hK v w1 h trivial u
                clear hun
                have d4 := hold 4 _ (by kernel_rfl) rfl
                clear hold hneed ho
                (go_simp; exact hK _ _ rfl (Upd.refl [] _))
              | 4, ho =>
                obtain rfl := Option.some.inj ho
                have q8 := hun 8 (.inr (by kernel_rfl))
                replace hneed := fun j hj => (hneed j hj).2
                replace hK := fun v w1 h u => hK v w1 h trivial u
                clear hun
                have d35 := get_of_at (hneed 2 (of_decide_eq_true (by kernel_rfl)) 35 rfl) (by simp [undef])
                have d36 := get_of_at (hneed 3 (of_decide_eq_true (by kernel_rfl)) 36 rfl) (by simp [undef])
                clear hold hneed ho
                (go_simp; go_at_call 59; refine (root_k Hpl.out (by omega) _).mono ?_; rintro e w3 ⟨rfl, rfl⟩; exact hK _ _ rfl (Upd.refl [] _))
              | 5, ho =>
                obtain rfl := Option.some.inj ho
                have q8 := hun 8 (.inr (by kernel_rfl))
                replace hneed := fun j hj => (hneed j hj).2
                replace hK := fun v w1 h u => hK v w1 h trivial u
                clear hun
                have d33 := get_of_at (hneed 0 (of_decide_eq_true (by kernel_rfl)) 33 rfl) (by simp [undef])
                clear hold hneed ho
                (go_simp; exact hK _ _ rfl (Upd.refl [] _))
              | 6, ho =>
                obtain rfl := Option.some.inj ho
                have q8 := hun 8 (.inr (by kernel_rfl))
                replace hneed := fun j hj => (hneed j hj).2
                replace hK := fun v w1 h u => hK v w1 h trivial u
                clear hun
                have d38 := get_of_at (hneed 5 (of_decide_eq_true (by kernel_rfl)) 38 rfl) (by simp [undef])
                clear hold hneed ho
                (go_simp; exact hK _ _ rfl (Upd.refl [] _))
              | 7, ho =>
                obtain rfl := Option.some.inj ho
                have q8 := hun 8 (.inr (by kernel_rfl))
                replace hneed := fun j hj => (hneed j hj).2
                replace hK := fun v w1 h u => hK v w1 h trivial u
                clear hun
                have d39 := get_of_at (hneed 6 (of_decide_eq_true (by kernel_rfl)) 39 rfl) (by simp [undef])
                have d34 := get_of_at (hneed 1 (of_decide_eq_true (by kernel_rfl)) 34 rfl) (by simp [undef])
                clear hold hneed ho
                (go_simp; exact hK _ _ rfl (Upd.refl [] _))
              | 8, ho =>
                obtain rfl := Option.some.inj ho
                have q8 := hun 8 (.inl rfl)
                change Blk _ _ _ _ at q8
                replace hneed := fun j hj => (hneed j hj).2
                clear hun
                have d40 := get_of_at (hneed 7 (of_decide_eq_true (by kernel_rfl)) 40 rfl) (by simp [undef])
                have d37 := get_of_at (hneed 4 (of_decide_eq_true (by kernel_rfl)) 37 rfl) (by simp [undef])
                clear hold hneed ho
                (have p0 := q8.cell (8 + n) (wrow_get _ (by omega)); have f0 := q8.free (8 + n); have hq := q8.set (8 + n) (.int .u32 (K0 n)); rw [wrow_set, mk_k] at hq; go_simp; exact hK undef _ trivial hq ((Upd.refl _ _).setCell (Or.inl (by simp [effOf, BE.eff])) _))
              | _ + 9, ho => exact absurd ho (by simp)
            case fin =>
              intro a w' hS hsz hdf hold hvals hposts
              have hP8 : Blk w' (rb) (wrow 72 (mk (n + 1) (n + 1))) (85) := hposts 8 (of_decide_eq_true (by kernel_rfl))
              have ha := act_lit hsz hdf (RowIs.cons (at_of_get (hold 0 _ (by kernel_rfl) rfl)) (RowIs.cons (at_of_get (hold 1 _ (by kernel_rfl) rfl)) (RowIs.cons (at_of_get (hold 2 _ (by kernel_rfl) rfl)) (RowIs.cons (at_of_get (hold 3 _ (by kernel_rfl) rfl)) (RowIs.cons (at_of_get (hold 4 _ (by kernel_rfl) rfl)) (RowIs.cons (at_of_get (hold 5 _ (by kernel_rfl) rfl)) (RowIs.cons (at_of_get (hold 6 _ (by kernel_rfl) rfl)) (RowIs.cons (at_of_get (hold 7 _ (by kernel_rfl) rfl)) (RowIs.cons (at_of_get (hold 8 _ (by kernel_rfl) rfl)) (RowIs.cons (at_of_get (hold 9 _ (by kernel_rfl) rfl)) (RowIs.cons (at_of_get (hold 10 _ (by kernel_rfl) rfl)) (RowIs.cons (at_of_get (hold 11 _ (by kernel_rfl) rfl)) (RowIs.cons (at_of_get (hold 12 _ (by kernel_rfl) rfl)) (RowIs.cons (at_of_get (hold 13 _ (by kernel_rfl) rfl)) (RowIs.cons (at_of_get (hold 14 _ (by kernel_rfl) rfl)) (RowIs.cons (at_of_get (hold 15 _ (by kernel_rfl) rfl)) (RowIs.cons (at_of_get (hold 16 _ (by kernel_rfl) rfl)) (RowIs.cons (at_of_get (hold 17 _ (by kernel_rfl) rfl)) (RowIs.cons (at_of_get (hold 18 _ (by kernel_rfl) rfl)) (RowIs.cons (at_of_get (hold 19 _ (by kernel_rfl) rfl)) (RowIs.cons (at_of_get (hold 20 _ (by kernel_rfl) rfl)) (RowIs.cons (at_of_get (hold 21 _ (by kernel_rfl) rfl)) (RowIs.cons (at_of_get (hold 22 _ (by kernel_rfl) rfl)) (RowIs.cons (at_of_get (hold 23 _ (by kernel_rfl) rfl)) (RowIs.cons (at_of_get (hold 24 _ (by kernel_rfl) rfl)) (RowIs.cons (at_of_get (hold 25 _ (by kernel_rfl) rfl)) (RowIs.cons (at_of_get (hold 26 _ (by kernel_rfl) rfl)) (RowIs.cons (at_of_get (hold 27 _ (by kernel_rfl) rfl)) (RowIs.cons (at_of_get (hold 28 _ (by kernel_rfl) rfl)) (RowIs.cons (at_of_get (hold 29 _ (by kernel_rfl) rfl)) (RowIs.cons (at_of_get (hold 30 _ (by kernel_rfl) rfl)) (RowIs.cons (at_of_get (hold 31 _ (by kernel_rfl) rfl)) (RowIs.cons (at_of_get (hold 32 _ (by kernel_rfl) rfl)) (RowIs.cons (hvals 0 33 rfl) (RowIs.cons (hvals 1 34 rfl) (RowIs.cons (hvals 2 35 rfl) (RowIs.cons (hvals 3 36 rfl) (RowIs.cons (hvals 4 37 rfl) (RowIs.cons (hvals 5 38 rfl) (RowIs.cons (hvals 6 39 rfl) (RowIs.cons (hvals 7 40 rfl) (RowIs.cons (at_of_get (hold 41 _ (by kernel_rfl) rfl)) (RowIs.cons (at_of_get (hold 42 _ (by kernel_rfl) rfl)) (RowIs.cons (at_of_get (hold 43 _ (by kernel_rfl) rfl)) (RowIs.nil _ _))))))))))))))))))))))))))))))))))))))))))))) rfl
              clear hsz hdf hold hvals hposts
              subst ha
              try simp only [List.getElem_toArray, List.getElem_cons_succ, List.getElem_cons_zero]
              replace hu := hu.trans_nil' hS (by simp; omega)
              clear hS hB
              go_wp2_with fail
              exact ⟨⟨n + 1, p + 1, by go_num, by go_num, by omega, by omega, by omega, Lib.hid (by rw [Hc.out]), hP8, hu⟩, by simp [intOf]; omega⟩
    · obtain rfl : n = 64 := by omega
      subst hg
      go_wp2_with fail
      rw [Exit.noGoto_ret]
      go_ret
      exact ⟨rfl, hu, hB⟩

end Go.Proofs.Ytppbaahaegmgeaa

/- SHA-256: a knot in memory; New, none, Add. -/
namespace Go.Proofs.Ytppbaahaegmgeaa
open Go.RowKit

def byteF (l : List Int) (n : Nat) : Nat → Int := fun i => l.getD (64 * n + i) 0
/-- Eight words, n blocks of l on. -/
def comp (s : Nat → Int) (l : List Int) : Nat → (Nat → Int)
  | 0 => s
  | n + 1 => tieF K0 (byteF l n) (comp s l n)
theorem comp_bd (l : List Int) (n j : Nat) : 0 ≤ comp H0 l n j ∧ comp H0 l n j < 4294967296 := by
  cases n with
  | zero => exact H0_bd j
  | succ n => show 0 ≤ tieF _ _ _ j ∧ tieF _ _ _ j < _; unfold tieF; omega

theorem wIn_congr {B C : Nat → Int} : ∀ (n : Nat), n ≤ 64 → (∀ i, i < n → B i = C i) → wIn B n = wIn C n
  | 0, _, _ => rfl
  | n + 1, hn, h => by
    unfold wIn
    rw [wIn_congr n (by omega) (fun i hi => h i (by omega)), h n (by omega)]
theorem tieF_congr {K B C s : Nat → Int} (h : ∀ i, i < 64 → B i = C i) : tieF K B s = tieF K C s := by
  unfold tieF
  rw [wIn_congr 64 (Nat.le_refl _) h]
theorem comp_app (s : Nat → Int) (l xs : List Int) : ∀ n, 64 * n ≤ l.length → comp s (l ++ xs) n = comp s l n
  | 0, _ => rfl
  | n + 1, h => by
    show tieF _ _ _ = tieF _ _ _
    rw [comp_app s l xs n (by omega)]
    refine tieF_congr fun i hi => ?_
    unfold byteF
    rw [List.getD_eq_getElem?_getD, List.getD_eq_getElem?_getD, List.getElem?_append_left (by omega)]

def knotCells (rb : Nat) (s : Nat → Int) (left : Value) (n : Nat) : List Value :=
  [.pointer (some ⟨rb, 0, none⟩), .int .u32 (s 0), .int .u32 (s 1), .int .u32 (s 2), .int .u32 (s 3), .int .u32 (s 4), .int .u32 (s 5), .int .u32 (s 6), .int .u32 (s 7), left, .int .i64 n]

/-- A knot at block kb, of the bytes l; what it has left lies at B or above. -/
structure KnotAt (w : World) (B kb : Nat) (l : List Int) : Prop where
  rng : Rng l
  ex : ∃ rb p c, Blk w kb (knotCells rb (comp H0 l (l.length / 64)) (.slice p (l.length % 64) c) l.length) 87 ∧ Blk w rb (wrow 72 rowsF) 85 ∧
    ByAt w p (l.drop (64 * (l.length / 64))) ∧ (∀ b o, p = some ⟨b, o, none⟩ → B ≤ b) ∧ l.length % 64 ≤ c

theorem KnotAt.lt {w : World} {B kb : Nat} {l : List Int} (h : KnotAt w B kb l) : kb < w.heap.size := by
  obtain ⟨_, rb, p, c, hk, _⟩ := h
  exact hk.lt
theorem blk_ne {w : World} {a b : Nat} {cs ds : List Value} {S T : TypeId} (h : Blk w a cs S) (k : Blk w b ds T) (hne : S ≠ T) : a ≠ b := by
  intro e
  subst e
  unfold Blk at h k
  rw [h] at k
  injection k with k
  injection k with _ k
  exact hne k
/-- What writes below B, and neither the knot nor its rows. -/
theorem KnotAt.upd {w w' : World} {B kb : Nat} {l : List Int} (h : KnotAt w B kb l) {bs : List Nat} (u : Upd bs w w') (hb : ∀ x ∈ bs, x ≠ kb ∧ x < B ∧ ∀ cs, ¬ Blk w x cs 85) : KnotAt w' B kb l := by
  obtain ⟨hr, rb, p, c, h1, h2, h3, h4, h5⟩ := h
  refine ⟨hr, rb, p, c, h1.upd u (fun hx => (hb _ hx).1 rfl), h2.upd u (fun hx => (hb _ hx).2.2 _ h2), h3.upd u (fun b o e hx => ?_), h4, h5⟩
  have := h4 b o e
  have := (hb _ hx).2.1
  omega
theorem KnotAt.upd_nil {w w' : World} {B kb : Nat} {l : List Int} (h : KnotAt w B kb l) (u : Upd [] w w') : KnotAt w' B kb l := h.upd u (fun x hx => absurd hx (by simp))
theorem KnotAt.mono {w : World} {B C kb : Nat} {l : List Int} (h : KnotAt w B kb l) (hc : C ≤ B) : KnotAt w C kb l := by
  obtain ⟨hr, rb, p, c, h1, h2, h3, h4, h5⟩ := h
  exact ⟨hr, rb, p, c, h1, h2, h3, fun b o e => Nat.le_trans hc (h4 b o e), h5⟩

theorem knot_u8 {rb n o : Nat} {s : Nat → Int} {v : Value} {x : Int} (hv : ∀ x, v ≠ .int .u8 x) : (knotCells rb s v n)[o]? ≠ some (.int .u8 x) := by
  intro h
  match o, h with
  | 0, h => simp [knotCells] at h
  | 1, h => simp [knotCells] at h
  | 2, h => simp [knotCells] at h
  | 3, h => simp [knotCells] at h
  | 4, h => simp [knotCells] at h
  | 5, h => simp [knotCells] at h
  | 6, h => simp [knotCells] at h
  | 7, h => simp [knotCells] at h
  | 8, h => simp [knotCells] at h
  | 9, h => simp [knotCells] at h; exact hv x h
  | 10, h => simp [knotCells] at h
  | n + 11, h => simp [knotCells] at h
/-- A row of bytes stands in another block than cells that are no bytes. -/
theorem ByAt.upd_ne {w w' : World} {p : Option Addr} {xs : List Int} (h : ByAt w p xs) {kb : Nat} {cs : List Value} {T : TypeId} (hk : Blk w kb cs T) (hc : ∀ (o : Nat) (x : Int), cs[o]? ≠ some (.int .u8 x)) (u : Upd [kb] w w') : ByAt w' p xs := by
  by_cases h0 : xs.length = 0
  · obtain rfl : xs = [] := List.eq_nil_of_length_eq_zero h0
    exact ByAt.nil _ _
  · refine h.upd u (fun b o e hb => ?_)
    subst e
    obtain rfl : b = kb := by simpa using hb
    have h1 := h.cell 0 (by omega)
    unfold Blk at hk
    simp only [World.cell?, hk, List.size_toArray] at h1
    exact hc _ _ (by simpa using h1)

theorem ByAt.ne {w : World} {g o : Nat} {xs : List Int} (h : ByAt w (some ⟨g, o, none⟩) xs) (h0 : 0 < xs.length) {kb : Nat} {cs : List Value} {T : TypeId} (hk : Blk w kb cs T) (hc : ∀ (o : Nat) (x : Int), cs[o]? ≠ some (.int .u8 x)) : g ≠ kb := by
  intro e
  subst e
  have h1 := h.cell 0 h0
  unfold Blk at hk
  simp only [World.cell?, hk, List.size_toArray] at h1
  exact hc _ _ (by simpa using h1)
theorem wrow_u8 {n o : Nat} {f : Nat → Int} {x : Int} : (wrow n f)[o]? ≠ some (.int .u8 x) := by
  unfold wrow row
  rw [List.getElem?_map]
  cases (List.range n)[o]? <;> simp

theorem none_no {w : World} {kb rb n : Nat} {s : Nat → Int} {v : Value} (h : Blk w kb (knotCells rb s v n) 87) :
    Calls Try.prog 53 #[.pointer (some ⟨kb, 0, none⟩)] w fun e w' => e = .returned (.bool false) ∧ w = w' := by
  have c0 := h.cell 0 rfl
  go_enter Try.func53, Try.ntmps53
  go_wp2_with fail
  go_ret
  exact ⟨rfl, rfl⟩
theorem none_nil (w : World) : Calls Try.prog 53 #[.pointer none] w fun e w' => e = .returned (.bool true) ∧ w = w' := by
  go_enter Try.func53, Try.ntmps53
  go_wp2_with fail
  go_ret
  exact ⟨rfl, rfl⟩

set_option maxHeartbeats 4000000 in
set_option maxRecDepth 100000 in
theorem new_walk (w : World) :
    Calls Try.prog 43 #[] w fun e w' => ∃ kb, e = .returned (.pointer (some ⟨kb, 0, none⟩)) ∧ w.heap.size ≤ kb ∧ Upd [] w w' ∧ ∀ B, KnotAt w' B kb [] := by
  go_enter Try.func43, Try.ntmps43
  go_upto_region 2 with (go_at_call 52; refine (made_walk _).mono ?_; rintro e w1 ⟨rfl, u1, hB⟩)
  have hs := u1.size
  have c0 := hB.cell 0 (wrow_get _ (by omega))
  have c1 := hB.cell 1 (wrow_get _ (by omega))
  have c2 := hB.cell 2 (wrow_get _ (by omega))
  have c3 := hB.cell 3 (wrow_get _ (by omega))
  have c4 := hB.cell 4 (wrow_get _ (by omega))
  have c5 := hB.cell 5 (wrow_get _ (by omega))
  have c6 := hB.cell 6 (wrow_get _ (by omega))
  have c7 := hB.cell 7 (wrow_get _ (by omega))
  go_wp2_with fail
  go_ret
  have hN := Blk.new w1 (knotCells w.heap.size rowsF (.slice none 0 0) 0).toArray 87
  refine ⟨w1.heap.size, rfl, hs, u1.alloc _, fun B => ⟨Rng.nil, w.heap.size, none, 0, hN, hB.alloc _, ByAt.nil _ _, (fun b o e => nomatch e), Nat.le_refl _⟩⟩

def lenOf : Value → Nat
  | .slice _ n _ => n
  | _ => 0

theorem rows_K (i : Nat) (hi : i < 64) : rowsF (8 + i) = K0 i := by
  unfold rowsF mk
  rw [if_neg (by omega), show 8 + i - 8 = i by omega, if_pos hi]

set_option maxHeartbeats 4000000 in
set_option maxRecDepth 100000 in
theorem add_walk {w : World} {B kb : Nat} {l : List Int} (hK : KnotAt w B kb l) (p : Option Addr) (xs : List Int) (c : Nat) (hx : ByAt w p xs) (hr : Rng xs) (hl : l.length + xs.length ≤ 140737488355328) :
    Calls Try.prog 44 #[.pointer (some ⟨kb, 0, none⟩), .slice p xs.length c] w fun e w' => e = .returned (.tuple #[]) ∧ Upd [kb] w w' ∧ KnotAt w' w.heap.size kb (l ++ xs) := by
  obtain ⟨hrl, rb, q, d, hk, hrb, hq, hqB, hd⟩ := hK
  have c9 := hk.cell 9 rfl
  have c10 := hk.cell 10 rfl
  have f10 := hk.free 10
  have hne : rb ≠ kb := blk_ne hrb hk (by decide)
  go_enter Try.func44, Try.ntmps44
  go_upto_region 2 with (go_at_call 53; refine (none_no hk).mono ?_; rintro e w1 ⟨rfl, rfl⟩)
  have u1 := (Upd.refl [kb] w).setCell (p := ⟨kb, 10, none⟩) (Or.inl (by simp)) (.int .i64 ((l.length : Int) + xs.length))
  have hk1 : Blk (w.setCell ⟨kb, 10, none⟩ (.int .i64 ((l.length : Int) + xs.length))) kb (knotCells rb (comp H0 l (l.length / 64)) (.slice q (l.length % 64) d) (l ++ xs).length) 87 := by
    rw [show knotCells rb (comp H0 l (l.length / 64)) (.slice q (l.length % 64) d) (l ++ xs).length = (knotCells rb (comp H0 l (l.length / 64)) (.slice q (l.length % 64) d) l.length).set 10 (.int .i64 ((l.length : Int) + xs.length)) by simp [knotCells]]
    exact hk.set 10 _
  have hrb1 := hrb.upd u1 (by simpa using hne)
  have hq1 := hq.upd_ne hk (fun o x => knot_u8 (by simp)) u1
  have hx1 := hx.upd_ne hk (fun o x => knot_u8 (by simp)) u1
  have hll : (l.drop (64 * (l.length / 64))).length = l.length % 64 := by rw [List.length_drop]; omega
  clear c9 c10 f10 hk
  generalize w.setCell ⟨kb, 10, none⟩ (.int .i64 ((l.length : Int) + xs.length)) = W1 at *
  have c9 := hk1.cell 9 rfl
  have hkl := hk1.lt
  have s1 := u1.size
  have hm64 : l.length % 64 < 64 := Nat.mod_lt _ (by decide)
  generalize hmm : l.length % 64 = m64 at *
  go_upto_region 3 with (first
    | (at_builtin; refine app_bytes rfl _ _ rfl W1.heap.size _ [] rfl (OwnB.nil _ _) q m64 d (l.drop (64 * (l.length / 64))) rfl hll.symm hq1 (by simp; omega) (Nat.le_refl _) ?_; rintro p2 c2 w2 hown2 hgrow2; simp only [List.nil_append, List.length_nil, Nat.zero_add, hll] at hown2)
    | (at_builtin; refine app_bytes rfl _ _ rfl W1.heap.size (.slice p2 m64 c2) (l.drop (64 * (l.length / 64))) rfl hown2 p xs.length c xs rfl rfl (hx1.upd_nil ((Upd.refl [] _).grown hgrow2 (fun k hk => nomatch hk))) (by simp; omega) hgrow2.size ?_; rintro p3 c3 w3 hown3 hgrow3))
  have g3 : Upd [] W1 w3 := ((Upd.refl [] W1).grown hgrow2 (fun k hk => nomatch hk)).grown hgrow3 (fun k hk => .inr (hown2.lt k hk).1)
  have u3 := u1.trans_nil g3
  have hk3 := hk1.upd_nil g3
  have hrb3 := hrb1.upd_nil g3
  have hL : l.drop (64 * (l.length / 64)) ++ xs = (l ++ xs).drop (64 * (l.length / 64)) := by rw [List.drop_append_of_le_length (by omega)]
  rw [hL, show (l.drop (64 * (l.length / 64))).length = m64 from hll] at hown3
  obtain ⟨p3', c3', e3, hc3, hb3⟩ := hown3.form
  have hcomp := comp_app H0 l xs (l.length / 64) (by omega)
  rw [← hcomp] at hk3
  have hLl : (l ++ xs).length = l.length + xs.length := List.length_append
  have hLd : ((l ++ xs).drop (64 * (l.length / 64))).length = m64 + xs.length := by rw [List.length_drop]; omega
  rw [hLd] at e3 hc3
  have hat := hown3.at_
  have hrL : Rng (l ++ xs) := hrl.app hr
  have hm0 : l.length / 64 ≤ (l ++ xs).length / 64 := by omega
  have hlen3 : m64 + xs.length = (l ++ xs).length - 64 * (l.length / 64) := by omega
  generalize hl2 : l ++ xs = L at *
  generalize l.length / 64 = m0 at *
  have hm0l : 64 * m0 ≤ L.length := by omega
  cases e3
  have hb4 : ∀ b o, p3 = some ⟨b, o, none⟩ → W1.heap.size ≤ b := fun b o e => by
    subst e
    exact hown3.ge.1
  clear hown2 hown3 hgrow2 hgrow3 hk1 hrb1 hx1 hq1 hq hll hL hcomp hLd hmm hm64 hd g3 hx hqB hrl hr hrb c9
  rw [hlen3] at hc3 ⊢
  have Hs0 : ∀ j, 0 ≤ comp H0 L m0 j ∧ comp H0 L m0 j < 4294967296 := comp_bd L m0
  have hLb : L.length ≤ 140737488355328 := by omega
  have Hl2 := Lib.hid hl2
  clear Hs0 hm0 hb3 hLl hlen3 hl2
  go_loopw [4] (fun v wr => ∃ (m : Nat) (p' : Option Addr) (c' : Nat), 64 * m ≤ L.length ∧ v = .slice p' (L.length - 64 * m) c' ∧ L.length - 64 * m ≤ c' ∧ ByAt wr p' (L.drop (64 * m)) ∧ (∀ b o, p' = some ⟨b, o, none⟩ → W1.heap.size ≤ b) ∧ Blk wr kb (knotCells rb (comp H0 L m) (.slice q m64 d) L.length) 87 ∧ Blk wr rb (wrow 72 rowsF) 85 ∧ Upd [kb] w wr) (fun v _ => lenOf v)
  case atStart => exact ⟨m0, p3, c3, hm0l, rfl, hc3, hat, hb4, hk3, hrb3, u3⟩
  case round =>
    clear hat hb4 hk3 hrb3 u3 hc3
    obtain ⟨m, p4, c4, hm, rfl, hc4, hat, hge, hk, hrb, hu⟩ := hrel
    obtain ⟨wo, rfl⟩ : ∃ wo, wo = wr := ⟨_, rfl⟩
    by_cases h64 : 64 ≤ L.length - 64 * m
    · obtain ⟨g, o, rfl⟩ := hat.form (by rw [List.length_drop]; omega)
      have hg := hge g o rfl
      have hB : ∀ i, i < 64 → wo.cell? ⟨g, o + i, none⟩ = some (.int .u8 (byteF L m i)) := fun i hi => by
        rw [hat.cell i (by rw [List.length_drop]; omega)]
        unfold byteF
        rw [List.getD_eq_getElem?_getD, List.getD_eq_getElem?_getD, List.getElem?_drop]
      have hbb : ∀ i, 0 ≤ byteF L m i ∧ byteF L m i < 256 := fun i => hrL.getD _
      have hsb := comp_bd L m
      have hKr : ∀ i, i < 64 → wo.cell? ⟨rb, 8 + i, none⟩ = some (.int .u32 (K0 i)) := fun i hi => by
        rw [hrb.cell (8 + i) (wrow_get _ (by omega)), rows_K i hi]
      have hnext : tieF K0 (byteF L m) (comp H0 L m) = comp H0 L (m + 1) := rfl
      have Hnext := Lib.hid hnext
      clear hnext
      generalize comp H0 L m = s at *
      obtain ⟨s', Hs'⟩ : ∃ s', Hid (tieF K0 (byteF L m) s = s') := ⟨_, Lib.hid rfl⟩
      have Hn2 : Hid (s' = comp H0 L (m + 1)) := Lib.hid (Hs'.out.symm.trans Hnext.out)
      clear Hnext
      have hgl := lt_of_cell (hB 0 (by decide))
      have hrl := hrb.lt
      have hgk : g ≠ kb := by omega
      go_upto_region 5 with fail
      refine wp_region_blk [(.eq (.pointer (some ⟨kb, 0, none⟩))), (.eq (.pointer (some ⟨kb, 0, none⟩))), (.eq (.pointer (some ⟨kb, 0, none⟩))), (.eq (.pointer (some ⟨kb, 0, none⟩))), (.eq (.pointer (some ⟨rb, 0, none⟩))), (.eq (.pointer (some ⟨rb, 0, none⟩))), (.eq (.pointer (some ⟨rb, 8, none⟩))), (.eq (.pointer (some ⟨kb, 0, none⟩))), (.eq (.pointer (some ⟨kb, 0, none⟩))), (.eq (.pointer (some ⟨kb, 1, none⟩))), (.eq (.agg #[.int .u32 (s 0), .int .u32 (s 1), .int .u32 (s 2), .int .u32 (s 3), .int .u32 (s 4), .int .u32 (s 5), .int .u32 (s 6), .int .u32 (s 7)])), (.eq (.slice (some ⟨g, o, none⟩) (L.length - 64 * m) c4)), (.eq (.agg #[.int .u32 (s' 0), .int .u32 (s' 1), .int .u32 (s' 2), .int .u32 (s' 3), .int .u32 (s' 4), .int .u32 (s' 5), .int .u32 (s' 6), .int .u32 (s' 7)])), (.eq (.pointer (some ⟨kb, 0, none⟩))), (.eq (.pointer (some ⟨kb, 1, none⟩))), .any] [⟨15, (kb), (knotCells rb s (.slice q m64 d) L.length), (knotCells rb s' (.slice q m64 d) L.length), (87)⟩] (by kernel_rfl) (by kernel_rfl) rfl ?ne ?pre ?step ?fin
      case ne => intro x hx y hy hxy; simp only [List.mem_cons, List.not_mem_nil, or_false] at hx hy; rcases hx with rfl <;> rcases hy with rfl <;> first | (exact absurd rfl hxy) | (dsimp only; omega)
      case pre => intro x hx; simp only [List.mem_cons, List.not_mem_nil, or_false] at hx; rcases hx with rfl <;> assumption
      case step =>
        intro i o ho a w' hS hold hneed hun K' hK
        match i, ho with
        | 0, ho =>
          obtain rfl := Option.some.inj ho
          have q15 := hun 15 (.inr (by kernel_rfl))
          replace hneed := fun j hj => (hneed j hj).2
          replace hK := fun v w1 h u => hK v w1 h trivial u
          clear hun
          have d0 := hold 0 _ (by kernel_rfl) rfl
          clear hold hneed ho
          (go_simp; exact hK _ _ rfl (Upd.refl [] _))
        | 1, ho =>
          obtain rfl := Option.some.inj ho
          have q15 := hun 15 (.inr (by kernel_rfl))
          replace hneed := fun j hj => (hneed j hj).2
          replace hK := fun v w1 h u => hK v w1 h trivial u
          clear hun
          have d0 := hold 0 _ (by kernel_rfl) rfl
          clear hold hneed ho
          (go_simp; exact hK _ _ rfl (Upd.refl [] _))
        | 2, ho =>
          obtain rfl := Option.some.inj ho
          have q15 := hun 15 (.inr (by kernel_rfl))
          replace hneed := fun j hj => (hneed j hj).2
          replace hK := fun v w1 h u => hK v w1 h trivial u
          clear hun
          have d29 := get_of_at (hneed 1 (of_decide_eq_true (by kernel_rfl)) 29 rfl) (by simp [undef])
          clear hold hneed ho
          (go_simp; exact hK _ _ rfl (Upd.refl [] _))
        | 3, ho =>
          obtain rfl := Option.some.inj ho
          have q15 := hun 15 (.inr (by kernel_rfl))
          replace hneed := fun j hj => (hneed j hj).2
          replace hK := fun v w1 h u => hK v w1 h trivial u
          clear hun
          have d30 := get_of_at (hneed 2 (of_decide_eq_true (by kernel_rfl)) 30 rfl) (by simp [undef])
          clear hold hneed ho
          (go_simp; exact hK _ _ rfl (Upd.refl [] _))
        | 4, ho =>
          obtain rfl := Option.some.inj ho
          have q15 := hun 15 (.inr (by kernel_rfl))
          replace hneed := fun j hj => (hneed j hj).2
          replace hK := fun v w1 h u => hK v w1 h trivial u
          clear hun
          have d31 := get_of_at (hneed 3 (of_decide_eq_true (by kernel_rfl)) 31 rfl) (by simp [undef])
          clear hold hneed ho
          (have p0 := q15.cell 0 rfl; go_simp; exact hK _ _ rfl (Upd.refl [] _))
        | 5, ho =>
          obtain rfl := Option.some.inj ho
          have q15 := hun 15 (.inr (by kernel_rfl))
          replace hneed := fun j hj => (hneed j hj).2
          replace hK := fun v w1 h u => hK v w1 h trivial u
          clear hun
          have d32 := get_of_at (hneed 4 (of_decide_eq_true (by kernel_rfl)) 32 rfl) (by simp [undef])
          clear hold hneed ho
          (go_simp; exact hK _ _ rfl (Upd.refl [] _))
        | 6, ho =>
          obtain rfl := Option.some.inj ho
          have q15 := hun 15 (.inr (by kernel_rfl))
          replace hneed := fun j hj => (hneed j hj).2
          replace hK := fun v w1 h u => hK v w1 h trivial u
          clear hun
          have d33 := get_of_at (hneed 5 (of_decide_eq_true (by kernel_rfl)) 33 rfl) (by simp [undef])
          clear hold hneed ho
          (go_simp; exact hK _ _ rfl (Upd.refl [] _))
        | 7, ho =>
          obtain rfl := Option.some.inj ho
          have q15 := hun 15 (.inr (by kernel_rfl))
          replace hneed := fun j hj => (hneed j hj).2
          replace hK := fun v w1 h u => hK v w1 h trivial u
          clear hun
          have d0 := hold 0 _ (by kernel_rfl) rfl
          clear hold hneed ho
          (go_simp; exact hK _ _ rfl (Upd.refl [] _))
        | 8, ho =>
          obtain rfl := Option.some.inj ho
          have q15 := hun 15 (.inr (by kernel_rfl))
          replace hneed := fun j hj => (hneed j hj).2
          replace hK := fun v w1 h u => hK v w1 h trivial u
          clear hun
          have d35 := get_of_at (hneed 7 (of_decide_eq_true (by kernel_rfl)) 35 rfl) (by simp [undef])
          clear hold hneed ho
          (go_simp; exact hK _ _ rfl (Upd.refl [] _))
        | 9, ho =>
          obtain rfl := Option.some.inj ho
          have q15 := hun 15 (.inr (by kernel_rfl))
          replace hneed := fun j hj => (hneed j hj).2
          replace hK := fun v w1 h u => hK v w1 h trivial u
          clear hun
          have d36 := get_of_at (hneed 8 (of_decide_eq_true (by kernel_rfl)) 36 rfl) (by simp [undef])
          clear hold hneed ho
          (go_simp; exact hK _ _ rfl (Upd.refl [] _))
        | 10, ho =>
          obtain rfl := Option.some.inj ho
          have q15 := hun 15 (.inr (by kernel_rfl))
          replace hneed := fun j hj => (hneed j hj).2
          replace hK := fun v w1 h u => hK v w1 h trivial u
          clear hun
          have d37 := get_of_at (hneed 9 (of_decide_eq_true (by kernel_rfl)) 37 rfl) (by simp [undef])
          clear hold hneed ho
          (have p1 := q15.cell 1 rfl; have p2 := q15.cell 2 rfl; have p3 := q15.cell 3 rfl; have p4 := q15.cell 4 rfl; have p5 := q15.cell 5 rfl; have p6 := q15.cell 6 rfl; have p7 := q15.cell 7 rfl; have p8 := q15.cell 8 rfl; go_simp; exact hK _ _ rfl (Upd.refl [] _))
        | 11, ho =>
          obtain rfl := Option.some.inj ho
          have q15 := hun 15 (.inr (by kernel_rfl))
          replace hneed := fun j hj => (hneed j hj).2
          replace hK := fun v w1 h u => hK v w1 h trivial u
          clear hun
          have d4 := hold 4 _ (by kernel_rfl) rfl
          clear hold hneed ho
          (go_simp; exact hK _ _ rfl (Upd.refl [] _))
        | 12, ho =>
          obtain rfl := Option.some.inj ho
          have q15 := hun 15 (.inr (by kernel_rfl))
          replace hneed := fun j hj => (hneed j hj).2
          replace hK := fun v w1 h u => hK v w1 h trivial u
          clear hun
          have d34 := get_of_at (hneed 6 (of_decide_eq_true (by kernel_rfl)) 34 rfl) (by simp [undef])
          have d38 := get_of_at (hneed 10 (of_decide_eq_true (by kernel_rfl)) 38 rfl) (by simp [undef])
          have d39 := get_of_at (hneed 11 (of_decide_eq_true (by kernel_rfl)) 39 rfl) (by simp [undef])
          clear hold hneed ho
          (go_simp; refine (tie_walk rb 8 g o (L.length - 64 * m) c4 K0 (byteF L m) s _ (fun i hi => (hS.cell (a := ⟨rb, 8 + i, none⟩) hrl (by simpa using hne)).trans (hKr i hi)) (fun i hi => (hS.cell (a := ⟨g, o + i, none⟩) hgl (by simpa using hgk)).trans (hB i hi)) hbb hsb h64 (by omega)).mono ?_; rw [Hs'.out]; unfold agg8; rintro e w3 ⟨rfl, hu3⟩; exact hK _ _ rfl hu3)
        | 13, ho =>
          obtain rfl := Option.some.inj ho
          have q15 := hun 15 (.inr (by kernel_rfl))
          replace hneed := fun j hj => (hneed j hj).2
          replace hK := fun v w1 h u => hK v w1 h trivial u
          clear hun
          have d28 := get_of_at (hneed 0 (of_decide_eq_true (by kernel_rfl)) 28 rfl) (by simp [undef])
          clear hold hneed ho
          (go_simp; exact hK _ _ rfl (Upd.refl [] _))
        | 14, ho =>
          obtain rfl := Option.some.inj ho
          have q15 := hun 15 (.inr (by kernel_rfl))
          replace hneed := fun j hj => (hneed j hj).2
          replace hK := fun v w1 h u => hK v w1 h trivial u
          clear hun
          have d41 := get_of_at (hneed 13 (of_decide_eq_true (by kernel_rfl)) 41 rfl) (by simp [undef])
          clear hold hneed ho
          (go_simp; exact hK _ _ rfl (Upd.refl [] _))
        | 15, ho =>
          obtain rfl := Option.some.inj ho
          have q15 := hun 15 (.inl rfl)
          change Blk _ _ _ _ at q15
          replace hneed := fun j hj => (hneed j hj).2
          clear hun
          have d42 := get_of_at (hneed 14 (of_decide_eq_true (by kernel_rfl)) 42 rfl) (by simp [undef])
          have d40 := get_of_at (hneed 12 (of_decide_eq_true (by kernel_rfl)) 40 rfl) (by simp [undef])
          clear hold hneed ho
          (have p1 := q15.cell 1 rfl; have f1 := q15.free 1; have p2 := q15.cell 2 rfl; have f2 := q15.free 2; have p3 := q15.cell 3 rfl; have f3 := q15.free 3; have p4 := q15.cell 4 rfl; have f4 := q15.free 4; have p5 := q15.cell 5 rfl; have f5 := q15.free 5; have p6 := q15.cell 6 rfl; have f6 := q15.free 6; have p7 := q15.cell 7 rfl; have f7 := q15.free 7; have p8 := q15.cell 8 rfl; have f8 := q15.free 8; go_simp; exact hK undef _ trivial ((((((((q15.set 1 (.int .u32 (s' 0))).set 2 (.int .u32 (s' 1))).set 3 (.int .u32 (s' 2))).set 4 (.int .u32 (s' 3))).set 5 (.int .u32 (s' 4))).set 6 (.int .u32 (s' 5))).set 7 (.int .u32 (s' 6))).set 8 (.int .u32 (s' 7))) ((((((((((Upd.refl _ _).setCell (Or.inl (by simp [effOf, BE.eff])) _).setCell (Or.inl (by simp [effOf, BE.eff])) _).setCell (Or.inl (by simp [effOf, BE.eff])) _).setCell (Or.inl (by simp [effOf, BE.eff])) _).setCell (Or.inl (by simp [effOf, BE.eff])) _).setCell (Or.inl (by simp [effOf, BE.eff])) _).setCell (Or.inl (by simp [effOf, BE.eff])) _).setCell (Or.inl (by simp [effOf, BE.eff])) _)))
        | _ + 16, ho => exact absurd ho (by simp)
      case fin =>
        intro a w' hS hsz hdf hold hvals hposts
        have hP15 : Blk w' (kb) (knotCells rb s' (.slice q m64 d) L.length) (87) := hposts 15 (of_decide_eq_true (by kernel_rfl))
        have ha := act_lit hsz hdf (RowIs.cons (at_of_get (hold 0 _ (by kernel_rfl) rfl)) (RowIs.cons (at_of_get (hold 1 _ (by kernel_rfl) rfl)) (RowIs.cons (at_of_get (hold 2 _ (by kernel_rfl) rfl)) (RowIs.cons (at_of_get (hold 3 _ (by kernel_rfl) rfl)) (RowIs.cons (at_of_get (hold 4 _ (by kernel_rfl) rfl)) (RowIs.cons (at_of_get (hold 5 _ (by kernel_rfl) rfl)) (RowIs.cons (at_of_get (hold 6 _ (by kernel_rfl) rfl)) (RowIs.cons (at_of_get (hold 7 _ (by kernel_rfl) rfl)) (RowIs.cons (at_of_get (hold 8 _ (by kernel_rfl) rfl)) (RowIs.cons (at_of_get (hold 9 _ (by kernel_rfl) rfl)) (RowIs.cons (at_of_get (hold 10 _ (by kernel_rfl) rfl)) (RowIs.cons (at_of_get (hold 11 _ (by kernel_rfl) rfl)) (RowIs.cons (at_of_get (hold 12 _ (by kernel_rfl) rfl)) (RowIs.cons (at_of_get (hold 13 _ (by kernel_rfl) rfl)) (RowIs.cons (at_of_get (hold 14 _ (by kernel_rfl) rfl)) (RowIs.cons (at_of_get (hold 15 _ (by kernel_rfl) rfl)) (RowIs.cons (at_of_get (hold 16 _ (by kernel_rfl) rfl)) (RowIs.cons (at_of_get (hold 17 _ (by kernel_rfl) rfl)) (RowIs.cons (at_of_get (hold 18 _ (by kernel_rfl) rfl)) (RowIs.cons (at_of_get (hold 19 _ (by kernel_rfl) rfl)) (RowIs.cons (at_of_get (hold 20 _ (by kernel_rfl) rfl)) (RowIs.cons (at_of_get (hold 21 _ (by kernel_rfl) rfl)) (RowIs.cons (at_of_get (hold 22 _ (by kernel_rfl) rfl)) (RowIs.cons (at_of_get (hold 23 _ (by kernel_rfl) rfl)) (RowIs.cons (at_of_get (hold 24 _ (by kernel_rfl) rfl)) (RowIs.cons (at_of_get (hold 25 _ (by kernel_rfl) rfl)) (RowIs.cons (at_of_get (hold 26 _ (by kernel_rfl) rfl)) (RowIs.cons (at_of_get (hold 27 _ (by kernel_rfl) rfl)) (RowIs.cons (hvals 0 28 rfl) (RowIs.cons (hvals 1 29 rfl) (RowIs.cons (hvals 2 30 rfl) (RowIs.cons (hvals 3 31 rfl) (RowIs.cons (hvals 4 32 rfl) (RowIs.cons (hvals 5 33 rfl) (RowIs.cons (hvals 6 34 rfl) (RowIs.cons (hvals 7 35 rfl) (RowIs.cons (hvals 8 36 rfl) (RowIs.cons (hvals 9 37 rfl) (RowIs.cons (hvals 10 38 rfl) (RowIs.cons (hvals 11 39 rfl) (RowIs.cons (hvals 12 40 rfl) (RowIs.cons (hvals 13 41 rfl) (RowIs.cons (hvals 14 42 rfl) (RowIs.cons (at_of_get (hold 43 _ (by kernel_rfl) rfl)) (RowIs.cons (at_of_get (hold 44 _ (by kernel_rfl) rfl)) (RowIs.cons (at_of_get (hold 45 _ (by kernel_rfl) rfl)) (RowIs.cons (at_of_get (hold 46 _ (by kernel_rfl) rfl)) (RowIs.nil _ _)))))))))))))))))))))))))))))))))))))))))))))))) rfl
        clear hsz hdf hold hvals hposts
        subst ha
        try simp only [List.getElem_toArray, List.getElem_cons_succ, List.getElem_cons_zero]
        have hu2 := hu.trans_same hS
        have hrb2 := hrb.upd hS (by simpa using hne)
        have hat2 := hat.upd hS (fun b o e => by cases e; simpa using hgk)
        clear hS hu hrb hat hB hKr hbb hsb hk
        have hP := hP15
        rw [Hn2.out] at hP
        clear hP15 Hn2 Hs'
        by_cases hc64 : c4 = 64
        · subst hc64
          go_wp2_with fail
          refine ⟨⟨m + 1, _, 0, by omega, by rw [show L.length - 64 * (m + 1) = 0 by omega], by omega, ?_, hge, hP, hrb2, hu2⟩, by simp [lenOf]; omega⟩
          rw [List.drop_of_length_le (by omega)]
          exact ByAt.nil _ _
        · go_wp2_with fail
          refine ⟨⟨m + 1, _, c4 - 64, by omega, by rw [show L.length - 64 * (m + 1) = L.length - 64 * m - 64 by omega], by omega, ?_, fun b o' e => by cases e; exact hg, hP, hrb2, hu2⟩, by simp [lenOf]; omega⟩
          have := hat2.drop 64
          rw [List.drop_drop, show 64 * m + 64 = 64 * (m + 1) by omega] at this
          exact this
    · have c9 := hk.cell 9 rfl
      have f9 := hk.free 9
      go_wp2_with fail
      go_end0
      have em : m = L.length / 64 := by omega
      have er : L.length - 64 * m = L.length % 64 := by omega
      rw [er] at hc4 ⊢
      rw [em] at hat hk
      have u9 := hu.setCell (p := ⟨kb, 9, none⟩) (Or.inl (by simp)) (.slice p4 (L.length % 64) c4)
      refine ⟨rfl, u9, ?_⟩
      rw [Hl2.out]
      have us : Upd [kb] wo (wo.setCell ⟨kb, 9, none⟩ (.slice p4 (L.length % 64) c4)) := (Upd.refl _ _).setCell (Or.inl (by simp)) _
      exact ⟨hrL, rb, p4, c4, hk.set 9 _, hrb.upd us (by simpa using hne), hat.upd_ne hk (fun o x => knot_u8 (by simp)) us, fun b o e => Nat.le_trans s1 (hge b o e), hc4⟩

end Go.Proofs.Ytppbaahaegmgeaa

/- SHA-256: Tie. -/
namespace Go.Proofs.Ytppbaahaegmgeaa
open Go.RowKit

/-- How many bytes 0 are put behind n bytes and the mark. -/
def zc (n : Nat) : Nat := (119 - n % 64) % 64
def lenB (n i : Nat) : Int := (n : Int) * 8 / 2 ^ (8 * i) % 256
def lens (n k : Nat) : List Int := (List.range k).map fun j => lenB n (7 - j)
def pad (n : Nat) : List Int := 128 :: (List.replicate (zc n) 0 ++ lens n 8)
theorem pad_len (n : Nat) : (pad n).length = zc n + 9 := by simp [pad, lens]
theorem pad_mod (n : Nat) : (n + (pad n).length) % 64 = 0 := by rw [pad_len]; unfold zc; omega
theorem lenB_bd (n i : Nat) : 0 ≤ lenB n i ∧ lenB n i ≤ 255 := by
  unfold lenB
  have h1 := Int.emod_nonneg ((n : Int) * 8 / 2 ^ (8 * i)) (show (256 : Int) ≠ 0 by decide)
  have h2 := Int.emod_lt_of_pos ((n : Int) * 8 / 2 ^ (8 * i)) (show (0 : Int) < 256 by decide)
  exact ⟨h1, by omega⟩
theorem rng_lens (n k : Nat) : Rng (lens n k) := fun x hx => by
  obtain ⟨j, _, rfl⟩ := List.mem_map.1 hx
  exact lenB_bd _ _
theorem rng_pad (n : Nat) : Rng (pad n) := fun x hx => by
  rcases List.mem_cons.1 hx with rfl | hx
  · omega
  · rcases List.mem_append.1 hx with hx | hx
    · rw [(List.mem_replicate.1 hx).2]; omega
    · exact rng_lens n 8 x hx
theorem lens_snoc (n k : Nat) : lens n (k + 1) = lens n k ++ [lenB n (7 - k)] := by simp [lens, List.range_succ]

def digB (s : Nat → Int) (i : Nat) : Int := s (i / 4) / 2 ^ (8 * (3 - i % 4)) % 256
/-- The digest. -/
def sha (l : List Int) : Nat → Int := digB (comp H0 (l ++ pad l.length) ((l ++ pad l.length).length / 64))
def row32 (f : Nat → Int) : List Value := row 32 fun i => .int .u8 (f i)
def agg32 (f : Nat → Int) : Value := .agg (row32 f).toArray

theorem Blk.setRow {w : World} {b : Nat} {cs : List Value} {T : TypeId} (h : Blk w b cs T) (ds : Array Value) : Blk (w.setRow b ds) b ds.toList T := by
  unfold Blk at h ⊢
  simp [World.setRow, Array.getElem?_modify, h]
theorem Upd.setRow {bs : List Nat} {a w : World} (h : Upd bs a w) {b : Nat} (hp : b ∈ bs ∨ a.heap.size ≤ b) (ds : Array Value) : Upd bs a (w.setRow b ds) :=
  h.trans (cs := [b]) ⟨rfl, rfl, rfl, by simp [World.setRow], fun k _ hn => by
    have : k ≠ b := by simpa using hn
    simp [World.setRow, Array.getElem?_modify, Ne.symm this]⟩ (by simpa using hp)

theorem row32_step (f : Nat → Int) (i : Nat) : (row32 fun j => if j < i then f j else 0).set i (.int .u8 (f i)) = row32 fun j => if j < i + 1 then f j else 0 := by
  unfold row32
  rw [row_set]
  apply row_congr
  intro j _
  unfold put1
  by_cases h : j = i
  · subst h; simp
  · rw [if_neg h]
    dsimp only
    by_cases h2 : j < i
    · rw [if_pos h2, if_pos (by omega)]
    · rw [if_neg h2, if_neg (by omega)]
theorem row32_all (f : Nat → Int) : (row32 fun j => if j < 32 then f j else 0) = row32 f := by
  unfold row32
  exact row_congr fun j hj => by dsimp only; rw [if_pos hj]

set_option maxHeartbeats 4000000 in
set_option maxRecDepth 100000 in
theorem tie_end {w : World} {B kb : Nat} {l : List Int} (hK : KnotAt w B kb l) (hl : l.length ≤ 140737488355328) :
    Calls Try.prog 45 #[.pointer (some ⟨kb, 0, none⟩)] w fun e w' => e = .returned (agg32 (sha l)) ∧ Upd [] w w' := by
  obtain ⟨hrl, rb, q, d, hk, hrb, hq, hqB, hd⟩ := hK
  have hz : ∀ w : World, (zeroValue 22).run Try.prog w = .ok (.agg (row32 fun _ => 0).toArray) w := fun w => by kernel_rfl
  go_enter Try.func45, Try.ntmps45
  go_upto_region 1 with fail
  have u1 := (Upd.refl [] w).alloc (.cells (row32 fun _ => 0).toArray 22)
  have hT := Blk.new w (row32 fun _ => 0).toArray 22
  have hk1 := hk.alloc (.cells (row32 fun _ => 0).toArray 22)
  have hrb1 := hrb.alloc (.cells (row32 fun _ => 0).toArray 22)
  have hq1 := hq.upd_nil u1
  clear hz hqB
  have hkl := hk.lt
  have hrl2 := hrb.lt
  generalize w.alloc (.cells (row32 fun _ => 0).toArray 22) = W1 at *
  generalize hN : w.heap.size = N at *
  have hNl : w.heap.size ≤ N := by omega
  have hW1 := u1.size
  have hll : (l.drop (64 * (l.length / 64))).length = l.length % 64 := by rw [List.length_drop]; omega
  have hm64 : l.length % 64 < 64 := Nat.mod_lt _ (by decide)
  have hLl : (l ++ pad l.length).length = l.length + zc l.length + 9 := by rw [List.length_append, pad_len]; omega
  have hzc : zc l.length < 64 := Nat.mod_lt _ (by decide)
  have hpm := pad_mod l.length
  rw [pad_len] at hpm
  have hrL : Rng (l ++ pad l.length) := hrl.app (rng_pad _)
  have hdrop : (l ++ pad l.length).drop (64 * (l.length / 64)) = l.drop (64 * (l.length / 64)) ++ pad l.length := by rw [List.drop_append_of_le_length (by omega)]
  have hcomp := comp_app H0 l (pad l.length) (l.length / 64) (by omega)
  rw [← hcomp] at hk1
  have c9 := hk1.cell 9 rfl
  have hzm : (l.length % 64 + 1 + zc l.length) % 64 = 56 := by unfold zc; omega
  have hzl : ∀ z, z < zc l.length → (l.length % 64 + 1 + z) % 64 ≠ 56 := fun z hz => by unfold zc at hz; omega
  generalize hn : l.length = n at *
  generalize hm : n % 64 = m64 at *
  have Hdrop := Lib.hid hdrop
  have HLl := Lib.hid hLl
  have Hn := Lib.hid hn
  have HN := Lib.hid hN
  have Hm := Lib.hid hm
  clear hdrop hLl hn hm hN hcomp hk hrb hq hrl
  generalize hle : l.drop (64 * (n / 64)) = left at *
  have Hle := Lib.hid hle
  clear hle
  go_upto_block 0 with (first
    | (go_at_call 53; refine (none_no hk1).mono ?_; rintro e w1 ⟨rfl, rfl⟩)
    | (at_builtin; refine app_bytes rfl _ _ rfl W1.heap.size _ [] rfl (OwnB.nil _ _) q m64 d left rfl hll.symm hq1 (by simp; omega) (Nat.le_refl _) ?_; rintro p2 c2 w2 hown2 hgrow2; simp only [List.nil_append, List.length_nil, Nat.zero_add, hll] at hown2)
    | (at_builtin; refine app_bytes rfl _ _ rfl W1.heap.size (.slice p2 m64 c2) left rfl (hown2.alloc _) (some ⟨w2.heap.size, 0, none⟩) 1 1 [128] rfl rfl (ByAt.one w2 128 _) (by simp; omega) (by have := hgrow2.size; simp; omega) ?_; rintro p3 c3 w3 hown3 hgrow3))
  have u3 : Upd [] W1 w3 := (((Upd.refl [] W1).grown hgrow2 (fun k hk => nomatch hk)).alloc _).grown hgrow3 (fun k hk => .inr (hown2.lt k hk).1)
  clear hgrow2 hgrow3 hown2 hq1 c9
  simp only [hll, List.length_cons, List.length_nil, Nat.zero_add] at hown3
  go_cut [3] (fun s3 wx => ∃ p c, s3 = .slice p (m64 + 1 + zc n) c ∧ OwnB wx W1.heap.size (.slice p (m64 + 1 + zc n) c) (left ++ 128 :: List.replicate (zc n) 0) ∧ Upd [] W1 wx)
  case first =>
    go_wp2_with fail
    go_loopw [3] (fun v wr => ∃ (z : Nat) (p' : Option Addr) (c' : Nat), z ≤ zc n ∧ v = .slice p' (m64 + 1 + z) c' ∧ OwnB wr W1.heap.size (.slice p' (m64 + 1 + z) c') (left ++ 128 :: List.replicate z 0) ∧ Upd [] W1 wr) (fun v _ => 200 - lenOf v)
    case atStart => exact ⟨0, p3, c3, by omega, rfl, hown3, u3⟩
    case round =>
      obtain ⟨z, p4, c4, hz, rfl, hown, hu⟩ := hrel
      clear u3 hown3
      have hln : (left ++ 128 :: List.replicate z 0).length = m64 + 1 + z := by simp [hll]; omega
      by_cases hlt : z < zc n
      · have h56 := hzl z hlt
        have t1 : (((m64 : Int) + 1 + (z : Int)) % 64 == 56) = false := by rw [beq_eq_false_iff_ne]; omega
        have t2 : (((m64 : Int) + 1 + (z : Int)) % 64 != 56) = true := by rw [bne_iff_ne]; omega
        clear h56
        have hsz := hu.size
        go_wp2_with (at_builtin; refine app_bytes rfl _ _ rfl W1.heap.size (.slice p4 (m64 + 1 + z) c4) (left ++ 128 :: List.replicate z 0) rfl (hown.alloc _) (some ⟨wr.heap.size, 0, none⟩) 1 1 [0] rfl rfl (ByAt.one wr 0 _) (by simp only [hln, List.length_cons, List.length_nil]; omega) (by simp; omega) ?_; rintro p5 c5 w5 hown5 hgrow5)
        simp only [hln, List.length_cons, List.length_nil, Nat.zero_add] at hown5
        rw [List.append_assoc, List.cons_append, show List.replicate z (0 : Int) ++ [0] = List.replicate (z + 1) 0 from List.replicate_succ'.symm, show m64 + 1 + z + 1 = m64 + 1 + (z + 1) by omega] at hown5
        exact ⟨⟨z + 1, p5, c5, by omega, by rw [show m64 + 1 + z + 1 = m64 + 1 + (z + 1) by omega], hown5, (hu.alloc _).grown hgrow5 (fun k hk => .inr (hown.lt k hk).1)⟩, by simp [lenOf]; omega⟩
      · obtain rfl : z = zc n := by omega
        have t1 : (((m64 : Int) + 1 + (zc n : Int)) % 64 == 56) = true := by rw [beq_iff_eq]; omega
        have t2 : (((m64 : Int) + 1 + (zc n : Int)) % 64 != 56) = false := by rw [bne_eq_false_iff_eq]; omega
        go_wp2_with fail
        go_meet
        exact ⟨p4, c4, rfl, hown, hu⟩
  case rest =>
    obtain ⟨p6, c6, rfl, hown6, hu6⟩ := hcut
    clear u3 hown3 hzl
    obtain ⟨w6, rfl⟩ : ∃ w6, w6 = wc := ⟨_, rfl⟩
    have hln6 : (left ++ 128 :: List.replicate (zc n) 0).length = m64 + 1 + zc n := by simp [hll]; omega
    generalize hz2 : left ++ 128 :: List.replicate (zc n) 0 = pre at *
    have Hpre := Lib.hid hz2
    clear hz2
    go_upto_block 2 with fail
    go_cut [3, 4] (fun s3 _ wx => ∃ p c, s3 = .slice p (m64 + 1 + zc n + 8) c ∧ OwnB wx W1.heap.size (.slice p (m64 + 1 + zc n + 8) c) (pre ++ lens n 8) ∧ Upd [] W1 wx)
    case first =>
      go_wp2_with fail
      go_loopw [3, 4] (fun v iv wr => ∃ (k : Nat) (p' : Option Addr) (c' : Nat), k ≤ 8 ∧ iv = .int .i64 (7 - (k : Int)) ∧ v = .slice p' (m64 + 1 + zc n + k) c' ∧ OwnB wr W1.heap.size (.slice p' (m64 + 1 + zc n + k) c') (pre ++ lens n k) ∧ Upd [] W1 wr) (fun v _ _ => 200 - lenOf v)
      case atStart => exact ⟨0, p6, c6, by omega, rfl, rfl, by simpa [lens] using hown6, hu6⟩
      case round =>
        obtain ⟨k, p4, c4, hk8, rfl, rfl, hown, hu⟩ := hrel
        clear hu6 hown6
        have hk2 := hk1.upd_nil hu
        have c10 := hk2.cell 10 rfl
        have hsz := hu.size
        by_cases hlt : k < 8
        · have hlnk : (pre ++ lens n k).length = m64 + 1 + zc n + k := by simp [hln6, lens]
          go_wp2_with (at_builtin; refine app_bytes rfl _ _ rfl W1.heap.size (.slice p4 (m64 + 1 + zc n + k) c4) (pre ++ lens n k) rfl (hown.alloc _) (some ⟨wr.heap.size, 0, none⟩) 1 1 [lenB n (7 - k)] rfl rfl (ByAt.one wr (lenB n (7 - k)) _) (by simp only [hlnk, List.length_cons, List.length_nil]; omega) (by simp; omega) ?_; rintro p5 c5 w5 hown5 hgrow5)
          simp only [hlnk, List.length_cons, List.length_nil, Nat.zero_add] at hown5
          rw [List.append_assoc, ← lens_snoc, show m64 + 1 + zc n + k + 1 = m64 + 1 + zc n + (k + 1) by omega] at hown5
          exact ⟨⟨k + 1, p5, c5, by omega, by congr 1; omega, by rw [show m64 + 1 + zc n + k + 1 = m64 + 1 + zc n + (k + 1) by omega], hown5, (hu.alloc _).grown hgrow5 (fun k hk => .inr (hown.lt k hk).1)⟩, by simp [lenOf]; omega⟩
        · obtain rfl : k = 8 := by omega
          go_wp2_with fail
          go_meet
          exact ⟨p4, c4, rfl, hown, hu⟩
    case rest =>
      obtain ⟨p7, c7, rfl, hown7, hu7⟩ := hcut
      clear hu6 hown6
      obtain ⟨w7, rfl⟩ : ∃ w7, w7 = wc := ⟨_, rfl⟩
      have hk7 := hk1.upd_nil hu7
      have hrb7 := hrb1.upd_nil hu7
      have c1 := hk7.cell 1 rfl
      have c2' := hk7.cell 2 rfl
      have c3' := hk7.cell 3 rfl
      have c4 := hk7.cell 4 rfl
      have c5 := hk7.cell 5 rfl
      have c6' := hk7.cell 6 rfl
      have c7' := hk7.cell 7 rfl
      have c8 := hk7.cell 8 rfl
      go_upto_block 4 with fail
      clear c1 c2' c3' c4 c5 c6' c7' c8
      have hall : pre ++ lens n 8 = (l ++ pad n).drop (64 * (n / 64)) := by
        rw [Hdrop.out, ← Hpre.out]; simp [pad]
      rw [hall] at hown7
      have hat7 := hown7.at_
      have hc7 : (l ++ pad n).length - 64 * (n / 64) ≤ c7 := by
        obtain ⟨p', c', e, h1, _⟩ := hown7.form
        have e3 : c7 = c' := by injection e
        rw [List.length_drop] at h1
        rw [e3]; exact h1
      have hL64 : (l ++ pad n).length % 64 = 0 := by rw [HLl.out]; omega
      have hLb : (l ++ pad n).length ≤ 140737488356000 := by rw [HLl.out]; omega
      have hm0 : 64 * (n / 64) ≤ (l ++ pad n).length := by rw [HLl.out]; omega
      rw [show m64 + 1 + zc n + 8 = (l ++ pad n).length - 64 * (n / 64) by rw [HLl.out]; have := Hm.out; omega] at hown7 ⊢
      have hSb := Blk.new w7 (wrow 8 (comp H0 (l ++ pad n) (n / 64))).toArray 82
      have u8 := hu7.alloc (.cells (wrow 8 (comp H0 (l ++ pad n) (n / 64))).toArray 82)
      have hk8 := hk7.alloc (.cells (wrow 8 (comp H0 (l ++ pad n) (n / 64))).toArray 82)
      have hrb8 := hrb7.alloc (.cells (wrow 8 (comp H0 (l ++ pad n) (n / 64))).toArray 82)
      have hat8 := hat7.upd_nil ((Upd.refl [] w7).alloc (.cells (wrow 8 (comp H0 (l ++ pad n) (n / 64))).toArray 82))
      have hsb := hu7.size
      clear hk7 hrb7 hat7 hown7 hall
      change Code.wp _ _ _ _ (w7.alloc (.cells (wrow 8 (comp H0 (l ++ pad n) (n / 64))).toArray 82))
      generalize w7.alloc (.cells (wrow 8 (comp H0 (l ++ pad n) (n / 64))).toArray 82) = W8 at *
      generalize w7.heap.size = sb at *
      generalize hLL : l ++ pad n = L at *
      have HLL := Lib.hid hLL
      clear hLL
      generalize n / 64 = m0 at *
      have hW8 := hT.upd_nil u8
      have hge7 : ∀ b o, p7 = some ⟨b, o, none⟩ → True := fun _ _ _ => trivial
      clear hge7 hu7 hk1 hrb1 hzm hpm
      have hTl := hT.lt
      have hkr : rb ≠ sb := by omega
      have hNs : N ≠ sb := by omega
      have hks : kb ≠ sb := by omega
      go_cut [3] (fun _ wx => Blk wx sb (wrow 8 (comp H0 L (L.length / 64))) 82 ∧ Blk wx N (row32 fun _ => 0) 22 ∧ Upd [] W1 wx)
      case first =>
        go_wp2_with fail
        go_loopw [3] (fun v wr => ∃ (m : Nat) (p' : Option Addr) (c' : Nat), 64 * m ≤ L.length ∧ v = .slice p' (L.length - 64 * m) c' ∧ L.length - 64 * m ≤ c' ∧ ByAt wr p' (L.drop (64 * m)) ∧ Blk wr sb (wrow 8 (comp H0 L m)) 82 ∧ Blk wr kb (knotCells rb (comp H0 L m0) (.slice q m64 d) n) 87 ∧ Blk wr rb (wrow 72 rowsF) 85 ∧ Blk wr N (row32 fun _ => 0) 22 ∧ Upd [] W1 wr) (fun v _ => lenOf v)
        case atStart => exact ⟨m0, p7, c7, hm0, rfl, hc7, hat8, hSb, hk8, hrb8, hW8, u8⟩
        case round =>
          obtain ⟨m, p4, c4, hm, rfl, hc4, hat, hS8, hk, hrb, hTN, hu⟩ := hrel
          clear hat8 hSb hk8 hrb8 hW8 u8 hc7
          obtain ⟨wo, rfl⟩ : ∃ wo, wo = wr := ⟨_, rfl⟩
          by_cases h64 : 64 ≤ L.length - 64 * m
          · obtain ⟨g, o, rfl⟩ := hat.form (by rw [List.length_drop]; omega)
            have hgk : g ≠ sb := hat.ne (by rw [List.length_drop]; omega) hS8 (fun o x => wrow_u8)
            have hB : ∀ i, i < 64 → wo.cell? ⟨g, o + i, none⟩ = some (.int .u8 (byteF L m i)) := fun i hi => by
              rw [hat.cell i (by rw [List.length_drop]; omega)]
              unfold byteF
              rw [List.getD_eq_getElem?_getD, List.getD_eq_getElem?_getD, List.getElem?_drop]
            have hbb : ∀ i, 0 ≤ byteF L m i ∧ byteF L m i < 256 := fun i => hrL.getD _
            have hsb2 := comp_bd L m
            have hKr : ∀ i, i < 64 → wo.cell? ⟨rb, 8 + i, none⟩ = some (.int .u32 (K0 i)) := fun i hi => by
              rw [hrb.cell (8 + i) (wrow_get _ (by omega)), rows_K i hi]
            have hnext : tieF K0 (byteF L m) (comp H0 L m) = comp H0 L (m + 1) := rfl
            have Hnext := Lib.hid hnext
            clear hnext
            generalize comp H0 L m = s at *
            obtain ⟨s', Hs'⟩ : ∃ s', Hid (tieF K0 (byteF L m) s = s') := ⟨_, Lib.hid rfl⟩
            have Hn2 : Hid (s' = comp H0 L (m + 1)) := Lib.hid (Hs'.out.symm.trans Hnext.out)
            clear Hnext
            have hgl := lt_of_cell (hB 0 (by decide))
            have hrl := hrb.lt
            have z0 := hk.cell 0 rfl
            have hkl2 := hk.lt
            go_upto_region 13 with fail
            refine wp_region_blk [(.eq (.pointer (some ⟨kb, 0, none⟩))), (.eq (.pointer (some ⟨kb, 0, none⟩))), (.eq (.pointer (some ⟨kb, 0, none⟩))), (.eq (.pointer (some ⟨rb, 0, none⟩))), (.eq (.pointer (some ⟨rb, 0, none⟩))), (.eq (.pointer (some ⟨rb, 8, none⟩))), (.eq (.agg #[.int .u32 (s 0), .int .u32 (s 1), .int .u32 (s 2), .int .u32 (s 3), .int .u32 (s 4), .int .u32 (s 5), .int .u32 (s 6), .int .u32 (s 7)])), (.eq (.slice (some ⟨g, o, none⟩) (L.length - 64 * m) c4)), (.eq (.agg #[.int .u32 (s' 0), .int .u32 (s' 1), .int .u32 (s' 2), .int .u32 (s' 3), .int .u32 (s' 4), .int .u32 (s' 5), .int .u32 (s' 6), .int .u32 (s' 7)])), .any] [⟨9, (sb), (wrow 8 s), (wrow 8 s'), (82)⟩] (by kernel_rfl) (by kernel_rfl) rfl ?ne ?pre ?step ?fin
            case ne => intro x hx y hy hxy; simp only [List.mem_cons, List.not_mem_nil, or_false] at hx hy; rcases hx with rfl <;> rcases hy with rfl <;> first | (exact absurd rfl hxy) | (dsimp only; omega)
            case pre => intro x hx; simp only [List.mem_cons, List.not_mem_nil, or_false] at hx; rcases hx with rfl <;> assumption
            case step =>
              intro i o ho a w' hS hold hneed hun K' hK
              match i, ho with
              | 0, ho =>
                obtain rfl := Option.some.inj ho
                have q9 := hun 9 (.inr (by kernel_rfl))
                replace hneed := fun j hj => (hneed j hj).2
                replace hK := fun v w1 h u => hK v w1 h trivial u
                clear hun
                have d0 := hold 0 _ (by kernel_rfl) rfl
                clear hold hneed ho
                (go_simp; exact hK _ _ rfl (Upd.refl [] _))
              | 1, ho =>
                obtain rfl := Option.some.inj ho
                have q9 := hun 9 (.inr (by kernel_rfl))
                replace hneed := fun j hj => (hneed j hj).2
                replace hK := fun v w1 h u => hK v w1 h trivial u
                clear hun
                have d50 := get_of_at (hneed 0 (of_decide_eq_true (by kernel_rfl)) 50 rfl) (by simp [undef])
                clear hold hneed ho
                (go_simp; exact hK _ _ rfl (Upd.refl [] _))
              | 2, ho =>
                obtain rfl := Option.some.inj ho
                have q9 := hun 9 (.inr (by kernel_rfl))
                replace hneed := fun j hj => (hneed j hj).2
                replace hK := fun v w1 h u => hK v w1 h trivial u
                clear hun
                have d51 := get_of_at (hneed 1 (of_decide_eq_true (by kernel_rfl)) 51 rfl) (by simp [undef])
                clear hold hneed ho
                (go_simp; exact hK _ _ rfl (Upd.refl [] _))
              | 3, ho =>
                obtain rfl := Option.some.inj ho
                have q9 := hun 9 (.inr (by kernel_rfl))
                replace hneed := fun j hj => (hneed j hj).2
                replace hK := fun v w1 h u => hK v w1 h trivial u
                clear hun
                have d52 := get_of_at (hneed 2 (of_decide_eq_true (by kernel_rfl)) 52 rfl) (by simp [undef])
                clear hold hneed ho
                (have p0 := (hS.cell (a := ⟨kb, 0, none⟩) hkl2 (by simpa using hks)).trans z0; go_simp; exact hK _ _ rfl (Upd.refl [] _))
              | 4, ho =>
                obtain rfl := Option.some.inj ho
                have q9 := hun 9 (.inr (by kernel_rfl))
                replace hneed := fun j hj => (hneed j hj).2
                replace hK := fun v w1 h u => hK v w1 h trivial u
                clear hun
                have d53 := get_of_at (hneed 3 (of_decide_eq_true (by kernel_rfl)) 53 rfl) (by simp [undef])
                clear hold hneed ho
                (go_simp; exact hK _ _ rfl (Upd.refl [] _))
              | 5, ho =>
                obtain rfl := Option.some.inj ho
                have q9 := hun 9 (.inr (by kernel_rfl))
                replace hneed := fun j hj => (hneed j hj).2
                replace hK := fun v w1 h u => hK v w1 h trivial u
                clear hun
                have d54 := get_of_at (hneed 4 (of_decide_eq_true (by kernel_rfl)) 54 rfl) (by simp [undef])
                clear hold hneed ho
                (go_simp; exact hK _ _ rfl (Upd.refl [] _))
              | 6, ho =>
                obtain rfl := Option.some.inj ho
                have q9 := hun 9 (.inr (by kernel_rfl))
                replace hneed := fun j hj => (hneed j hj).2
                replace hK := fun v w1 h u => hK v w1 h trivial u
                clear hun
                have d5 := hold 5 _ (by kernel_rfl) rfl
                clear hold hneed ho
                (have p0 := q9.cell 0 (wrow_get s (by omega)); have p1 := q9.cell 1 (wrow_get s (by omega)); have p2 := q9.cell 2 (wrow_get s (by omega)); have p3 := q9.cell 3 (wrow_get s (by omega)); have p4 := q9.cell 4 (wrow_get s (by omega)); have p5 := q9.cell 5 (wrow_get s (by omega)); have p6 := q9.cell 6 (wrow_get s (by omega)); have p7 := q9.cell 7 (wrow_get s (by omega)); go_simp; exact hK _ _ rfl (Upd.refl [] _))
              | 7, ho =>
                obtain rfl := Option.some.inj ho
                have q9 := hun 9 (.inr (by kernel_rfl))
                replace hneed := fun j hj => (hneed j hj).2
                replace hK := fun v w1 h u => hK v w1 h trivial u
                clear hun
                have d3 := hold 3 _ (by kernel_rfl) rfl
                clear hold hneed ho
                (go_simp; exact hK _ _ rfl (Upd.refl [] _))
              | 8, ho =>
                obtain rfl := Option.some.inj ho
                have q9 := hun 9 (.inr (by kernel_rfl))
                replace hneed := fun j hj => (hneed j hj).2
                replace hK := fun v w1 h u => hK v w1 h trivial u
                clear hun
                have d55 := get_of_at (hneed 5 (of_decide_eq_true (by kernel_rfl)) 55 rfl) (by simp [undef])
                have d56 := get_of_at (hneed 6 (of_decide_eq_true (by kernel_rfl)) 56 rfl) (by simp [undef])
                have d57 := get_of_at (hneed 7 (of_decide_eq_true (by kernel_rfl)) 57 rfl) (by simp [undef])
                clear hold hneed ho
                (go_simp; refine (tie_walk rb 8 g o (L.length - 64 * m) c4 K0 (byteF L m) s _ (fun i hi => (hS.cell (a := ⟨rb, 8 + i, none⟩) hrl (by simpa using hkr)).trans (hKr i hi)) (fun i hi => (hS.cell (a := ⟨g, o + i, none⟩) hgl (by simpa using hgk)).trans (hB i hi)) hbb hsb2 h64 (by omega)).mono ?_; rw [Hs'.out]; unfold agg8; rintro e w3 ⟨rfl, hu3⟩; exact hK _ _ rfl hu3)
              | 9, ho =>
                obtain rfl := Option.some.inj ho
                have q9 := hun 9 (.inl rfl)
                change Blk _ _ _ _ at q9
                replace hneed := fun j hj => (hneed j hj).2
                clear hun
                have d5 := hold 5 _ (by kernel_rfl) rfl
                have d58 := get_of_at (hneed 8 (of_decide_eq_true (by kernel_rfl)) 58 rfl) (by simp [undef])
                clear hold hneed ho
                (have p0 := q9.cell 0 (wrow_get s (by omega)); have f0 := q9.free 0; have p1 := q9.cell 1 (wrow_get s (by omega)); have f1 := q9.free 1; have p2 := q9.cell 2 (wrow_get s (by omega)); have f2 := q9.free 2; have p3 := q9.cell 3 (wrow_get s (by omega)); have f3 := q9.free 3; have p4 := q9.cell 4 (wrow_get s (by omega)); have f4 := q9.free 4; have p5 := q9.cell 5 (wrow_get s (by omega)); have f5 := q9.free 5; have p6 := q9.cell 6 (wrow_get s (by omega)); have f6 := q9.free 6; have p7 := q9.cell 7 (wrow_get s (by omega)); have f7 := q9.free 7; have hq := (((((((q9.set 0 (.int .u32 (s' 0))).set 1 (.int .u32 (s' 1))).set 2 (.int .u32 (s' 2))).set 3 (.int .u32 (s' 3))).set 4 (.int .u32 (s' 4))).set 5 (.int .u32 (s' 5))).set 6 (.int .u32 (s' 6))).set 7 (.int .u32 (s' 7)); rw [eight_set] at hq; go_simp; exact hK undef _ trivial hq ((((((((((Upd.refl _ _).setCell (Or.inl (by simp [effOf, BE.eff])) _).setCell (Or.inl (by simp [effOf, BE.eff])) _).setCell (Or.inl (by simp [effOf, BE.eff])) _).setCell (Or.inl (by simp [effOf, BE.eff])) _).setCell (Or.inl (by simp [effOf, BE.eff])) _).setCell (Or.inl (by simp [effOf, BE.eff])) _).setCell (Or.inl (by simp [effOf, BE.eff])) _).setCell (Or.inl (by simp [effOf, BE.eff])) _)))
              | _ + 10, ho => exact absurd ho (by simp)
            case fin =>
              intro a w' hS hsz hdf hold hvals hposts
              have hP9 : Blk w' (sb) (wrow 8 s') (82) := hposts 9 (of_decide_eq_true (by kernel_rfl))
              have ha := act_lit hsz hdf (RowIs.cons (at_of_get (hold 0 _ (by kernel_rfl) rfl)) (RowIs.cons (at_of_get (hold 1 _ (by kernel_rfl) rfl)) (RowIs.cons (at_of_get (hold 2 _ (by kernel_rfl) rfl)) (RowIs.cons (at_of_get (hold 3 _ (by kernel_rfl) rfl)) (RowIs.cons (at_of_get (hold 4 _ (by kernel_rfl) rfl)) (RowIs.cons (at_of_get (hold 5 _ (by kernel_rfl) rfl)) (RowIs.cons (at_of_get (hold 6 _ (by kernel_rfl) rfl)) (RowIs.cons (at_of_get (hold 7 _ (by kernel_rfl) rfl)) (RowIs.cons (at_of_get (hold 8 _ (by kernel_rfl) rfl)) (RowIs.cons (at_of_get (hold 9 _ (by kernel_rfl) rfl)) (RowIs.cons (at_of_get (hold 10 _ (by kernel_rfl) rfl)) (RowIs.cons (at_of_get (hold 11 _ (by kernel_rfl) rfl)) (RowIs.cons (at_of_get (hold 12 _ (by kernel_rfl) rfl)) (RowIs.cons (at_of_get (hold 13 _ (by kernel_rfl) rfl)) (RowIs.cons (at_of_get (hold 14 _ (by kernel_rfl) rfl)) (RowIs.cons (at_of_get (hold 15 _ (by kernel_rfl) rfl)) (RowIs.cons (at_of_get (hold 16 _ (by kernel_rfl) rfl)) (RowIs.cons (at_of_get (hold 17 _ (by kernel_rfl) rfl)) (RowIs.cons (at_of_get (hold 18 _ (by kernel_rfl) rfl)) (RowIs.cons (at_of_get (hold 19 _ (by kernel_rfl) rfl)) (RowIs.cons (at_of_get (hold 20 _ (by kernel_rfl) rfl)) (RowIs.cons (at_of_get (hold 21 _ (by kernel_rfl) rfl)) (RowIs.cons (at_of_get (hold 22 _ (by kernel_rfl) rfl)) (RowIs.cons (at_of_get (hold 23 _ (by kernel_rfl) rfl)) (RowIs.cons (at_of_get (hold 24 _ (by kernel_rfl) rfl)) (RowIs.cons (at_of_get (hold 25 _ (by kernel_rfl) rfl)) (RowIs.cons (at_of_get (hold 26 _ (by kernel_rfl) rfl)) (RowIs.cons (at_of_get (hold 27 _ (by kernel_rfl) rfl)) (RowIs.cons (at_of_get (hold 28 _ (by kernel_rfl) rfl)) (RowIs.cons (at_of_get (hold 29 _ (by kernel_rfl) rfl)) (RowIs.cons (at_of_get (hold 30 _ (by kernel_rfl) rfl)) (RowIs.cons (at_of_get (hold 31 _ (by kernel_rfl) rfl)) (RowIs.cons (at_of_get (hold 32 _ (by kernel_rfl) rfl)) (RowIs.cons (at_of_get (hold 33 _ (by kernel_rfl) rfl)) (RowIs.cons (at_of_get (hold 34 _ (by kernel_rfl) rfl)) (RowIs.cons (at_of_get (hold 35 _ (by kernel_rfl) rfl)) (RowIs.cons (at_of_get (hold 36 _ (by kernel_rfl) rfl)) (RowIs.cons (at_of_get (hold 37 _ (by kernel_rfl) rfl)) (RowIs.cons (at_of_get (hold 38 _ (by kernel_rfl) rfl)) (RowIs.cons (at_of_get (hold 39 _ (by kernel_rfl) rfl)) (RowIs.cons (at_of_get (hold 40 _ (by kernel_rfl) rfl)) (RowIs.cons (at_of_get (hold 41 _ (by kernel_rfl) rfl)) (RowIs.cons (at_of_get (hold 42 _ (by kernel_rfl) rfl)) (RowIs.cons (at_of_get (hold 43 _ (by kernel_rfl) rfl)) (RowIs.cons (at_of_get (hold 44 _ (by kernel_rfl) rfl)) (RowIs.cons (at_of_get (hold 45 _ (by kernel_rfl) rfl)) (RowIs.cons (at_of_get (hold 46 _ (by kernel_rfl) rfl)) (RowIs.cons (at_of_get (hold 47 _ (by kernel_rfl) rfl)) (RowIs.cons (at_of_get (hold 48 _ (by kernel_rfl) rfl)) (RowIs.cons (at_of_get (hold 49 _ (by kernel_rfl) rfl)) (RowIs.cons (hvals 0 50 rfl) (RowIs.cons (hvals 1 51 rfl) (RowIs.cons (hvals 2 52 rfl) (RowIs.cons (hvals 3 53 rfl) (RowIs.cons (hvals 4 54 rfl) (RowIs.cons (hvals 5 55 rfl) (RowIs.cons (hvals 6 56 rfl) (RowIs.cons (hvals 7 57 rfl) (RowIs.cons (hvals 8 58 rfl) (RowIs.cons (at_of_get (hold 59 _ (by kernel_rfl) rfl)) (RowIs.cons (at_of_get (hold 60 _ (by kernel_rfl) rfl)) (RowIs.cons (at_of_get (hold 61 _ (by kernel_rfl) rfl)) (RowIs.cons (at_of_get (hold 62 _ (by kernel_rfl) rfl)) (RowIs.cons (at_of_get (hold 63 _ (by kernel_rfl) rfl)) (RowIs.cons (at_of_get (hold 64 _ (by kernel_rfl) rfl)) (RowIs.cons (at_of_get (hold 65 _ (by kernel_rfl) rfl)) (RowIs.cons (at_of_get (hold 66 _ (by kernel_rfl) rfl)) (RowIs.cons (at_of_get (hold 67 _ (by kernel_rfl) rfl)) (RowIs.cons (at_of_get (hold 68 _ (by kernel_rfl) rfl)) (RowIs.cons (at_of_get (hold 69 _ (by kernel_rfl) rfl)) (RowIs.cons (at_of_get (hold 70 _ (by kernel_rfl) rfl)) (RowIs.cons (at_of_get (hold 71 _ (by kernel_rfl) rfl)) (RowIs.cons (at_of_get (hold 72 _ (by kernel_rfl) rfl)) (RowIs.cons (at_of_get (hold 73 _ (by kernel_rfl) rfl)) (RowIs.cons (at_of_get (hold 74 _ (by kernel_rfl) rfl)) (RowIs.cons (at_of_get (hold 75 _ (by kernel_rfl) rfl)) (RowIs.nil _ _))))))))))))))))))))))))))))))))))))))))))))))))))))))))))))))))))))))))))))) rfl
              clear hsz hdf hold hvals hposts
              subst ha
              try simp only [List.getElem_toArray, List.getElem_cons_succ, List.getElem_cons_zero]
              have hu2 := hu.trans_nil' hS (by simpa using hsb)
              have hrb2 := hrb.upd hS (by simpa using hkr)
              have hk2 := hk.upd hS (by simpa using hks)
              have hTN2 := hTN.upd hS (by simpa using hNs)
              have hat2 := hat.upd hS (fun b o e => by cases e; simpa using hgk)
              have hP := hP9
              rw [Hn2.out] at hP
              clear hP9 Hn2 Hs' hS hu hrb hat hB hKr hbb hsb2 hk hS8 hTN z0
              by_cases hc64 : c4 = 64
              · subst hc64
                go_wp2_with fail
                refine ⟨⟨m + 1, _, 0, by omega, by rw [show L.length - 64 * (m + 1) = 0 by omega], by omega, ?_, hP, hk2, hrb2, hTN2, hu2⟩, by simp [lenOf]; omega⟩
                rw [List.drop_of_length_le (by omega)]
                exact ByAt.nil _ _
              · go_wp2_with fail
                refine ⟨⟨m + 1, _, c4 - 64, by omega, by rw [show L.length - 64 * (m + 1) = L.length - 64 * m - 64 by omega], by omega, ?_, hP, hk2, hrb2, hTN2, hu2⟩, by simp [lenOf]; omega⟩
                have := hat2.drop 64
                rw [List.drop_drop, show 64 * m + 64 = 64 * (m + 1) by omega] at this
                exact this
          · have em : m = L.length / 64 := by omega
            have e0 : L.length - 64 * m = 0 := by omega
            rw [e0]
            go_wp2_with fail
            go_meet
            exact ⟨by rw [← em]; exact hS8, hTN, hu⟩
      case rest =>
        obtain ⟨hS9, hT9, u9⟩ := hcut
        clear hat8 hSb hk8 hrb8 hW8 u8 hc7
        obtain ⟨w9, rfl⟩ : ∃ w9, w9 = wc := ⟨_, rfl⟩
        have hsbd := comp_bd L (L.length / 64)
        have hend : ∀ i, digB (comp H0 L (L.length / 64)) i = sha l i := fun i => by
          unfold sha
          rw [Hn.out, HLL.out]
        have Hend := Lib.hid hend
        clear hend
        generalize comp H0 L (L.length / 64) = s at *
        have U9 := u1.trans_nil u9
        clear u9 u1 hT hm0 hLb hL64 hsb
        go_wp2_with fail
        go_loopw [59] (fun iv wr => ∃ i : Nat, i ≤ 32 ∧ iv = .int .i64 i ∧ Blk wr N (row32 fun j => if j < i then sha l j else 0) 22 ∧ Blk wr sb (wrow 8 s) 82 ∧ Upd [] w wr) (fun iv _ => 32 - (intOf iv).toNat)
        case atStart => exact ⟨0, by omega, rfl, by simpa using hT9, hS9, U9⟩
        case round =>
          obtain ⟨i, hi, rfl, hTi, hSi, hu⟩ := hrel
          clear hT9 hS9 U9
          obtain ⟨wo, rfl⟩ : ∃ wo, wo = wr := ⟨_, rfl⟩
          by_cases hlt : i < 32
          · have c1 := hSi.cell (i / 4) (wrow_get s (by omega))
            have cN := hTi.cell i (v := .int .u8 (if i < i then sha l i else 0)) (row_get _ hlt)
            have fN := hTi.free i
            obtain ⟨b1, b2⟩ := hsbd (i / 4)
            go_wp2_with fail
            have hv : s (i / 4) / 2 ^ (8 * (3 - i % 4)) % 256 = sha l i := Hend.out i
            rw [hv]
            have hN := hTi.set i (.int .u8 (sha l i))
            rw [row32_step] at hN
            exact ⟨⟨i + 1, by omega, by go_num, hN, hSi.set_ne _ (Ne.symm hNs) _, hu.setCell (Or.inr hNl) _⟩, by simp [intOf]; omega⟩
          · obtain rfl : i = 32 := by omega
            rw [row32_all] at hTi
            have hi : (Try.prog.info? 22).map (·.size) = some (row32 (sha l)).toArray.size := by kernel_rfl
            go_wp2_with (first
              | (refine wpList_load_row rfl _ _ rfl N rfl _ (row32 (sha l)).toArray _ _ hTi Try.underlying22 rfl hi ?_)
              | (refine wpList_store_rowTo rfl _ _ _ rfl rfl N (row32 (sha l)).toArray rfl rfl _ (row32 (sha l)).toArray hTi hi rfl (by kernel_rfl) ?_))
            have hT2 := hTi.setRow (row32 (sha l)).toArray
            refine bodyPost_ret (v := agg32 (sha l)) (results_cell_row rfl _ _ N _ _ _ _ rfl hT2 Try.underlying22 rfl hi) rfl ⟨rfl, hu.setRow (Or.inr hNl) _⟩

set_option maxRecDepth 100000 in
theorem of_walk (w : World) (p : Option Addr) (xs : List Int) (c : Nat) (hx : ByAt w p xs) (hr : Rng xs) (hl : xs.length ≤ 140737488355328) :
    Calls Try.prog 41 #[.slice p xs.length c] w fun e w' => e = .returned (agg32 (sha xs)) ∧ Upd [] w w' := by
  have hz : ∀ w : World, (zeroValue 22).run Try.prog w = .ok (.agg (row32 fun _ => 0).toArray) w := fun w => by kernel_rfl
  go_enter Try.func41, Try.ntmps41
  go_upto_region 1 with fail
  have u1 := (Upd.refl [] w).alloc (.cells (row32 fun _ => 0).toArray 22)
  have hT := Blk.new w (row32 fun _ => 0).toArray 22
  have hx1 := hx.upd_nil u1
  clear hz
  generalize w.alloc (.cells (row32 fun _ => 0).toArray 22) = W1 at *
  have hNl : w.heap.size ≤ w.heap.size := Nat.le_refl _
  generalize hg : w.heap.size = N at hT hNl ⊢
  have hNl2 : w.heap.size ≤ N := by omega
  clear hg hNl
  go_upto_region 2 with (go_at_call 43; refine (new_walk _).mono ?_; rintro e w2 ⟨kb, rfl, hkb, u2, hK⟩)
  have hK2 := hK 0
  have hx2 := hx1.upd_nil u2
  go_upto_region 3 with (go_at_call 44; refine (add_walk hK2 p xs c hx2 hr (by simp; omega)).mono ?_; rintro e w3 ⟨rfl, u3, hK3⟩)
  have hT3 := (hT.upd_nil u2).upd u3 (by have := hT.lt; simp; omega)
  have hi : (Try.prog.info? 22).map (·.size) = some (row32 (sha xs)).toArray.size := by kernel_rfl
  go_wp2_with (first
    | (go_at_call 45; refine (tie_end hK3 (by simpa using hl)).mono ?_; rintro e w4 ⟨rfl, u4⟩)
    | (refine wpList_store_rowTo rfl _ _ _ rfl rfl N (row32 (sha xs)).toArray rfl rfl _ (row32 fun _ => 0).toArray (hT3.upd_nil u4) hi rfl (by kernel_rfl) ?_))
  have hT5 := (hT3.upd_nil u4).setRow (row32 (sha xs)).toArray
  have u5 := (((u1.trans_nil u2).trans_nil' u3 (by have := u1.size; simp; omega)).trans_nil u4).setRow (Or.inr hNl2) (row32 (sha xs)).toArray
  exact bodyPost_ret (v := agg32 (sha xs)) (results_cell_row rfl _ _ N _ _ _ _ rfl hT5 Try.underlying22 rfl hi) rfl ⟨rfl, u5⟩

end Go.Proofs.Ytppbaahaegmgeaa
