/- SHA-256's tie of a block: the walk. -/
import Derived.Test.YtppbaahaegmgeaaKnA
import Derived.Deep.RegionHeld3
namespace Go.Proofs.Ytppbaahaegmgeaa
open Go.RowKit

def wrow (n : Nat) (f : Nat → Int) : List Value := row n fun i => .int .u32 (f i)
def upd1 (f : Nat → Int) (i : Nat) (v : Int) : Nat → Int := fun j => if j = i then v else f j
theorem wrow_set (n : Nat) (f : Nat → Int) (i : Nat) (v : Int) : (wrow n f).set i (.int .u32 v) = wrow n (upd1 f i v) := by
  unfold wrow
  rw [row_set]
  apply row_congr
  intro j _
  unfold put1 upd1
  split <;> rfl
theorem wrow_get {n : Nat} (f : Nat → Int) {i : Nat} (hi : i < n) : (wrow n f)[i]? = some (.int .u32 (f i)) := row_get _ hi

def zrow (n : Nat) : Array Value := (wrow n fun _ => 0).toArray
theorem zero_64 (w : World) : (zeroValue 83).run Try.prog w = .ok (.agg (zrow 64)) w := by kernel_rfl
theorem zero_8 (w : World) : (zeroValue 82).run Try.prog w = .ok (.agg (zrow 8)) w := by kernel_rfl

/-- The words of a block's bytes, k bytes in. -/
def wIn (B : Nat → Int) : Nat → (Nat → Int)
  | 0 => fun _ => 0
  | k + 1 => upd1 (wIn B k) (k / 4) (bits BinOp.or IntKind.u32 (wIn B k (k / 4) * 256 % 4294967296) (B k))

theorem wIn_bd (B : Nat → Int) (k j : Nat) : 0 ≤ wIn B k j ∧ wIn B k j < 4294967296 := by
  induction k with
  | zero => simp [wIn]
  | succ k ih =>
    unfold wIn upd1
    split
    · have h1 := bits_lo_u32 .or (wIn B k (k / 4) * 256 % 4294967296) (B k)
      have h2 := bits_hi_u32 .or (wIn B k (k / 4) * 256 % 4294967296) (B k)
      omega
    · exact ih

/-- A new word of the rounds, out of the words from k on. -/
def newW (f : Nat → Int) (k : Nat) : Int :=
  (((f k + f (k + 9)) % 4294967296 + bits BinOp.xor IntKind.u32 (bits BinOp.xor IntKind.u32 (rotr (f (k + 1)) 7) (rotr (f (k + 1)) 18)) (f (k + 1) / 8)) % 4294967296 +
    bits BinOp.xor IntKind.u32 (bits BinOp.xor IntKind.u32 (rotr (f (k + 14)) 17) (rotr (f (k + 14)) 19)) (f (k + 14) / 1024)) % 4294967296
theorem newW_bd (f : Nat → Int) (k : Nat) : 0 ≤ newW f k ∧ newW f k < 4294967296 := by unfold newW; omega

def wExt (f : Nat → Int) : Nat → (Nat → Int)
  | 0 => f
  | k + 1 => upd1 (wExt f k) (k + 16) (newW (wExt f k) k)

/-- The two sums of a round. -/
def sumT (K f v : Nat → Int) (i : Nat) : Int :=
  (v 7 + bits BinOp.xor IntKind.u32 (bits BinOp.xor IntKind.u32 (rotr (v 4) 6) (rotr (v 4) 11)) (rotr (v 4) 25) +
    bits BinOp.xor IntKind.u32 (v 6) (bits BinOp.and IntKind.u32 (v 4) (bits BinOp.xor IntKind.u32 (v 5) (v 6))) + K i + f i) % 4294967296
def sumU (v : Nat → Int) : Int :=
  (bits BinOp.xor IntKind.u32 (bits BinOp.xor IntKind.u32 (rotr (v 0) 2) (rotr (v 0) 13)) (rotr (v 0) 22) +
    bits BinOp.xor IntKind.u32 (bits BinOp.xor IntKind.u32 (bits BinOp.and IntKind.u32 (v 0) (v 1)) (bits BinOp.and IntKind.u32 (v 0) (v 2))) (bits BinOp.and IntKind.u32 (v 1) (v 2))) % 4294967296
theorem sumT_bd (K f v : Nat → Int) (i : Nat) : 0 ≤ sumT K f v i ∧ sumT K f v i < 4294967296 := by unfold sumT; omega
theorem sumU_bd (v : Nat → Int) : 0 ≤ sumU v ∧ sumU v < 4294967296 := by unfold sumU; omega

def rnd (t u : Int) (v : Nat → Int) : Nat → Int
  | 0 => (t + u) % 4294967296
  | 1 => v 0
  | 2 => v 1
  | 3 => v 2
  | 4 => (v 3 + t) % 4294967296
  | 5 => v 4
  | 6 => v 5
  | 7 => v 6
  | _ => 0

def rounds (K f s : Nat → Int) : Nat → (Nat → Int)
  | 0 => s
  | k + 1 => rnd (sumT K f (rounds K f s k) k) (sumU (rounds K f s k)) (rounds K f s k)

theorem rnd_set (t u : Int) (v : Nat → Int) :
    ((((((((wrow 8 v).set 0 (.int .u32 ((t + u) % 4294967296))).set 1 (.int .u32 (v 0))).set 2 (.int .u32 (v 1))).set 3 (.int .u32 (v 2))).set 4 (.int .u32 ((v 3 + t) % 4294967296))).set 5 (.int .u32 (v 4))).set 6 (.int .u32 (v 5))).set 7 (.int .u32 (v 6)) = wrow 8 (rnd t u v) := rfl

theorem rnd_bd (t u : Int) (v : Nat → Int) (h : ∀ j, 0 ≤ v j ∧ v j < 4294967296) : ∀ j, 0 ≤ rnd t u v j ∧ rnd t u v j < 4294967296 := by
  intro j
  unfold rnd
  split <;> first | exact h _ | omega

/-- What tie makes of eight words and a block. -/
def tieF (K B s : Nat → Int) : Nat → Int := fun j => (s j + rounds K (wExt (wIn B 64) 48) s 64 j) % 4294967296

def addTo (s v : Nat → Int) (k : Nat) : Nat → Int := fun j => if j < k then (s j + v j) % 4294967296 else s j
theorem addTo_zero (s v : Nat → Int) : addTo s v 0 = s := by
  funext j; unfold addTo; rw [if_neg (by omega)]
theorem addTo_all (s v : Nat → Int) (j : Nat) (h : j < 8) : addTo s v 8 j = (s j + v j) % 4294967296 := by unfold addTo; rw [if_pos h]
theorem addTo_step (s v : Nat → Int) (k : Nat) : upd1 (addTo s v k) k ((s k + v k) % 4294967296) = addTo s v (k + 1) := by
  funext j
  unfold upd1 addTo
  by_cases e : j = k
  · subst e; simp
  · rw [if_neg e]
    by_cases h : j < k
    · rw [if_pos h, if_pos (by omega)]
    · rw [if_neg h, if_neg (by omega)]

def agg8 (f : Nat → Int) : Value := .agg #[.int .u32 (f 0), .int .u32 (f 1), .int .u32 (f 2), .int .u32 (f 3), .int .u32 (f 4), .int .u32 (f 5), .int .u32 (f 6), .int .u32 (f 7)]
theorem eight_set (f g : Nat → Int) :
    ((((((((wrow 8 g).set 0 (.int .u32 (f 0))).set 1 (.int .u32 (f 1))).set 2 (.int .u32 (f 2))).set 3 (.int .u32 (f 3))).set 4 (.int .u32 (f 4))).set 5 (.int .u32 (f 5))).set 6 (.int .u32 (f 6))).set 7 (.int .u32 (f 7)) = wrow 8 f := rfl

set_option maxHeartbeats 4000000 in
set_option maxRecDepth 100000 in
theorem tie_walk (br ro bb bo len cap : Nat) (K B s : Nat → Int) (w : World) (hK : ∀ i, i < 64 → w.cell? ⟨br, ro + i, none⟩ = some (.int .u32 (K i))) (hB : ∀ i, i < 64 → w.cell? ⟨bb, bo + i, none⟩ = some (.int .u8 (B i)))
    (hbd : ∀ i, 0 ≤ B i ∧ B i < 256) (hsb : ∀ j, 0 ≤ s j ∧ s j < 4294967296) (hlen : 64 ≤ len) (hlen2 : len ≤ 9223372036854775807) :
    Calls Try.prog 54 #[.pointer (some ⟨br, ro, none⟩), .agg #[.int .u32 (s 0), .int .u32 (s 1), .int .u32 (s 2), .int .u32 (s 3), .int .u32 (s 4), .int .u32 (s 5), .int .u32 (s 6), .int .u32 (s 7)], .slice (some ⟨bb, bo, none⟩) len cap] w fun e w' => e = .returned (agg8 (tieF K B s)) ∧ Upd [] w w' := by
  have hz64 := zero_64
  go_enter Try.func54, Try.ntmps54
  go_wp2_with fail
  go_loopw [19, 8] (fun iv _ wr => ∃ i : Nat, i ≤ 64 ∧ iv = .int .i64 i ∧ Upd [] w wr ∧ Blk wr (w.heap.size + 2) (wrow 64 (wIn B i)) 83 ∧ Blk wr w.heap.size (wrow 8 s) 82 ∧ Blk wr (w.heap.size + 1) (wrow 8 fun _ => 0) 82)
    (fun iv _ _ => 64 - (intOf iv).toNat)
  case atStart =>
    refine ⟨0, by omega, rfl, ?_, ?_, ?_, ?_⟩
    · exact (((Upd.refl _ _).alloc _).alloc _).alloc _
    · exact Blk.new_at (by simp) rfl
    · exact ((Blk.new_at rfl rfl).alloc _).alloc _
    · exact (Blk.new_at (by simp) rfl).alloc _
  case round =>
    obtain ⟨i, hi, rfl, hu, hb, hA, hZ⟩ := hrel
    by_cases hlt : i < 64
    · have c1 := (hu.cell (a := ⟨bb, bo + i, none⟩) (lt_of_cell (hB i hlt)) (by simp)).trans (hB i hlt)
      have c2 := hb.cell (i / 4) (wrow_get _ (by omega))
      have f2 := hb.free (i / 4)
      obtain ⟨b1, b2⟩ := hbd i
      go_wp2_with fail
      go_region
      go_wp2_with fail
      have hb3 := (hb.set (i / 4) (.int .u32 (bits BinOp.or IntKind.u32 (wIn B i (i / 4) * 256 % 4294967296) (B i)))).drew
      rw [wrow_set] at hb3
      exact ⟨⟨i + 1, by omega, by go_num, (hu.setCell (Or.inr (by simp; omega)) _).drew, hb3, (hA.set_ne _ (by dsimp only; omega) _).drew, (hZ.set_ne _ (by dsimp only; omega) _).drew⟩, by simp [intOf]; omega⟩
    · have H64 : Hid (i = 64) := Lib.hid (by omega)

      have hs := hu.size
      go_wp2_with fail
      go_loopw [9] (fun iv wq => ∃ (i : Nat) (f : Nat → Int), 16 ≤ i ∧ i ≤ 64 ∧ iv = .int .i64 i ∧ Upd [] w wq ∧ Blk wq (w.heap.size + 2) (wrow 64 f) 83 ∧ Blk wq w.heap.size (wrow 8 s) 82 ∧ Blk wq (w.heap.size + 1) (wrow 8 fun _ => 0) 82 ∧ f = wExt (wIn B 64) (i - 16) ∧ ∀ j, 0 ≤ f j ∧ f j < 4294967296)
        (fun iv _ => 64 - (intOf iv).toNat)
      case atStart => exact ⟨16, wIn B i, by omega, by omega, rfl, hu, hb, hA, hZ, by rw [H64.out]; rfl, fun j => wIn_bd B i j⟩
      case round =>
        clear hu hb hA hZ
        obtain ⟨i2, f, hi1, hi2, rfl, hu, hb, hA, hZ, hfe, hf⟩ := hrel
        have Hfe := Lib.hid hfe; clear hfe
        by_cases hlt : i2 < 64
        · have c1 := hb.cell (i2 - 15) (wrow_get _ (by omega))
          have c2 := hb.cell (i2 - 2) (wrow_get _ (by omega))
          have c3 := hb.cell (i2 - 16) (wrow_get _ (by omega))
          have c4 := hb.cell (i2 - 7) (wrow_get _ (by omega))
          obtain ⟨k, rfl⟩ : ∃ k, i2 = k + 16 := ⟨i2 - 16, by omega⟩
          simp only [show k + 16 - 15 = k + 1 by omega, show k + 16 - 2 = k + 14 by omega, show k + 16 - 16 = k by omega, show k + 16 - 7 = k + 9 by omega] at c1 c2 c3 c4
          have f0 := hb.free (k + 16)
          have c0 := hb.cell (k + 16) (wrow_get _ (by omega))
          have w1 : IntKind.i64.wrap (k : Int) = k := IntWalk.i64_in _ (by omega)
          have w2 : IntKind.i64.wrap ((k : Int) + 9) = k + 9 := IntWalk.i64_in _ (by omega)
          have w3 : IntKind.i64.wrap ((k : Int) + 16 - 16) = k := by rw [show (k : Int) + 16 - 16 = k by omega]; exact w1
          have w4 : IntKind.i64.wrap ((k : Int) + 16 - 7) = k + 9 := by rw [show (k : Int) + 16 - 7 = k + 9 by omega]; exact w2
          have t9 : ((k : Int) + 9).toNat = k + 9 := by omega
          have t16 : ((k : Int) + 16).toNat = k + 16 := by omega
          have g1 : (0 : Int) ≤ k := by omega
          have g2 : (k : Int) < 64 := by omega
          have g3 : (0 : Int) ≤ (k : Int) + 9 := by omega
          have g4 : (k : Int) + 9 < 64 := by omega
          have g5 : (0 : Int) ≤ (k : Int) + 16 := by omega
          have g6 : (k : Int) + 16 < 64 := by omega
          obtain ⟨b1, b2⟩ := hf (k + 1)
          obtain ⟨b3, b4⟩ := hf (k + 14)
          go_upto_region 10 with fail
          go_quiet (fail)
          go_upto_region 11 with fail
          go_region_held3 (fun w' => w'.cell? ⟨w.heap.size + 2, k, none⟩ = some (.int .u32 (f k)) ∧ w'.cell? ⟨w.heap.size + 2, k + 9, none⟩ = some (.int .u32 (f (k + 9))))
            (first | go_keep | exact ⟨(World.cell?_setCell_other _ _ _ _ (by intro h; injection h; omega)).trans c3, (World.cell?_setCell_other _ _ _ _ (by intro h; injection h; omega)).trans c4⟩)
            (first | (go_at_call 61; refine (turn_any _ _ (by assumption) (by assumption) (by simp) _).mono ?_; rintro e w' ⟨rfl, rfl⟩))
          go_wp2_with fail
          have hb3 := ((hb.of_drewN (nq + 1)).set (k + 16) (.int .u32 (newW f k)))
          rw [wrow_set] at hb3
          refine ⟨⟨k + 17, upd1 f (k + 16) (newW f k), by omega, by omega, by go_num, (hu.of_drewN (nq + 1)).setCell (Or.inr (by simp; omega)) _, hb3, (hA.of_drewN (nq + 1)).set_ne _ (by dsimp only; omega) _, (hZ.of_drewN (nq + 1)).set_ne _ (by dsimp only; omega) _, ?_, fun j => ?_⟩, by simp [intOf]; omega⟩
          · rw [Hfe.out, show k + 17 - 16 = k + 1 by omega, show k + 16 - 16 = k by omega]; rfl
          · unfold upd1
            split
            · exact newW_bd f k
            · exact hf j
        · have H2 : Hid (i2 = 64) := Lib.hid (by omega)
          have a0 := hA.cell 0 (wrow_get s (by omega))
          have a1 := hA.cell 1 (wrow_get s (by omega))
          have a2 := hA.cell 2 (wrow_get s (by omega))
          have a3 := hA.cell 3 (wrow_get s (by omega))
          have a4 := hA.cell 4 (wrow_get s (by omega))
          have a5 := hA.cell 5 (wrow_get s (by omega))
          have a6 := hA.cell 6 (wrow_get s (by omega))
          have a7 := hA.cell 7 (wrow_get s (by omega))
          have hs2 := hu.size
          have hsz := hb.lt
          obtain ⟨wo, rfl⟩ : ∃ wo : World, wo = wr := ⟨_, rfl⟩
          go_wp2_with fail
          go_loopw [79] (fun iv wq => ∃ (i : Nat) (v : Nat → Int), i ≤ 64 ∧ iv = .int .i64 i ∧ Upd [] wo wq ∧ Blk wq wo.heap.size (wrow 8 v) 82 ∧ v = rounds K f s i ∧ ∀ j, 0 ≤ v j ∧ v j < 4294967296)
            (fun iv _ => 64 - (intOf iv).toNat)
          case atStart => exact ⟨0, s, by omega, rfl, (Upd.refl _ _).alloc _, Blk.new_at rfl rfl, rfl, hsb⟩
          case round =>
            obtain ⟨i3, v, hi3, rfl, hu3, hv, hve, hvb⟩ := hrel
            have Hve := Lib.hid hve; clear hve
            by_cases hlt3 : i3 < 64
            · have k1 := ((hu.cell (a := ⟨br, ro + i3, none⟩) (lt_of_cell (hK i3 hlt3)) (by simp)).trans (hK i3 hlt3))
              have k2 := (hu3.cell (a := ⟨br, ro + i3, none⟩) (lt_of_cell k1) (by simp)).trans k1
              have c1 := (hb.upd_nil hu3).cell i3 (wrow_get _ hlt3)
              have v0 := hv.cell 0 (wrow_get v (by omega))
              have v1 := hv.cell 1 (wrow_get v (by omega))
              have v2 := hv.cell 2 (wrow_get v (by omega))
              have v3 := hv.cell 3 (wrow_get v (by omega))
              have v4 := hv.cell 4 (wrow_get v (by omega))
              have v5 := hv.cell 5 (wrow_get v (by omega))
              have v6 := hv.cell 6 (wrow_get v (by omega))
              have v7 := hv.cell 7 (wrow_get v (by omega))
              clear k1 a0 a1 a2 a3 a4 a5 a6 a7
              obtain ⟨b1, b2⟩ := hvb 4
              obtain ⟨b3, b4⟩ := hvb 0
              have g1 : (0 : Int) ≤ i3 := by omega
              have g2 : (i3 : Int) < 64 := by omega
              obtain ⟨tb1, tb2⟩ := sumT_bd K f v i3
              obtain ⟨ub1, ub2⟩ := sumU_bd v
              obtain ⟨b5, b6⟩ := hvb 3
              go_upto_region 17 with fail
              go_cut [15] (fun s15 wx => s15 = .int .u32 (sumT K f v i3) ∧ Upd [] wr wx)
              case first =>
                go_quiet ((first | (go_at_call_of 61 (Value.int .i64 6); exact Calls.quiet_of_same ((turn_6 (v 4) b1 b2 _).mono fun e w' ⟨h1, h2⟩ => ⟨h1, h2.symm⟩)) | (go_at_call_of 61 (Value.int .i64 11); exact Calls.quiet_of_same ((turn_11 (v 4) b1 b2 _).mono fun e w' ⟨h1, h2⟩ => ⟨h1, h2.symm⟩)) | (go_at_call_of 61 (Value.int .i64 25); exact Calls.quiet_of_same ((turn_25 (v 4) b1 b2 _).mono fun e w' ⟨h1, h2⟩ => ⟨h1, h2.symm⟩))))
                go_wp2_with fail
                go_meet
                exact ⟨congrArg (Value.int .u32) (by unfold sumT; omega), (Upd.refl _ _).of_drewN _⟩
              case rest =>
                obtain ⟨rfl, hq1⟩ := hcut
                have hv' := hv.upd_nil hq1
                have e0 := hv'.cell 0 (wrow_get v (by omega))
                have e1 := hv'.cell 1 (wrow_get v (by omega))
                have e2 := hv'.cell 2 (wrow_get v (by omega))
                clear k2 c1 v0 v1 v2 v3 v4 v5 v6 v7
                go_upto_region 19 with fail
                go_cut [17] (fun s17 wy => s17 = .int .u32 (sumU v) ∧ Upd [] wc wy)
                case first =>
                  go_quiet ((first | (go_at_call_of 61 (Value.int .i64 2); exact Calls.quiet_of_same ((turn_2 (v 0) b3 b4 _).mono fun e w' ⟨h1, h2⟩ => ⟨h1, h2.symm⟩)) | (go_at_call_of 61 (Value.int .i64 13); exact Calls.quiet_of_same ((turn_13 (v 0) b3 b4 _).mono fun e w' ⟨h1, h2⟩ => ⟨h1, h2.symm⟩)) | (go_at_call_of 61 (Value.int .i64 22); exact Calls.quiet_of_same ((turn_22 (v 0) b3 b4 _).mono fun e w' ⟨h1, h2⟩ => ⟨h1, h2.symm⟩))))
                  go_wp2_with fail
                  go_meet
                  exact ⟨congrArg (Value.int .u32) (by unfold sumU; omega), (Upd.refl _ _).of_drewN _⟩
                case rest =>
                  obtain ⟨rfl, hq2⟩ := hcut
                  have hv2 := hv'.upd_nil hq2
                  clear e0 e1 e2 hv'
                  have v0 := hv2.cell 0 (wrow_get v (by omega))
                  have v1 := hv2.cell 1 (wrow_get v (by omega))
                  have v2 := hv2.cell 2 (wrow_get v (by omega))
                  have v3 := hv2.cell 3 (wrow_get v (by omega))
                  have v4 := hv2.cell 4 (wrow_get v (by omega))
                  have v5 := hv2.cell 5 (wrow_get v (by omega))
                  have v6 := hv2.cell 6 (wrow_get v (by omega))
                  have v7 := hv2.cell 7 (wrow_get v (by omega))
                  have f0 := hv2.free 0
                  have f1 := hv2.free 1
                  have f2 := hv2.free 2
                  have f3 := hv2.free 3
                  have f4 := hv2.free 4
                  have f5 := hv2.free 5
                  have f6 := hv2.free 6
                  have f7 := hv2.free 7
                  go_wp2_with fail
                  have hb8 := (((((((hv2.set 0 (.int .u32 ((sumT K f v i3 + sumU v) % 4294967296))).set 1 (.int .u32 (v 0))).set 2 (.int .u32 (v 1))).set 3 (.int .u32 (v 2))).set 4 (.int .u32 ((v 3 + sumT K f v i3) % 4294967296))).set 5 (.int .u32 (v 4))).set 6 (.int .u32 (v 5))).set 7 (.int .u32 (v 6))
                  rw [rnd_set] at hb8
                  exact ⟨⟨i3 + 1, rnd (sumT K f v i3) (sumU v) v, by omega, by go_num,
                    ((((((((hu3.trans_nil hq1).trans_nil hq2).setCell (Or.inr (Nat.le_refl _)) _).setCell (Or.inr (Nat.le_refl _)) _).setCell (Or.inr (Nat.le_refl _)) _).setCell (Or.inr (Nat.le_refl _)) _).setCell (Or.inr (Nat.le_refl _)) _).setCell (Or.inr (Nat.le_refl _)) _).setCell (Or.inr (Nat.le_refl _)) _ |>.setCell (Or.inr (Nat.le_refl _)) _,
                    hb8, by rw [Hve.out]; rfl, rnd_bd _ _ v hvb⟩, by simp [intOf]; omega⟩
            · have H3 : Hid (i3 = 64) := Lib.hid (by omega)
              have hA3 := hA.upd_nil hu3
              have hZ3 := hZ.upd_nil hu3
              have hu4 := hu.trans_nil hu3
              have hvl := hv.lt
              have hs3 := hu3.size
              have hne : wo.heap.size ≠ w.heap.size := by omega
              clear a0 a1 a2 a3 a4 a5 a6 a7 hu3 hA hZ hb
              go_wp2_with fail
              go_loopw [163] (fun iv wq => ∃ k : Nat, k ≤ 8 ∧ iv = .int .i64 k ∧ Upd [] w wq ∧ Blk wq w.heap.size (wrow 8 (addTo s v k)) 82 ∧ Blk wq wo.heap.size (wrow 8 v) 82 ∧ Blk wq (w.heap.size + 1) (wrow 8 fun _ => 0) 82)
                (fun iv _ => 8 - (intOf iv).toNat)
              case atStart => exact ⟨0, by omega, rfl, hu4, (by rw [addTo_zero]; exact hA3), hv, hZ3⟩
              case round =>
                obtain ⟨k, hk, rfl, hu5, hA5, hv5, hZ5⟩ := hrel
                by_cases hk8 : k < 8
                · have c1 := hA5.cell k (wrow_get _ hk8)
                  have c2 := hv5.cell k (wrow_get _ hk8)
                  have c3 := hA5.free k
                  have e1 : addTo s v k k = s k := by unfold addTo; rw [if_neg (by omega)]
                  rw [e1] at c1
                  have e2 := addTo_step s v k
                  have E1 := Lib.hid e1; have E2 := Lib.hid e2; clear e1 e2
                  obtain ⟨b1, b2⟩ := hsb k
                  obtain ⟨b3, b4⟩ := hvb k
                  go_wp2_with fail
                  go_region
                  go_wp2_with fail
                  have hb8 := (hA5.set k (.int .u32 ((s k + v k) % 4294967296))).drew
                  rw [wrow_set, E2.out] at hb8
                  exact ⟨⟨k + 1, by omega, by go_num, (hu5.setCell (Or.inr (Nat.le_refl _)) _).drew, hb8, (hv5.set_ne _ hne _).drew, (hZ5.set_ne _ (by dsimp only; omega) _).drew⟩, by simp [intOf]; omega⟩
                · have H8 : Hid (k = 8) := Lib.hid (by omega)
                  have a0 := hA5.cell 0 (wrow_get _ (by omega))
                  have a1 := hA5.cell 1 (wrow_get _ (by omega))
                  have a2 := hA5.cell 2 (wrow_get _ (by omega))
                  have a3 := hA5.cell 3 (wrow_get _ (by omega))
                  have a4 := hA5.cell 4 (wrow_get _ (by omega))
                  have a5 := hA5.cell 5 (wrow_get _ (by omega))
                  have a6 := hA5.cell 6 (wrow_get _ (by omega))
                  have a7 := hA5.cell 7 (wrow_get _ (by omega))
                  have z0 := hZ5.cell 0 rfl
                  have z1 := hZ5.cell 1 rfl
                  have z2 := hZ5.cell 2 rfl
                  have z3 := hZ5.cell 3 rfl
                  have z4 := hZ5.cell 4 rfl
                  have z5 := hZ5.cell 5 rfl
                  have z6 := hZ5.cell 6 rfl
                  have z7 := hZ5.cell 7 rfl
                  have f0 := hZ5.free 0
                  have f1 := hZ5.free 1
                  have f2 := hZ5.free 2
                  have f3 := hZ5.free 3
                  have f4 := hZ5.free 4
                  have f5 := hZ5.free 5
                  have f6 := hZ5.free 6
                  have f7 := hZ5.free 7
                  go_wp2_with fail
                  have hF := ((((((((hZ5.set 0 (.int .u32 (addTo s v k 0))).set 1 (.int .u32 (addTo s v k 1))).set 2 (.int .u32 (addTo s v k 2))).set 3 (.int .u32 (addTo s v k 3))).set 4 (.int .u32 (addTo s v k 4))).set 5 (.int .u32 (addTo s v k 5))).set 6 (.int .u32 (addTo s v k 6))).set 7 (.int .u32 (addTo s v k 7)))
                  have hU := ((((((((hu5.setCell (p := ⟨w.heap.size + 1, 0, none⟩) (Or.inr (by dsimp only; omega)) (.int .u32 (addTo s v k 0))).setCell (p := ⟨w.heap.size + 1, 1, none⟩) (Or.inr (by dsimp only; omega)) (.int .u32 (addTo s v k 1))).setCell (p := ⟨w.heap.size + 1, 2, none⟩) (Or.inr (by dsimp only; omega)) (.int .u32 (addTo s v k 2))).setCell (p := ⟨w.heap.size + 1, 3, none⟩) (Or.inr (by dsimp only; omega)) (.int .u32 (addTo s v k 3))).setCell (p := ⟨w.heap.size + 1, 4, none⟩) (Or.inr (by dsimp only; omega)) (.int .u32 (addTo s v k 4))).setCell (p := ⟨w.heap.size + 1, 5, none⟩) (Or.inr (by dsimp only; omega)) (.int .u32 (addTo s v k 5))).setCell (p := ⟨w.heap.size + 1, 6, none⟩) (Or.inr (by dsimp only; omega)) (.int .u32 (addTo s v k 6))).setCell (p := ⟨w.heap.size + 1, 7, none⟩) (Or.inr (by dsimp only; omega)) (.int .u32 (addTo s v k 7)))
                  have hfin : ∀ j, j < 8 → addTo s v k j = tieF K B s j := by
                    intro j hj
                    rw [H8.out, addTo_all _ _ _ hj, Hve.out, H3.out, Hfe.out, H2.out]; rfl
                  rw [eight_set] at hF
                  have hw : wrow 8 (addTo s v k) = wrow 8 (tieF K B s) := row_congr fun j hj => by rw [hfin j hj]
                  rw [hw] at hF
                  clear a0 a1 a2 a3 a4 a5 a6 a7 z0 z1 z2 z3 z4 z5 z6 z7 f0 f1 f2 f3 f4 f5 f6 f7 hA5 hv5 hZ5 hfin hw
                  generalize (((((((wr.setCell ⟨w.heap.size + 1, 0, none⟩ (.int .u32 (addTo s v k 0))).setCell ⟨w.heap.size + 1, 1, none⟩ (.int .u32 (addTo s v k 1))).setCell ⟨w.heap.size + 1, 2, none⟩ (.int .u32 (addTo s v k 2))).setCell ⟨w.heap.size + 1, 3, none⟩ (.int .u32 (addTo s v k 3))).setCell ⟨w.heap.size + 1, 4, none⟩ (.int .u32 (addTo s v k 4))).setCell ⟨w.heap.size + 1, 5, none⟩ (.int .u32 (addTo s v k 5))).setCell ⟨w.heap.size + 1, 6, none⟩ (.int .u32 (addTo s v k 6))).setCell ⟨w.heap.size + 1, 7, none⟩ (.int .u32 (addTo s v k 7)) = wz at hF hU ⊢
                  have z0 := hF.cell 0 (wrow_get _ (by omega))
                  have z1 := hF.cell 1 (wrow_get _ (by omega))
                  have z2 := hF.cell 2 (wrow_get _ (by omega))
                  have z3 := hF.cell 3 (wrow_get _ (by omega))
                  have z4 := hF.cell 4 (wrow_get _ (by omega))
                  have z5 := hF.cell 5 (wrow_get _ (by omega))
                  have z6 := hF.cell 6 (wrow_get _ (by omega))
                  have z7 := hF.cell 7 (wrow_get _ (by omega))
                  exact bodyPost_ret (v := agg8 (tieF K B s)) (by simp [results, Try.results54, go_sem, z0, z1, z2, z3, z4, z5, z6, z7, agg8]) rfl ⟨rfl, hU⟩

end Go.Proofs.Ytppbaahaegmgeaa
