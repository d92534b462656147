/- Labels' texts: ContainsRune of the hex digits and ':', at every rune. -/
import Derived.Test.YtpkllbnaoiggkaaDoorVeE
import Derived.Laws.Runes
import Derived.WalkMore
import Derived.Laws.RangeString
import Derived.Lib.Strings
import Derived.Lib.Walk
namespace Go.Proofs.YtpkllbnaoiggkaaDoor
open Go.RowKit

def hexB : ByteArray := ⟨#[48, 49, 50, 51, 52, 53, 54, 55, 56, 57, 97, 98, 99, 100, 101, 102, 58]⟩
theorem hexB_dec : ∀ pos, pos < 17 → (Utf8.decode hexB pos).1 < 128 ∧ (Utf8.decode hexB pos).2 = 1 := by decide +kernel
theorem hexB_low : ∀ b ∈ hexB.data.toList, b.toNat < 128 := by decide +kernel

theorem indexByte_none (l : List UInt8) (c : UInt8) (h : ∀ b ∈ l, b ≠ c) : Lib.indexByte l c = -1 := by
  induction l with
  | nil => rfl
  | cons b l ih =>
    have h1 : (b == c) = false := by simpa using h b List.mem_cons_self
    simp [Lib.indexByte, h1, ih (fun b hb => h b (List.mem_cons_of_mem _ hb))]

theorem ibyte_hex (a e : Nat) (c : UInt8) (hc : 128 ≤ c.toNat) (w : World) :
    Calls Tryd.prog 76 #[.string (hexB.extract a e), .int .u8 c.toNat] w fun e w' => e = .returned (.int .i64 (-1)) ∧ w' = w := by
  have h := Tryd.strings_IndexByte (hexB.extract a e) c.toNat w
  have hcc : ((c.toNat : Int).toNat.toUInt8) = c := by simp
  rw [hcc, indexByte_none _ c (fun b hb hbc => by have := hexB_low b (mem_extract hb); rw [hbc] at this; omega)] at h
  exact h

set_option maxHeartbeats 2000000 in
set_option maxRecDepth 100000 in
theorem irune_hi (x : Int) (h1 : 128 ≤ x) (h2 : x ≤ 1114111) (w : World) :
    Calls Tryd.prog 57 #[.string ⟨#[48, 49, 50, 51, 52, 53, 54, 55, 56, 57, 97, 98, 99, 100, 101, 102, 58]⟩, .int .i32 x] w fun e w' => e = .returned (.int .i64 (-1)) ∧ Below w.heap.size w w' := by
  by_cases hE : x = 65533
  · subst hE
    go_enter Tryd.func57, Tryd.ntmps57
    go_wp2_with fail
    have u0 := (Below.refl w.heap.size w).alloc (Nat.le_refl _) (.stringIter hexB 0)
    go_loopg [] 17 (fun gf wx => ∃ pos : Nat, wx.heap[w.heap.size]? = some (.stringIter hexB pos) ∧ Below w.heap.size w wx ∧ pos + gf = 17)
    case atStart => exact ⟨0, World.iter_heap w hexB 0, u0, by omega⟩
    case round =>
      obtain ⟨pos, hit, hbw, hfu⟩ := hrel
      by_cases hps : pos < 17
      · obtain ⟨g', rfl⟩ : ∃ g', gk = g' + 1 := ⟨gk - 1, by omega⟩
        have hnx : ∀ ty, (Instr.next (.pointer (some ⟨w.heap.size, 0, none⟩)) true ty).run Tryd.prog wr = _ := fun ty => Lib.run_next_any_at wr w.heap.size hexB pos ty hit hps
        obtain ⟨d1, d2⟩ := hexB_dec pos hps
        rw [d2] at hnx
        generalize (Utf8.decode hexB pos).1 = R at d1 hnx
        have hit2 := Lib.iterAt_heap wr w.heap.size hexB pos (pos + 1) hit
        have hbw2 := Lib.below_iterAt hbw (k := w.heap.size) (Nat.le_refl _) hexB (pos + 1)
        generalize wr.iterAt w.heap.size hexB (pos + 1) = W at hnx hit2 hbw2
        go_wp2_with fail
        go_roundg g'
        case measure => omega
        case rel => exact ⟨pos + 1, hit2, hbw2, by omega⟩
      · have hnx : ∀ ty, (Instr.next (.pointer (some ⟨w.heap.size, 0, none⟩)) true ty).run Tryd.prog wr = _ := fun ty => Lib.run_next_end_at wr w.heap.size hexB pos ty hit hps
        go_wp2_with fail
        go_ret
        exact ⟨rfl, hbw⟩
  · cases hv : Utf8.valid x with
    | false =>
      have hv2 : Lib.validRune x = false := (validRune_eq x).symm.trans hv
      go_enter Tryd.func57, Tryd.ntmps57
      go_wp2_with (go_at_call 77; refine (Tryd.utf8_ValidRune _ _).mono ?_; rw [hv2]; rintro e w3 ⟨rfl, rfl⟩)
      go_ret
      exact ⟨rfl, Below.refl _ _⟩
    | true =>
      have hv2 : Lib.validRune x = true := (validRune_eq x).symm.trans hv
      obtain ⟨k1, k2, k3⟩ := encode_facts x hv h1
      go_enter Tryd.func57, Tryd.ntmps57
      go_wp2_with (go_at_call 77; refine (Tryd.utf8_ValidRune _ _).mono ?_; rw [hv2]; rintro e w3 ⟨rfl, rfl⟩)
      go_step3
      go_upto_region 2 with fail
      generalize Utf8.encode x = rs at *
      obtain ⟨l, hl⟩ : ∃ l : Nat, rs.size = l + 1 := ⟨rs.size - 1, by omega⟩
      have hl' : (rs.size : Int) = (l : Int) + 1 := by omega
      have hl1 : 1 ≤ l := by omega
      have hl3 : l ≤ 3 := by omega
      have hb : 128 ≤ rs[l].toNat := by
        have := k3 (by omega)
        simpa [hl] using this
      have hr : ∀ W : World, (Instr.index 9 (.string rs) (.int .i64 (l : Int))).run Tryd.prog W = .ok (.int .u8 rs[l].toNat) W := fun W => by
        rw [run_index_string W _ _ _ _ Tryd.underlying9]
        have : (0 : Int) ≤ l ∧ (l : Int) < rs.size := by omega
        exact dif_pos this
      obtain ⟨cl, hcl, hs⟩ : ∃ cl : UInt8, cl.toNat < 128 ∧ ∀ W : World, (Instr.index 9 (.string ⟨#[48, 49, 50, 51, 52, 53, 54, 55, 56, 57, 97, 98, 99, 100, 101, 102, 58]⟩) (.int .i64 (l : Int))).run Tryd.prog W = .ok (.int .u8 cl.toNat) W := by
        have hll : l < hexB.size := by show l < 17; omega
        refine ⟨hexB[l], hexB_low _ (Array.getElem_mem_toList (xs := hexB.data) hll), fun W => ?_⟩
        rw [run_index_string W _ _ _ _ Tryd.underlying9]
        have : (0 : Int) ≤ l ∧ (l : Int) < hexB.size := by omega
        exact dif_pos this
      generalize rs[l] = bl at hb hr
      have hne : ((cl.toNat : Int) == (bl.toNat : Int)) = false := by rw [beq_eq_false_iff_ne]; omega
      clear hv hv2 k1 k2 k3
      go_wp2_with fail
      go_loopw [9, 10] (fun iv fv wr => iv = .int .i64 l ∧ fv = .int .i64 0 ∧ wr = w3) (fun _ _ _ => 0)
      case atStart => exact ⟨by simp [hl'], rfl, rfl⟩
      case round =>
        obtain ⟨rfl, rfl, rfl⟩ := hrel
        go_wp2_with fail
        go_step3
        go_wp2_with fail
        go_quiet (fail)
        go_wp2_with fail
        have hwl : IntKind.i64.wrap ((l : Int) + 1) = (l : Int) + 1 := by rw [IntKind.wrap_i64] <;> omega
        have hb0 : 0 ≤ (l : Int) + 1 := by omega
        have hb17 : (l : Int) + 1 ≤ 17 := by omega
        go_quiet ((go_at_call 76; refine (ibyte_hex (l + 1) 17 bl hb _).mono ?_; rintro e w4 ⟨rfl, rfl⟩; exact ⟨rfl, _, rfl⟩))
        go_wp2_with fail
        rw [Exit.noGoto_ret]
        change bodyPost Tryd.prog Tryd.f57 (fun e w' => e = Ending.returned (.int .i64 (-1)) ∧ Below wr.heap.size wr w') Exit.ret _ _
        go_ret
        exact ⟨rfl, below_drewNg _ _⟩

/-- Is it a hex digit or ':'? -/
def hexR (x : Nat) : Bool := decide (x < 128 ∧ 0 ≤ Lib.indexByte hexB.data.toList x.toUInt8)

set_option maxRecDepth 100000 in
theorem crune (x : Nat) (hx : x ≤ 1114111) (w : World) :
    Calls Tryd.prog 41 #[.string ⟨#[48, 49, 50, 51, 52, 53, 54, 55, 56, 57, 97, 98, 99, 100, 101, 102, 58]⟩, .int .i32 x] w fun e w' => e = .returned (.bool (hexR x)) ∧ Below w.heap.size w w' := by
  by_cases hl : x < 128
  · refine (Tryd.strings_ContainsRune_ascii hexB x w (by omega) (by omega)).mono ?_
    rintro e w' ⟨rfl, rfl⟩
    refine ⟨?_, Below.refl _ _⟩
    have : hexR x = decide (0 ≤ Lib.indexByte hexB.data.toList x.toUInt8) := by unfold hexR; simp [hl]
    rw [this]
    simp
  · have hF : hexR x = false := by unfold hexR; simp [hl]
    rw [hF]
    go_enter Tryd.func41, Tryd.ntmps41
    go_wp2_with (go_at_call 57; refine (irune_hi x (by omega) (by omega) _).mono ?_; rintro e w3 ⟨rfl, hb⟩)
    go_ret
    exact ⟨rfl, hb⟩

set_option maxRecDepth 100000 in
theorem odd_pred (w : World) : PredGrows Tryd.prog 40 #[] (fun x => !hexR x) w := by
  intro W x hx hb
  show Calls Tryd.prog 40 #[.int .i32 x] W _
  go_enter Tryd.func40, Tryd.ntmps40
  go_wp2_with (go_at_call 41; refine (crune x hx _).mono ?_; rintro e w3 ⟨rfl, hb⟩)
  go_ret
  exact ⟨rfl, hb⟩

/-- ContainsFunc with Read's closure. -/
theorem cfunc (s : ByteArray) (w : World) :
    Calls Tryd.prog 44 #[.string s, .func (.func 40) #[] #[]] w fun e w' => e = .returned (.bool (decide (0 ≤ Lib.idxFunc (fun x => !hexR x) true s))) ∧ Below w.heap.size w w' :=
  Tryd.strings_ContainsFunc_grows 40 #[] (enters_of Tryd.func40 (by kernel_rfl) rfl) _ s w (odd_pred w)

end Go.Proofs.YtpkllbnaoiggkaaDoor
