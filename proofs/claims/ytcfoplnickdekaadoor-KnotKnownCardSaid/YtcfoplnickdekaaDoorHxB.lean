/- hex: 32 bytes as text. -/
import Derived.Test.YtcfoplnickdekaaDoorHxA
import Derived.Test.YtcfoplnickdekaaDoorKnF
namespace Go.Proofs.YtcfoplnickdekaaDoor
open Go.RowKit

/-- The text of n bytes. -/
def hexL (F : Nat → Int) : Nat → List UInt8
  | 0 => []
  | n + 1 => hexL F n ++ [UInt8.ofNat (hx ((F n).toNat / 16)), UInt8.ofNat (hx ((F n).toNat % 16))]

theorem hexL_len (F : Nat → Int) : ∀ n, (hexL F n).length = 2 * n
  | 0 => rfl
  | n + 1 => by
    show (hexL F n ++ _).length = _
    rw [List.length_append, hexL_len F n]
    show 2 * n + 2 = _
    omega

theorem hxs_two : ∀ u, u < 256 → (strOfNums (hxs u)).size ≤ 2 ∧ Lib.repeatL [48] (2 - (strOfNums (hxs u)).size) ++ (strOfNums (hxs u)).data.toList = [UInt8.ofNat (hx (u / 16)), UInt8.ofNat (hx (u % 16))] := by decide +kernel
theorem ba_ext {a b : ByteArray} (h : a.data.toList = b.data.toList) : a = b := by
  cases a; cases b
  exact congrArg _ (Array.toList_inj.1 h)

theorem hrep (s : ByteArray) (h : s.size ≤ 2) (w : World) : Calls Tryd.prog 18 #[.string ⟨#[48]⟩, .int .i64 (2 - (s.size : Int))] w fun e w' => e = .returned (.string ⟨(Lib.repeatL [48] (2 - s.size)).toArray⟩) ∧ Below w.heap.size w w' := by
  have hs : (2 : Int) - (s.size : Int) = ((2 - s.size : Nat) : Int) := by omega
  have h := Tryd.strings_Repeat ⟨#[48]⟩ (2 - s.size) w (by omega) (by show 1 * _ ≤ _; omega)
  rw [hs]
  exact h

set_option maxRecDepth 100000 in
theorem hex_walk (w : World) (F : Nat → Int) (hF : ∀ i, 0 ≤ F i ∧ F i ≤ 255) (h : w.cell? ⟨3, 15, none⟩ = some (.int .u8 4)) :
    Calls Tryd.prog 17 #[.agg (row32 F).toArray] w fun e w' => e = .returned (.string ⟨(hexL F 32).toArray⟩) ∧ Upd [] w w' := by
  have hlt : 3 < w.heap.size := lt_of_cell h
  go_enter Tryd.func17, Tryd.ntmps17
  go_wp2_with fail
  go_loopw [3, 4] (fun ov iv wr => ∃ i : Nat, i ≤ 32 ∧ iv = .int .i64 i ∧ ov = .string ⟨(hexL F i).toArray⟩ ∧ Upd [] w wr ∧ Blk wr w.heap.size (row32 F) 28)
    (fun _ iv _ => 32 - (intOf iv).toNat)
  case atStart => exact ⟨0, by omega, rfl, rfl, (Upd.refl [] w).alloc _, Blk.new w _ _⟩
  case round =>
    obtain ⟨i, hi, rfl, rfl, hu, hb⟩ := hrel
    by_cases hlt2 : i < 32
    · have hr := hb.cell i (row_get _ hlt2)
      obtain ⟨u, hu1, hu2⟩ : ∃ u : Nat, F i = (u : Int) ∧ u < 256 := ⟨(F i).toNat, by have := hF i; omega, by have := hF i; omega⟩
      rw [hu1] at hr
      have hh : wr.cell? ⟨3, 15, none⟩ = some (.int .u8 4) := (hu.cell hlt (by simp)).trans h
      have hs := hfmt wr u hu2 hh
      obtain ⟨t1, t2⟩ := hxs_two u hu2
      have hnext : ∀ s : ByteArray, strOfNums (hxs u) = s → ((⟨(hexL F i).toArray⟩ : ByteArray) ++ ⟨(Lib.repeatL [48] (2 - s.size)).toArray⟩) ++ s = ⟨(hexL F (i + 1)).toArray⟩ := fun s e => by
        subst e
        apply ba_ext
        rw [ByteArray.data_append, ByteArray.data_append, Array.toList_append, Array.toList_append, List.append_assoc]
        show hexL F i ++ (Lib.repeatL [48] _ ++ _) = hexL F i ++ _
        rw [t2, hu1]
        rfl
      have Hu1 := Lib.hid hu1
      clear hu1 t2
      generalize hsd : strOfNums (hxs u) = s at hs t1
      have Hnext := Lib.hid (hnext s hsd)
      clear hsd hnext
      have hrp := hrep s t1
      have hz : (⟨(Lib.repeatL [48] (2 - s.size)).toArray⟩ : ByteArray).size ≤ 2 := by
        show (Lib.repeatL [48] (2 - s.size)).length ≤ 2
        have : ∀ k, k ≤ 2 → (Lib.repeatL [(48 : UInt8)] k).length ≤ 2 := by decide +kernel
        exact this _ (Nat.sub_le _ _)
      have ha : (⟨(hexL F i).toArray⟩ : ByteArray).size ≤ 64 := by
        show (hexL F i).length ≤ 64
        rw [hexL_len]; omega
      generalize (⟨(Lib.repeatL [48] (2 - s.size)).toArray⟩ : ByteArray) = z at hrp Hnext hz
      generalize (⟨(hexL F i).toArray⟩ : ByteArray) = a at Hnext ha ⊢
      go_wp2_with (first
        | (go_at_call 25; refine hs.mono ?_; rintro e w3 ⟨rfl, hu3⟩)
        | (go_at_call 18; refine (hrp _).mono ?_; rintro e w4 ⟨rfl, hb4⟩))
      have u4 := hu3.trans_nil (Upd.of_below hb4 (Nat.le_refl _) [])
      exact ⟨⟨i + 1, by omega, by go_num, by rw [Hnext.out], hu.trans_nil u4, hb.upd_nil u4⟩, by simp [intOf]; omega⟩
    · have H32 : Hid (i = 32) := Lib.hid (by omega)
      go_wp2_with fail
      go_ret
      exact ⟨by rw [H32.out]; rfl, hu⟩

end Go.Proofs.YtcfoplnickdekaaDoor
