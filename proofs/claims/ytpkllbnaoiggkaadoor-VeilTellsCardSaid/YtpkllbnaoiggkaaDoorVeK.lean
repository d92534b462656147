/- The document's labels: the contract of JoinAll. -/
import Derived.Test.YtpkllbnaoiggkaaDoorVeJ
import Derived.StillTailTactics
namespace Go.Proofs.YtpkllbnaoiggkaaDoor
open Go.RowKit

theorem join2_fold (o x : Lab) (ho : mayL o = true) (hx : mayL x = true) : join2 o x = (max o.1 x.1, o.2 ||| x.2) := by
  unfold join2; rw [if_pos ⟨ho, hx⟩]
theorem mayL_max {o x : Lab} (ho : mayL o = true) (hx : mayL x = true) (p : Nat) : mayL (max o.1 x.1, p) = true := by
  unfold mayL at *; simp at *; omega

theorem joinFold_may (l : List Lab) (h : l.all mayL = true) (o : Lab) (ho : mayL o = true) : mayL (joinFold l o) = true := by
  induction l generalizing o with
  | nil => exact ho
  | cons a l ih =>
    rw [List.all_cons, Bool.and_eq_true] at h
    exact ih h.2 _ (mayL_max ho h.1 _)

set_option maxHeartbeats 2000000 in
set_option maxRecDepth 100000 in
theorem rjoinAll {w : World} {q : Option Addr} {ls : List Lab} (h : LabsAt w q ls) (c : Nat) (hl : ls.length ≤ maxLen) (hb : ∀ x ∈ ls, x.2 < 4294967296) :
    Calls Tryd.prog 14 #[.slice q ls.length c] w fun e w' => e = .returned (labV (joinL ls)) ∧ Upd [] w w' := by
  have hl' : ls.length ≤ 9223372036854775807 := hl
  have u2 := ((Upd.refl [] w).alloc (.cells #[.int .i64 0, .int .u32 0] 24)).alloc (.cells #[.int .i64 0, .int .u32 0] 24)
  have hA0 := (Blk.new w #[.int .i64 0, .int .u32 0] 24).alloc (.cells #[.int .i64 0, .int .u32 0] 24)
  have hB0 := Blk.new_at (w := w.alloc (.cells #[.int .i64 0, .int .u32 0] 24)) (cs := #[.int .i64 0, .int .u32 0]) (l := [.int .i64 0, .int .u32 0]) (T := 24) (n := w.heap.size + 1) (by simp) rfl
  go_enter Tryd.func14, Tryd.ntmps14
  go_upto_region 2 with fail
  generalize hW : (w.alloc (.cells #[.int .i64 0, .int .u32 0] 24)).alloc (.cells #[.int .i64 0, .int .u32 0] 24) = W2 at *
  generalize hg : w.heap.size = t2 at *
  have ht2 : w.heap.size ≤ t2 := by omega
  clear hW
  go_wp2_with fail
  go_loopw [4] (fun iv wr => ∃ (i : Nat) (o : Lab), i ≤ ls.length ∧ iv = .int .i64 i ∧ Hid (joinFold (ls.take i) (0, 0) = o) ∧ Hid ((ls.take i).all mayL = true) ∧ Blk wr t2 [.int .i64 0, .int .u32 0] 24 ∧ Blk wr (t2 + 1) [.int .i64 o.1, .int .u32 o.2] 24 ∧ Upd [] w wr) (fun iv _ => ls.length - (intOf iv).toNat)
  case atStart => exact ⟨0, (0, 0), by omega, rfl, Lib.hid rfl, Lib.hid rfl, hA0, hB0, u2⟩
  case round =>
    obtain ⟨i, ⟨X, Y⟩, hi, rfl, ho, hall, hAr, hBr, hu⟩ := hrel
    dsimp only at hBr
    obtain ⟨wo, rfl⟩ : ∃ wo, wo = wr := ⟨_, rfl⟩
    by_cases hlt : i < ls.length
    · obtain ⟨⟨L, P⟩, hx⟩ : ∃ x, ls[i]? = some x := ⟨_, List.getElem?_eq_getElem hlt⟩
      obtain ⟨b, o, rfl, hbl, c0, c1⟩ := (h.upd hu) i _ hx
      dsimp only at c0 c1
      have hP : P < 4294967296 := hb _ (List.mem_of_getElem? hx)
      have hY : Y < 4294967296 := by
        have := joinFold_lt (ls.take i) (fun x hx => hb x (List.mem_of_mem_take hx)) (0, 0) (by decide)
        rw [ho.out] at this; exact this
      by_cases hm : mayL (L, P) = true
      · have hmo : mayL (X, Y) = true := by
          have := joinFold_may (ls.take i) hall.out (0, 0) (by decide)
          rw [ho.out] at this; exact this
        have hj : join2 (X, Y) (L, P) = (max X L, Y ||| P) := join2_fold _ _ hmo hm
        have hfold : joinFold (ls.take (i + 1)) (0, 0) = (max X L, Y ||| P) := by
          rw [List.take_add_one, hx]; show joinFold (ls.take i ++ [(L, P)]) (0, 0) = _
          rw [joinFold_snoc, ho.out]
        have hall2 : (ls.take (i + 1)).all mayL = true := by
          rw [List.take_add_one, hx, List.all_append, hall.out]; simpa using hm
        have Hf := Lib.hid hfold
        have Hall := Lib.hid hall2
        have Hj := Lib.hid hj
        clear hfold hx ho hall2 hall hj
        generalize max X L = Z at *
        go_upto_region 7 with (go_at_call 28; refine (rmay L P _).mono ?_; rw [hm]; rintro e w3 ⟨rfl, hu3⟩)
        have hA3 := hAr.upd_nil hu3
        have hB3 := hBr.upd_nil hu3
        have d0 := (hu3.cell (a := ⟨b, o + i * 2, none⟩) hbl (by simp)).trans c0
        have d1 := (hu3.cell (a := ⟨b, o + i * 2 + 1, none⟩) hbl (by simp)).trans c1
        have k0 := hB3.cell 0 rfl
        have k1 := hB3.cell 1 rfl
        go_still_tail 5, (by kernel_rfl)
        change wpList _ _ _ _ _ w3.drew
        have hu4 := (hu.trans_nil hu3).drew
        have hA4 := hA3.drew
        have hB4 := hB3.drew
        generalize w3.drew = W3 at hu4 hA4 hB4 ⊢
        go_wp2_with (go_at_call 31; refine (rjoin (X, Y) (L, P) hY hP _).mono ?_; rw [Hj.out]; unfold labV; rintro e w5 ⟨rfl, hu5⟩; have hB5 := hB4.upd_nil hu5; have m0 := hB5.cell 0 rfl; have m1 := hB5.cell 1 rfl; have f0 := hB5.free 0; have f1 := hB5.free 1)
        exact ⟨⟨i + 1, (Z, Y ||| P), by omega, by go_num, Hf, Hall, ((hA4.upd_nil hu5).set_ne _ (by simp) _).set_ne _ (by simp) _, (hB5.set 0 _).set 1 _, ((hu4.trans_nil hu5).setCell (Or.inr (by show w.heap.size ≤ t2 + 1; omega)) _).setCell (Or.inr (by show w.heap.size ≤ t2 + 1; omega)) _⟩, by simp [intOf]; omega⟩
      · have hm' : mayL (L, P) = false := by simpa using hm
        have hj : joinL ls = (0, 0) := by
          unfold joinL
          rw [if_neg (fun h => hm (List.all_eq_true.1 h _ (List.mem_of_getElem? hx)))]
        have Hj := Lib.hid hj
        clear hj hx ho
        have k0 := hAr.cell 0 rfl
        have k1 := hAr.cell 1 rfl
        go_wp2_with (go_at_call 28; refine (rmay L P _).mono ?_; rw [hm']; rintro e w3 ⟨rfl, hu3⟩; have hA3 := hAr.upd_nil hu3; have m0 := hA3.cell 0 rfl; have m1 := hA3.cell 1 rfl; have f0 := hA3.free 0; have f1 := hA3.free 1)
        have hN := (hA3.set 0 (.int .i64 0)).set 1 (.int .u32 0)
        have hU := ((hu.trans_nil hu3).setCell (p := ⟨t2, 0, none⟩) (Or.inr ht2) (.int .i64 0)).setCell (p := ⟨t2, 1, none⟩) (Or.inr ht2) (.int .u32 0)
        generalize (w3.setCell ⟨t2, 0, none⟩ (.int .i64 0)).setCell ⟨t2, 1, none⟩ (.int .u32 0) = W at hN hU ⊢
        have z0 := hN.cell 0 rfl
        have z1 := hN.cell 1 rfl
        exact bodyPost_ret (v := labV (0, 0)) (by simp [results, Tryd.results14, go_sem, z0, z1, labV]) rfl ⟨by rw [Hj.out], hU⟩
    · obtain rfl : i = ls.length := by omega
      have hfold := ho.out
      rw [List.take_of_length_le (Nat.le_refl _)] at hfold
      have hj : joinL ls = (X, Y) := by
        have h2 := hall.out
        rw [List.take_of_length_le (Nat.le_refl _)] at h2
        unfold joinL
        rw [if_pos h2, hfold]
      have Hj := Lib.hid hj
      clear hj hfold ho
      have k0 := hAr.cell 0 rfl
      have k1 := hAr.cell 1 rfl
      have l0 := hBr.cell 0 rfl
      have l1 := hBr.cell 1 rfl
      have f0 := hAr.free 0
      have f1 := hAr.free 1
      go_wp2_with fail
      have hN := (hAr.set 0 (.int .i64 X)).set 1 (.int .u32 Y)
      have hU := (hu.setCell (p := ⟨t2, 0, none⟩) (Or.inr ht2) (.int .i64 X)).setCell (p := ⟨t2, 1, none⟩) (Or.inr ht2) (.int .u32 Y)
      generalize (wo.setCell ⟨t2, 0, none⟩ (.int .i64 X)).setCell ⟨t2, 1, none⟩ (.int .u32 Y) = W at hN hU ⊢
      have z0 := hN.cell 0 rfl
      have z1 := hN.cell 1 rfl
      exact bodyPost_ret (v := labV (X, Y)) (by simp [results, Tryd.results14, go_sem, z0, z1, labV]) rfl ⟨by rw [Hj.out], hU⟩

end Go.Proofs.YtpkllbnaoiggkaaDoor
