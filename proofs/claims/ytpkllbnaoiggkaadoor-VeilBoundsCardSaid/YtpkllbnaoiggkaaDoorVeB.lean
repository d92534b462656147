/- Labels: contracts of Join, Meet, near, at. -/
import Derived.Test.YtpkllbnaoiggkaaDoorVeA
import Derived.Test.YtpkllbnaoiggkaaDoorBring
import Derived.Deep.RegionLaw
namespace Go.Proofs.YtpkllbnaoiggkaaDoor
open Go.RowKit

theorem joinFold_snoc (l : List Lab) (x o : Lab) : joinFold (l ++ [x]) o = (max (joinFold l o).1 x.1, (joinFold l o).2 ||| x.2) := by
  induction l generalizing o with
  | nil => rfl
  | cons a l ih => exact ih _

theorem joinFold_lt (l : List Lab) (hl : ∀ x ∈ l, x.2 < 4294967296) (o : Lab) (ho : o.2 < 4294967296) : (joinFold l o).2 < 4294967296 := by
  induction l generalizing o with
  | nil => exact ho
  | cons a l ih => exact ih (fun x hx => hl x (List.mem_cons_of_mem _ hx)) _ (or_lt ho (hl a List.mem_cons_self))

set_option maxHeartbeats 2000000 in
set_option maxRecDepth 100000 in
theorem vjoin {w : World} {q : Option Addr} {ls : List Lab} (h : LabsAt w q ls) (c : Nat) (hl : ls.length ≤ maxLen) (hb : ∀ x ∈ ls, x.2 < 4294967296) :
    Calls Tryd.prog 13 #[.slice q ls.length c] w fun e w' => e = .returned (labV (joinL ls)) ∧ Upd [] w w' := by
  have hl' : ls.length ≤ 9223372036854775807 := hl
  have ua := (Upd.refl [] w).alloc (.cells #[.int .i64 0, .int .u32 0] 24)
  have hB := Blk.new w #[.int .i64 0, .int .u32 0] 24
  have hla := h.upd ua
  by_cases hm : ls.all mayL = true
  · have hj : joinL ls = joinFold ls (0, 0) := by unfold joinL; rw [if_pos hm]
    rw [hj]
    go_enter Tryd.func13, Tryd.ntmps13
    go_upto_region 3 with (go_at_call 29; refine (vmay hla c hl).mono ?_; rw [hm]; rintro e w3 ⟨rfl, hu3⟩)
    have hB3 := hB.upd_nil hu3
    have u3 := ua.trans_nil hu3
    generalize hg : w.heap.size = t2 at hB hB3 ⊢
    have ht2 : w.heap.size ≤ t2 := by omega
    go_wp2_with fail
    go_loopw [11] (fun iv wr => ∃ (i : Nat) (o : Lab), i ≤ ls.length ∧ iv = .int .i64 i ∧ Hid (joinFold (ls.take i) (0, 0) = o) ∧ Blk wr t2 [.int .i64 o.1, .int .u32 o.2] 24 ∧ Upd [] w wr) (fun iv _ => ls.length - (intOf iv).toNat)
    case atStart => exact ⟨0, (0, 0), by omega, rfl, Lib.hid rfl, hB3, u3⟩
    case round =>
      clear hB3 hB u3 hu3
      obtain ⟨i, ⟨X, Y⟩, hi, rfl, ho, hBr, hu⟩ := hrel
      dsimp only at hBr
      obtain ⟨wo, rfl⟩ : ∃ wo, wo = wr := ⟨_, rfl⟩
      have k0 := hBr.cell 0 rfl
      have k1 := hBr.cell 1 rfl
      have f0 := hBr.free 0
      have f1 := hBr.free 1
      by_cases hlt : i < ls.length
      · obtain ⟨⟨L, P⟩, hx⟩ : ∃ x, ls[i]? = some x := ⟨_, List.getElem?_eq_getElem hlt⟩
        obtain ⟨b, o, rfl, hbl, c0, c1⟩ := (h.upd hu) i _ hx
        dsimp only at c0 c1
        have hP : P < 4294967296 := hb _ (List.mem_of_getElem? hx)
        have hY : Y < 4294967296 := by
          have := joinFold_lt (ls.take i) (fun x hx => hb x (List.mem_of_mem_take hx)) (0, 0) (by decide)
          rw [ho.out] at this; exact this
        have eor := u32_or_nat Y P hY hP
        by_cases hXL : X < L
        · have hXL2 : ¬ L ≤ X := by omega
          have hBa := hBr.alloc (.cells #[.int .i64 L, .int .u32 P] 24)
          have j0 := hBa.cell 0 rfl
          have j1 := hBa.cell 1 rfl
          have g0 := hBa.free 0
          have g1 := hBa.free 1
          have hN := (hBa.set 0 (.int .i64 (L))).set 1 (.int .u32 ((Y ||| P : Nat) : Int))
          have hU := ((hu.alloc (.cells #[.int .i64 L, .int .u32 P] 24)).setCell (p := ⟨t2, 0, none⟩) (Or.inr ht2) (.int .i64 (L))).setCell (p := ⟨t2, 1, none⟩) (Or.inr ht2) (.int .u32 ((Y ||| P : Nat) : Int))
          have hN2 := ((hBr.set 0 (.int .i64 (L))).set 1 (.int .u32 ((Y ||| P : Nat) : Int))).alloc (.cells #[.int .i64 L, .int .u32 P] 24)
          have hU2 := ((hu.setCell (p := ⟨t2, 0, none⟩) (Or.inr ht2) (.int .i64 (L))).setCell (p := ⟨t2, 1, none⟩) (Or.inr ht2) (.int .u32 ((Y ||| P : Nat) : Int))).alloc (.cells #[.int .i64 L, .int .u32 P] 24)
          have hfold : joinFold (ls.take (i + 1)) (0, 0) = (L, Y ||| P) := by
            rw [List.take_add_one, hx]; show joinFold (ls.take i ++ [(L, P)]) (0, 0) = _
            rw [joinFold_snoc, ho.out]; show (max X L, Y ||| P) = _; rw [Int.max_eq_right (by omega)]
          have Hf := Lib.hid hfold
          clear hfold hx ho
          go_wp2_with fail
          first
            | exact ⟨⟨i + 1, (L, Y ||| P), by omega, by go_num, Hf, hN, hU⟩, by simp [intOf]; omega⟩
            | exact ⟨⟨i + 1, (L, Y ||| P), by omega, by go_num, Hf, hN2, hU2⟩, by simp [intOf]; omega⟩
        · have hXL2 : L ≤ X := by omega
          have hBa := hBr.alloc (.cells #[.int .i64 L, .int .u32 P] 24)
          have j0 := hBa.cell 0 rfl
          have j1 := hBa.cell 1 rfl
          have g0 := hBa.free 0
          have g1 := hBa.free 1
          have hN := (hBa.set 0 (.int .i64 (X))).set 1 (.int .u32 ((Y ||| P : Nat) : Int))
          have hU := ((hu.alloc (.cells #[.int .i64 L, .int .u32 P] 24)).setCell (p := ⟨t2, 0, none⟩) (Or.inr ht2) (.int .i64 (X))).setCell (p := ⟨t2, 1, none⟩) (Or.inr ht2) (.int .u32 ((Y ||| P : Nat) : Int))
          have hN2 := ((hBr.set 0 (.int .i64 (X))).set 1 (.int .u32 ((Y ||| P : Nat) : Int))).alloc (.cells #[.int .i64 L, .int .u32 P] 24)
          have hU2 := ((hu.setCell (p := ⟨t2, 0, none⟩) (Or.inr ht2) (.int .i64 (X))).setCell (p := ⟨t2, 1, none⟩) (Or.inr ht2) (.int .u32 ((Y ||| P : Nat) : Int))).alloc (.cells #[.int .i64 L, .int .u32 P] 24)
          have hfold : joinFold (ls.take (i + 1)) (0, 0) = (X, Y ||| P) := by
            rw [List.take_add_one, hx]; show joinFold (ls.take i ++ [(L, P)]) (0, 0) = _
            rw [joinFold_snoc, ho.out]; show (max X L, Y ||| P) = _; rw [Int.max_eq_left (by omega)]
          have Hf := Lib.hid hfold
          clear hfold hx ho
          go_wp2_with fail
          first
            | exact ⟨⟨i + 1, (X, Y ||| P), by omega, by go_num, Hf, hN, hU⟩, by simp [intOf]; omega⟩
            | exact ⟨⟨i + 1, (X, Y ||| P), by omega, by go_num, Hf, hN2, hU2⟩, by simp [intOf]; omega⟩
      · obtain rfl : i = ls.length := by omega
        have hfold := ho.out
        rw [List.take_of_length_le (Nat.le_refl _)] at hfold
        have Hf := Lib.hid hfold
        have hN := (hBr.set 0 (.int .i64 X)).set 1 (.int .u32 Y)
        have hU := (hu.setCell (p := ⟨t2, 0, none⟩) (Or.inr ht2) (.int .i64 X)).setCell (p := ⟨t2, 1, none⟩) (Or.inr ht2) (.int .u32 Y)
        clear hfold ho
        go_wp2_with fail
        generalize (wo.setCell ⟨t2, 0, none⟩ (.int .i64 X)).setCell ⟨t2, 1, none⟩ (.int .u32 Y) = W at hN hU ⊢
        have z0 := hN.cell 0 rfl
        have z1 := hN.cell 1 rfl
        exact bodyPost_ret (v := labV (X, Y)) (by simp [results, Tryd.results13, go_sem, z0, z1, labV]) rfl ⟨by rw [Hf.out], hU⟩
  · have hj : joinL ls = (0, 0) := by unfold joinL; rw [if_neg hm]
    have hm' : ls.all mayL = false := by simpa using hm
    rw [hj]
    go_enter Tryd.func13, Tryd.ntmps13
    go_wp2_with (go_at_call 29; refine (vmay hla c hl).mono ?_; rw [hm']; rintro e w3 ⟨rfl, hu3⟩; have hB3 := hB.upd_nil hu3; have k0 := hB3.cell 0 rfl; have k1 := hB3.cell 1 rfl; have f0 := hB3.free 0; have f1 := hB3.free 1)
    have hN := (hB3.set 0 (.int .i64 0)).set 1 (.int .u32 0)
    have hU := ((ua.trans_nil hu3).setCell (p := ⟨w.heap.size, 0, none⟩) (Or.inr (Nat.le_refl _)) (.int .i64 0)).setCell (p := ⟨w.heap.size, 1, none⟩) (Or.inr (Nat.le_refl _)) (.int .u32 0)
    generalize (w3.setCell ⟨w.heap.size, 0, none⟩ (.int .i64 0)).setCell ⟨w.heap.size, 1, none⟩ (.int .u32 0) = W at hN hU ⊢
    have z0 := hN.cell 0 rfl
    have z1 := hN.cell 1 rfl
    exact bodyPost_ret (v := labV (0, 0)) (by simp [results, Tryd.results13, go_sem, z0, z1, labV]) rfl ⟨rfl, hU⟩

set_option maxHeartbeats 2000000 in
set_option maxRecDepth 100000 in
theorem vmeet (a b : Lab) (ha : a.2 < 4294967296) (hb : b.2 < 4294967296) (w : World) :
    Calls Tryd.prog 15 #[labV a, labV b] w fun e w' => e = .returned (labV (meetL a b)) ∧ Upd [] w w' := by
  obtain ⟨L, P⟩ := a
  obtain ⟨M, Q⟩ := b
  dsimp only at ha hb
  have u2 := (((Upd.refl [] w).alloc (.cells #[.int .i64 L, .int .u32 P] 24)).alloc (.cells #[.int .i64 M, .int .u32 Q] 24)).alloc (.cells #[.int .i64 0, .int .u32 0] 24)
  have hA0 := ((Blk.new w #[.int .i64 L, .int .u32 P] 24).alloc (.cells #[.int .i64 M, .int .u32 Q] 24)).alloc (.cells #[.int .i64 0, .int .u32 0] 24)
  have hB0 := (Blk.new_at (w := w.alloc (.cells #[.int .i64 L, .int .u32 P] 24)) (cs := #[.int .i64 M, .int .u32 Q]) (l := [.int .i64 M, .int .u32 Q]) (T := 24) (n := w.heap.size + 1) (by simp) rfl).alloc (.cells #[.int .i64 0, .int .u32 0] 24)
  have hC0 := Blk.new_at (w := (w.alloc (.cells #[.int .i64 L, .int .u32 P] 24)).alloc (.cells #[.int .i64 M, .int .u32 Q] 24)) (cs := #[.int .i64 0, .int .u32 0]) (l := [.int .i64 0, .int .u32 0]) (T := 24) (n := w.heap.size + 2) (by simp) rfl
  generalize hW : ((w.alloc (.cells #[.int .i64 L, .int .u32 P] 24)).alloc (.cells #[.int .i64 M, .int .u32 Q] 24)).alloc (.cells #[.int .i64 0, .int .u32 0] 24) = W2 at *
  have ub := (Upd.refl [] W2).alloc (.cells #[.int .i64 L, .int .u32 P, .int .i64 M, .int .u32 Q] 24)
  have hD := LabsAt.two (x := (L, P)) (y := (M, Q)) (Blk.new W2 #[.int .i64 L, .int .u32 P, .int .i64 M, .int .u32 Q] 24)
  go_enter Tryd.func15, Tryd.ntmps15
  unfold labV
  go_upto_region 1 with fail
  try rw [hW]
  have a0 := hA0.cell 0 rfl
  have a1 := hA0.cell 1 rfl
  have b0 := hB0.cell 0 rfl
  have b1 := hB0.cell 1 rfl
  generalize hg : w.heap.size = t2 at *
  have hmeet : meetL (L, P) (M, Q) = if [(L, P), (M, Q)].all mayL = true then (min L M, P &&& Q) else (0, 0) := by unfold meetL; simp
  have eand := u32_and_nat P Q ha hb
  clear hW
  by_cases hm : [(L, P), (M, Q)].all mayL = true
  · rw [if_pos hm] at hmeet
    by_cases hML : M < L
    · have hML2 : ¬ L ≤ M := by omega
      rw [show min L M = M by omega] at hmeet
      have Hmt := Lib.hid hmeet
      clear hmeet
      go_wp2_with (go_at_call 29; refine (vmay hD 2 (by simp [maxLen])).mono ?_; rw [hm]; rintro e w3 ⟨rfl, hu3⟩; have hA3 := (hA0.alloc _).upd_nil hu3; have hB3 := (hB0.alloc _).upd_nil hu3; have hC3 := (hC0.alloc _).upd_nil hu3; have p0 := hA3.cell 0 rfl; have p1 := hA3.cell 1 rfl; have r0 := hB3.cell 0 rfl; have r1 := hB3.cell 1 rfl; have k0 := hC3.cell 0 rfl; have k1 := hC3.cell 1 rfl; have f0 := hC3.free 0; have f1 := hC3.free 1)
      have hN := (hC3.set 0 (.int .i64 (M))).set 1 (.int .u32 ((P &&& Q : Nat) : Int))
      have hU := (((u2.trans_nil ub).trans_nil hu3).setCell (p := ⟨t2 + 1 + 1, 0, none⟩) (Or.inr (by simp; omega)) (.int .i64 (M))).setCell (p := ⟨t2 + 1 + 1, 1, none⟩) (Or.inr (by simp; omega)) (.int .u32 ((P &&& Q : Nat) : Int))
      generalize (w3.setCell ⟨t2 + 1 + 1, 0, none⟩ (.int .i64 (M))).setCell ⟨t2 + 1 + 1, 1, none⟩ (.int .u32 ((P &&& Q : Nat) : Int)) = W at hN hU ⊢
      have z0 := hN.cell 0 rfl
      have z1 := hN.cell 1 rfl
      exact bodyPost_ret (v := labV (M, P &&& Q)) (by simp [results, Tryd.results15, go_sem, z0, z1, labV]) rfl ⟨by rw [Hmt.out]; rfl, hU⟩
    · have hML2 : L ≤ M := by omega
      rw [show min L M = L by omega] at hmeet
      have Hmt := Lib.hid hmeet
      clear hmeet
      go_wp2_with (go_at_call 29; refine (vmay hD 2 (by simp [maxLen])).mono ?_; rw [hm]; rintro e w3 ⟨rfl, hu3⟩; have hA3 := (hA0.alloc _).upd_nil hu3; have hB3 := (hB0.alloc _).upd_nil hu3; have hC3 := (hC0.alloc _).upd_nil hu3; have p0 := hA3.cell 0 rfl; have p1 := hA3.cell 1 rfl; have r0 := hB3.cell 0 rfl; have r1 := hB3.cell 1 rfl; have k0 := hC3.cell 0 rfl; have k1 := hC3.cell 1 rfl; have f0 := hC3.free 0; have f1 := hC3.free 1)
      have hN := (hC3.set 0 (.int .i64 (L))).set 1 (.int .u32 ((P &&& Q : Nat) : Int))
      have hU := (((u2.trans_nil ub).trans_nil hu3).setCell (p := ⟨t2 + 1 + 1, 0, none⟩) (Or.inr (by simp; omega)) (.int .i64 (L))).setCell (p := ⟨t2 + 1 + 1, 1, none⟩) (Or.inr (by simp; omega)) (.int .u32 ((P &&& Q : Nat) : Int))
      generalize (w3.setCell ⟨t2 + 1 + 1, 0, none⟩ (.int .i64 (L))).setCell ⟨t2 + 1 + 1, 1, none⟩ (.int .u32 ((P &&& Q : Nat) : Int)) = W at hN hU ⊢
      have z0 := hN.cell 0 rfl
      have z1 := hN.cell 1 rfl
      exact bodyPost_ret (v := labV (L, P &&& Q)) (by simp [results, Tryd.results15, go_sem, z0, z1, labV]) rfl ⟨by rw [Hmt.out]; rfl, hU⟩
  · rw [if_neg hm] at hmeet
    have hm' : [(L, P), (M, Q)].all mayL = false := by simpa using hm
    have Hmt := Lib.hid hmeet
    clear hmeet
    go_wp2_with (go_at_call 29; refine (vmay hD 2 (by simp [maxLen])).mono ?_; rw [hm']; rintro e w3 ⟨rfl, hu3⟩; have hC3 := (hC0.alloc _).upd_nil hu3; have k0 := hC3.cell 0 rfl; have k1 := hC3.cell 1 rfl; have f0 := hC3.free 0; have f1 := hC3.free 1)
    have hN := (hC3.set 0 (.int .i64 0)).set 1 (.int .u32 0)
    have hU := (((u2.trans_nil ub).trans_nil hu3).setCell (p := ⟨t2 + 1 + 1, 0, none⟩) (Or.inr (by simp; omega)) (.int .i64 0)).setCell (p := ⟨t2 + 1 + 1, 1, none⟩) (Or.inr (by simp; omega)) (.int .u32 0)
    generalize (w3.setCell ⟨t2 + 1 + 1, 0, none⟩ (.int .i64 0)).setCell ⟨t2 + 1 + 1, 1, none⟩ (.int .u32 0) = W at hN hU ⊢
    have z0 := hN.cell 0 rfl
    have z1 := hN.cell 1 rfl
    exact bodyPost_ret (v := labV (0, 0)) (by simp [results, Tryd.results15, go_sem, z0, z1, labV]) rfl ⟨by rw [Hmt.out]; rfl, hU⟩

/-- A label brought to those that may be. -/
def nearL (L : Int) (P : Nat) : Lab := (L % 8, P)

set_option maxRecDepth 100000 in
theorem vnear (L : Int) (P : Nat) (w : World) (h1 : -9223372036854775808 ≤ L) (h2 : L ≤ 9223372036854775807) :
    Calls Tryd.prog 18 #[labV (L, P)] w fun e w' => e = .returned (labV (nearL L P)) ∧ Upd [] w w' := by
  have u2 := ((Upd.refl [] w).alloc (.cells #[.int .i64 L, .int .u32 P] 24)).alloc (.cells #[.int .i64 0, .int .u32 0] 24)
  have hA0 := (Blk.new w #[.int .i64 L, .int .u32 P] 24).alloc (.cells #[.int .i64 0, .int .u32 0] 24)
  have hC0 := Blk.new_at (w := w.alloc (.cells #[.int .i64 L, .int .u32 P] 24)) (cs := #[.int .i64 0, .int .u32 0]) (l := [.int .i64 0, .int .u32 0]) (T := 24) (n := w.heap.size + 1) (by simp) rfl
  go_enter Tryd.func18, Tryd.ntmps18
  unfold labV
  go_upto_region 1 with fail
  have dA := hA0.drew
  have dC := hC0.drew
  have a0 := dA.cell 0 rfl
  have a1 := dA.cell 1 rfl
  have k0 := dC.cell 0 rfl
  have k1 := dC.cell 1 rfl
  have f0 := dC.free 0
  have f1 := dC.free 1
  go_region_law (go_simp; go_at_call 32; refine (bring_any L 8 _ (by omega) (by omega) h1 h2).mono ?_; rintro e w3 ⟨rfl, rfl⟩)
  all_goals
    go_wp2_with fail
    have hN := (Blk.new_at (w := w.alloc (.cells #[.int .i64 L, .int .u32 P] 24)) (cs := #[.int .i64 (L % 8), .int .u32 P]) (l := [.int .i64 (L % 8), .int .u32 P]) (T := 24) (n := w.heap.size + 1) (by simp) rfl).drew
    have z0 := hN.cell 0 rfl
    have z1 := hN.cell 1 rfl
    exact bodyPost_ret (v := .agg #[.int .i64 (L % 8), .int .u32 P]) (by simp [results, Tryd.results18, go_sem, z0, z1]) rfl ⟨rfl, (((Upd.refl [] w).alloc _).alloc _).drew⟩

set_option maxRecDepth 100000 in
theorem vat (L : Int) (P : Nat) (w : World) :
    Calls Tryd.prog 19 #[.int .i64 L, .int .u32 P] w fun e w' => e = .returned (labV (L, P)) ∧ Upd [] w w' := by
  go_enter Tryd.func19, Tryd.ntmps19
  go_wp2_with fail
  have hN := Blk.new w #[.int .i64 L, .int .u32 P] 24
  have z0 := hN.cell 0 rfl
  have z1 := hN.cell 1 rfl
  exact bodyPost_ret (v := labV (L, P)) (by simp [results, Tryd.results19, go_sem, z0, z1, labV]) rfl ⟨rfl, (Upd.refl [] w).alloc _⟩

end Go.Proofs.YtpkllbnaoiggkaaDoor
