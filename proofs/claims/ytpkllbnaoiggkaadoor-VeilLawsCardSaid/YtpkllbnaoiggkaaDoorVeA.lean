/- Labels: contracts of Check, may, Flows. -/
import Derived.Test.YtpkllbnaoiggkaaDoorChecked
import Derived.Test.YtpkllbnaoiggkaaDoorVeP
import Derived.RegionTactic
import Derived.Deep.DeepCutAuto
namespace Go.Proofs.YtpkllbnaoiggkaaDoor
open Go.RowKit

def labV (a : Lab) : Value := .agg #[.int .i64 a.1, .int .u32 a.2]

/-- What Check answers. -/
def chkL (a : Lab) : Int := if mayL a = true then 0 else 9
theorem chkL_yes {a : Lab} (h : mayL a = true) : chkL a = 0 := by unfold chkL; rw [if_pos h]
theorem chkL_no {a : Lab} (h : ¬ mayL a = true) : chkL a = 9 := by unfold chkL; rw [if_neg h]

theorem vcheck (L : Int) (P : Nat) (w : World) :
    Calls Tryd.prog 9 #[.agg #[.int .i64 L, .int .u32 P]] w fun e w' => e = .returned (.int .i64 (chkL (L, P))) ∧ Upd [] w w' := by
  have ub := (Upd.refl [] w).alloc (.cells #[.int .i64 L, .int .u32 P] 24)
  by_cases h0 : L < 0
  · go_enter Tryd.func9, Tryd.ntmps9
    go_wp2_with fail
    go_ret
    exact ⟨ret_int (chkL_no (by unfold mayL; simp; omega)).symm, ub⟩
  · by_cases h7 : 7 < L
    · go_enter Tryd.func9, Tryd.ntmps9
      go_wp2_with fail
      go_ret
      exact ⟨ret_int (chkL_no (by unfold mayL; simp; omega)).symm, ub⟩
    · go_enter Tryd.func9, Tryd.ntmps9
      go_wp2_with fail
      go_ret
      exact ⟨ret_int (chkL_yes (by unfold mayL; simp; omega)).symm, ub⟩

/-- A row of labels that is read. -/
def LabsAt (w : World) (q : Option Addr) (ls : List Lab) : Prop := ∀ i a, ls[i]? = some a → ∃ b o, q = some ⟨b, o, none⟩ ∧ b < w.heap.size ∧ w.cell? ⟨b, o + i * 2, none⟩ = some (.int .i64 a.1) ∧ w.cell? ⟨b, o + i * 2 + 1, none⟩ = some (.int .u32 a.2)
theorem LabsAt.upd {w w' : World} {q : Option Addr} {ls : List Lab} (h : LabsAt w q ls) (u : Upd [] w w') : LabsAt w' q ls := by
  intro i a hi
  obtain ⟨b, o, h1, h2, h3, h4⟩ := h i a hi
  exact ⟨b, o, h1, Nat.lt_of_lt_of_le h2 u.size, (u.cell (a := ⟨b, _, none⟩) h2 (by simp)).trans h3, (u.cell (a := ⟨b, _, none⟩) h2 (by simp)).trans h4⟩
theorem LabsAt.two {w : World} {b : Nat} {x y : Lab} (h : Blk w b [.int .i64 x.1, .int .u32 x.2, .int .i64 y.1, .int .u32 y.2] 24) : LabsAt w (some ⟨b, 0, none⟩) [x, y] := by
  intro i a hi
  match i, hi with
  | 0, hi => simp at hi; subst hi; exact ⟨b, 0, rfl, h.lt, h.cell 0 rfl, h.cell 1 rfl⟩
  | 1, hi => simp at hi; subst hi; exact ⟨b, 0, rfl, h.lt, h.cell 2 rfl, h.cell 3 rfl⟩
theorem LabsAt.one {w : World} {b : Nat} {x : Lab} (h : Blk w b [.int .i64 x.1, .int .u32 x.2] 24) : LabsAt w (some ⟨b, 0, none⟩) [x] := by
  intro i a hi
  match i, hi with
  | 0, hi => simp at hi; subst hi; exact ⟨b, 0, rfl, h.lt, h.cell 0 rfl, h.cell 1 rfl⟩
theorem LabsAt.three {w : World} {b : Nat} {x y z : Lab} (h : Blk w b [.int .i64 x.1, .int .u32 x.2, .int .i64 y.1, .int .u32 y.2, .int .i64 z.1, .int .u32 z.2] 24) : LabsAt w (some ⟨b, 0, none⟩) [x, y, z] := by
  intro i a hi
  match i, hi with
  | 0, hi => simp at hi; subst hi; exact ⟨b, 0, rfl, h.lt, h.cell 0 rfl, h.cell 1 rfl⟩
  | 1, hi => simp at hi; subst hi; exact ⟨b, 0, rfl, h.lt, h.cell 2 rfl, h.cell 3 rfl⟩
  | 2, hi => simp at hi; subst hi; exact ⟨b, 0, rfl, h.lt, h.cell 4 rfl, h.cell 5 rfl⟩
theorem LabsAt.nil (w : World) (q : Option Addr) : LabsAt w q [] := fun i a hi => by simp at hi

set_option maxRecDepth 100000 in
theorem vmay {w : World} {q : Option Addr} {ls : List Lab} (h : LabsAt w q ls) (c : Nat) (hl : ls.length ≤ maxLen) :
    Calls Tryd.prog 29 #[.slice q ls.length c] w fun e w' => e = .returned (.bool (ls.all mayL)) ∧ Upd [] w w' := by
  have hl' : ls.length ≤ 9223372036854775807 := hl
  go_enter Tryd.func29, Tryd.ntmps29
  go_wp2_with fail
  go_loopw [7] (fun iv wr => ∃ i : Nat, i ≤ ls.length ∧ iv = .int .i64 i ∧ Hid ((ls.take i).all mayL = true) ∧ Upd [] w wr) (fun iv _ => ls.length - (intOf iv).toNat)
  case atStart => exact ⟨0, by omega, rfl, Lib.hid rfl, Upd.refl _ _⟩
  case round =>
    obtain ⟨i, hi, rfl, hall, hu⟩ := hrel
    obtain ⟨wo, rfl⟩ : ∃ wo, wo = wr := ⟨_, rfl⟩
    by_cases hlt : i < ls.length
    · obtain ⟨⟨L, P⟩, hx⟩ : ∃ x, ls[i]? = some x := ⟨_, List.getElem?_eq_getElem hlt⟩
      obtain ⟨b, o, rfl, hb, c0, c1⟩ := (h.upd hu) i _ hx
      dsimp only at c0 c1
      have ua := hu.alloc (.cells #[.int .i64 L, .int .u32 P] 24)
      have Hx := Lib.hid hx; clear hx
      by_cases hm : mayL (L, P) = true
      · go_wp2_with (go_at_call 9; refine (vcheck L P _).mono ?_; rw [chkL_yes hm]; rintro e w3 ⟨rfl, hu3⟩)
        exact ⟨⟨i + 1, by omega, by go_num, Lib.hid (by rw [List.take_add_one, Hx.out, List.all_append, hall.out]; simpa using hm), ua.trans_nil hu3⟩, by simp [intOf]; omega⟩
      · go_wp2_with (go_at_call 9; refine (vcheck L P _).mono ?_; rw [chkL_no hm]; rintro e w3 ⟨rfl, hu3⟩)
        go_ret
        refine ⟨ret_bool ?_, ua.trans_nil hu3⟩
        symm
        rw [List.all_eq_false]
        exact ⟨_, List.mem_of_getElem? Hx.out, hm⟩
    · obtain rfl : i = ls.length := by omega
      go_wp2_with fail
      go_ret
      refine ⟨ret_bool ?_, hu⟩
      have := hall.out
      rw [List.take_of_length_le (Nat.le_refl _)] at this
      exact this.symm

set_option maxRecDepth 100000 in
theorem vflows (a b : Lab) (ha : a.2 < 4294967296) (hb : b.2 < 4294967296) (w : World) :
    Calls Tryd.prog 11 #[labV a, labV b] w fun e w' => e = .returned (.bool (flowsL a b)) ∧ Upd [] w w' := by
  obtain ⟨L, P⟩ := a
  obtain ⟨M, Q⟩ := b
  dsimp only at ha hb
  have u2 := ((Upd.refl [] w).alloc (.cells #[.int .i64 L, .int .u32 P] 24)).alloc (.cells #[.int .i64 M, .int .u32 Q] 24)
  have hA0 := (Blk.new w #[.int .i64 L, .int .u32 P] 24).alloc (.cells #[.int .i64 M, .int .u32 Q] 24)
  have hB0 := Blk.new_at (w := w.alloc (.cells #[.int .i64 L, .int .u32 P] 24)) (cs := #[.int .i64 M, .int .u32 Q]) (l := [.int .i64 M, .int .u32 Q]) (T := 24) (n := w.heap.size + 1) (by simp) rfl
  generalize hW : (w.alloc (.cells #[.int .i64 L, .int .u32 P] 24)).alloc (.cells #[.int .i64 M, .int .u32 Q] 24) = W2 at *
  have ub := (Upd.refl [] W2).alloc (.cells #[.int .i64 L, .int .u32 P, .int .i64 M, .int .u32 Q] 24)
  have hD := LabsAt.two (x := (L, P)) (y := (M, Q)) (Blk.new W2 #[.int .i64 L, .int .u32 P, .int .i64 M, .int .u32 Q] 24)
  go_enter Tryd.func11, Tryd.ntmps11
  unfold labV
  go_upto_region 1 with fail
  try rw [hW]
  have a0 := hA0.cell 0 rfl
  have a1 := hA0.cell 1 rfl
  have b0 := hB0.cell 0 rfl
  have b1 := hB0.cell 1 rfl
  have hfl : flowsL (L, P) (M, Q) = true ↔ [(L, P), (M, Q)].all mayL = true ∧ L ≤ M ∧ subN P Q := by
    rw [flowsL_iff]; simp [and_assoc]
  have hsub := andNot_zero P Q ha hb
  generalize w.heap.size = t2 at *
  clear hW
  by_cases hm : [(L, P), (M, Q)].all mayL = true
  · by_cases hLM : L ≤ M
    · by_cases hs : subN P Q
      · have e1 : (bits BinOp.andNot IntKind.u32 (P : Int) (Q : Int) == 0) = true := by rw [beq_iff_eq]; exact hsub.2 hs
        have hr : flowsL (L, P) (M, Q) = true := hfl.2 ⟨hm, hLM, hs⟩
        clear hfl hsub
        go_wp2_with (go_at_call 29; refine (vmay hD 2 (by simp [maxLen])).mono ?_; rw [hm]; rintro e w3 ⟨rfl, hu3⟩; have hA3 := (hA0.alloc _).upd_nil hu3; have hB3 := (hB0.alloc _).upd_nil hu3; have p0 := hA3.cell 0 rfl; have p1 := hA3.cell 1 rfl; have r0 := hB3.cell 0 rfl; have r1 := hB3.cell 1 rfl)
        go_ret
        first | exact ⟨rfl, (u2.trans_nil ub).trans_nil hu3⟩ | exact ⟨ret_bool hr.symm, (u2.trans_nil ub).trans_nil hu3⟩
      · have e1 : (bits BinOp.andNot IntKind.u32 (P : Int) (Q : Int) == 0) = false := by rw [beq_eq_false_iff_ne]; exact fun h => hs (hsub.1 h)
        have hr : flowsL (L, P) (M, Q) = false := by rw [← Bool.not_eq_true]; exact fun h => hs (hfl.1 h).2.2
        clear hfl hsub
        go_wp2_with (go_at_call 29; refine (vmay hD 2 (by simp [maxLen])).mono ?_; rw [hm]; rintro e w3 ⟨rfl, hu3⟩; have hA3 := (hA0.alloc _).upd_nil hu3; have hB3 := (hB0.alloc _).upd_nil hu3; have p0 := hA3.cell 0 rfl; have p1 := hA3.cell 1 rfl; have r0 := hB3.cell 0 rfl; have r1 := hB3.cell 1 rfl)
        go_ret
        first | exact ⟨rfl, (u2.trans_nil ub).trans_nil hu3⟩ | exact ⟨ret_bool hr.symm, (u2.trans_nil ub).trans_nil hu3⟩
    · have hr : flowsL (L, P) (M, Q) = false := by rw [← Bool.not_eq_true]; exact fun h => hLM (hfl.1 h).2.1
      have hML : M < L := by omega
      clear hfl hsub
      go_wp2_with (go_at_call 29; refine (vmay hD 2 (by simp [maxLen])).mono ?_; rw [hm]; rintro e w3 ⟨rfl, hu3⟩; have hA3 := (hA0.alloc _).upd_nil hu3; have hB3 := (hB0.alloc _).upd_nil hu3; have p0 := hA3.cell 0 rfl; have p1 := hA3.cell 1 rfl; have r0 := hB3.cell 0 rfl; have r1 := hB3.cell 1 rfl)
      go_ret
      first | exact ⟨rfl, (u2.trans_nil ub).trans_nil hu3⟩ | exact ⟨ret_bool hr.symm, (u2.trans_nil ub).trans_nil hu3⟩
  · have hr : flowsL (L, P) (M, Q) = false := by rw [← Bool.not_eq_true]; exact fun h => hm (hfl.1 h).1
    have hm' : [(L, P), (M, Q)].all mayL = false := by simpa using hm
    clear hfl hsub
    go_wp2_with (go_at_call 29; refine (vmay hD 2 (by simp [maxLen])).mono ?_; rw [hm']; rintro e w3 ⟨rfl, hu3⟩)
    go_ret
    first | exact ⟨rfl, (u2.trans_nil ub).trans_nil hu3⟩ | exact ⟨ret_bool hr.symm, (u2.trans_nil ub).trans_nil hu3⟩

end Go.Proofs.YtpkllbnaoiggkaaDoor
