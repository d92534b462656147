/- The agent's table: contracts of its small functions. -/
import Derived.Test.YtpgilkemcaipiaaChecked
import Derived.Test.YtpgilkemcaipiaaBase
import Derived.Laws.LoneSync
import Derived.RegionTactic
import Derived.ChangeAlike
namespace Go.Proofs.Ytpgilkemcaipiaa
open Go.RowKit

/-- An agent's window. -/
structure Win where
  A : Int
  H : Int
  B : Int

def Win.zero : Win := ⟨0, 0, 0⟩

def winCell (st : Nat → Win) (i j : Nat) : Value := match j with | 0 => .int .i64 (st i).A | 1 => .int .i64 (st i).H | _ => .int .u32 (st i).B

/-- The table at block t, its windows at block bw: the windows st, asked n times. -/
structure TabAt (w : World) (t bw : Nat) (st : Nat → Win) (n : Int) : Prop where
  head : Blk w t [.pointer (some ⟨bw, 0, none⟩), .int .i64 n] 65
  rows : Blk w bw (flat 3 17 (winCell st)) 68
  ne : t ≠ bw

theorem TabAt.upd {w w' : World} {t bw : Nat} {st : Nat → Win} {n : Int} (h : TabAt w t bw st n) {bs : List Nat} (u : Upd bs w w') (h1 : t ∉ bs) (h2 : bw ∉ bs) : TabAt w' t bw st n :=
  ⟨h.head.upd u h1, h.rows.upd u h2, h.ne⟩

theorem may_yes (a s : Int) (w : World) (h1 : 1 ≤ a) (h2 : a ≤ 16) (h3 : 1 ≤ s) (h4 : s ≤ 9007199254740991) :
    Calls Try.prog 23 #[.int .i64 a, .int .i64 s] w fun e w' => e = .returned (.bool true) ∧ w = w' := by
  go_enter Try.func23, Try.ntmps23
  go_wp2
  go_ret
  exact ⟨rfl, rfl⟩

def mayB (a s : Int) : Bool := decide (1 ≤ a ∧ a ≤ 16 ∧ 1 ≤ s ∧ s ≤ 9007199254740991)

theorem may_any (a s : Int) (w : World) :
    Calls Try.prog 23 #[.int .i64 a, .int .i64 s] w fun e w' => e = .returned (.bool (mayB a s)) ∧ w = w' := by
  by_cases h1 : 1 ≤ a
  · by_cases h2 : a ≤ 16
    · by_cases h3 : 1 ≤ s
      · by_cases h4 : s ≤ 9007199254740991
        · refine (may_yes a s w h1 h2 h3 h4).mono fun e w' ⟨h, hw⟩ => ⟨?_, hw⟩
          rw [h]; simp [mayB, h1, h2, h3, h4]
        · go_enter Try.func23, Try.ntmps23
          go_wp2
          go_ret
          exact ⟨ret_bool (decide_eq_false (by omega)).symm, rfl⟩
      · go_enter Try.func23, Try.ntmps23
        go_wp2
        go_ret
        exact ⟨ret_bool (decide_eq_false (by omega)).symm, rfl⟩
    · go_enter Try.func23, Try.ntmps23
      go_wp2
      go_ret
      exact ⟨ret_bool (decide_eq_false (by omega)).symm, rfl⟩
  · go_enter Try.func23, Try.ntmps23
    go_wp2
    go_ret
    exact ⟨ret_bool (decide_eq_false (by omega)).symm, rfl⟩

theorem none_no {t bw : Nat} {st : Nat → Win} {n : Int} {w : World} (h : TabAt w t bw st n) :
    Calls Try.prog 22 #[.pointer (some ⟨t, 0, none⟩)] w fun e w' => e = .returned (.bool false) ∧ w = w' := by
  have hc := h.head.cell 0 rfl
  go_enter Try.func22, Try.ntmps22
  go_wp2
  go_ret
  exact ⟨rfl, rfl⟩

/-- What a window answers of a number. -/
def whatI (H B s : Int) : Int := if H - s < 0 then 0 else if 32 ≤ H - s then 2 else if (bits BinOp.and IntKind.u32 (B / 2 ^ (H - s).toNat) 1 == 1) = true then 1 else 0

theorem what_any (A H B s : Int) (w : World) (h1 : 0 ≤ H) (h2 : H ≤ 9007199254740991) (h3 : 1 ≤ s) (h4 : s ≤ 9007199254740991) (hb0 : 0 ≤ B) (hb1 : B < 4294967296) :
    Calls Try.prog 25 #[.agg #[.int .i64 A, .int .i64 H, .int .u32 B], .int .i64 s] w fun e w' => e = .returned (.int .i64 (whatI H B s)) ∧ Upd [] w w' := by
  go_enter Try.func25, Try.ntmps25
  go_wp2
  · go_ret
    exact ⟨ret_int (by unfold whatI; rw [if_pos (by assumption)]), (Upd.refl _ _).alloc _⟩
  · go_ret
    exact ⟨ret_int (by unfold whatI; rw [if_neg (by omega), if_pos (by assumption)]), (Upd.refl _ _).alloc _⟩
  · go_ret
    exact ⟨ret_int (by unfold whatI; rw [if_neg (by omega), if_neg (by omega), if_pos (by assumption)]), (Upd.refl _ _).alloc _⟩
  · rename_i hx
    go_ret
    exact ⟨ret_int (by unfold whatI; rw [if_neg (by omega), if_neg (by omega), if_neg (by rw [hx]; decide)]), (Upd.refl _ _).alloc _⟩

theorem addint_run (a : Addr) (x : Int) (w : World) (hc : w.cell? a = some (.int .i64 x)) (hz : w.frozen? a = false) :
    (callFunc 31 #[.pointer (some a), .int .i64 1]).run Try.prog w = .ok (.value (.int .i64 (wrap64 (x + 1)))) (w.setCell a (.int .i64 (wrap64 (x + 1)))) :=
  run_call_add (fn := Try.f31) Try.func31 (by kernel_rfl) (by kernel_rfl) (by kernel_rfl) .i64 (by kernel_rfl) hc hz (by simp [go_sem, wrap64, IntKind.wrap_i64])

theorem add_one (t o : Nat) (x : Int) (w : World) (hc : w.cell? ⟨t, o, none⟩ = some (.int .i64 x)) (hz : w.frozen? ⟨t, o, none⟩ = false) :
    Calls Try.prog 24 #[.pointer (some ⟨t, o, none⟩), .int .i64 1] w fun e w' => e = .returned (.int .i64 (wrap64 (x + 1))) ∧ w.setCell ⟨t, o, none⟩ (.int .i64 (wrap64 (x + 1))) = w' := by
  have hr := addint_run ⟨t, o, none⟩ x w hc hz
  go_enter Try.func24, Try.ntmps24
  go_wp2
  go_ret
  exact ⟨rfl, rfl⟩

def WinOk (v : Win) : Prop := 0 ≤ v.H ∧ v.H ≤ 9007199254740991 ∧ 0 ≤ v.B ∧ v.B < 4294967296

theorem TabAt.at_ {w : World} {t bw : Nat} {st : Nat → Win} {n : Int} (h : TabAt w t bw st n) (i : Nat) (hi : i < 17) :
    w.cell? ⟨bw, i * 3, none⟩ = some (.int .i64 (st i).A) ∧ w.cell? ⟨bw, i * 3 + 1, none⟩ = some (.int .i64 (st i).H) ∧ w.cell? ⟨bw, i * 3 + 2, none⟩ = some (.int .u32 (st i).B) ∧
    w.frozen? ⟨bw, i * 3, none⟩ = false ∧ w.frozen? ⟨bw, i * 3 + 1, none⟩ = false ∧ w.frozen? ⟨bw, i * 3 + 2, none⟩ = false :=
  ⟨h.rows.cell (i * 3) (flat_get (k := 3) (n := 17) (winCell st) (i := i) (j := 0) (by omega) (by omega)),
   h.rows.cell (i * 3 + 1) (flat_get (k := 3) (n := 17) (winCell st) (i := i) (j := 1) (by omega) (by omega)),
   h.rows.cell (i * 3 + 2) (flat_get (k := 3) (n := 17) (winCell st) (i := i) (j := 2) (by omega) (by omega)), h.rows.free _, h.rows.free _, h.rows.free _⟩

theorem ask_any {t bw : Nat} {st : Nat → Win} {n : Int} {w : World} (h : TabAt w t bw st n) (a s : Int) (h1 : 1 ≤ a) (h2 : a ≤ 16) (h3 : 1 ≤ s) (h4 : s ≤ 9007199254740991)
    (hH : ∀ i, WinOk (st i)) :
    Calls Try.prog 10 #[.pointer (some ⟨t, 0, none⟩), .int .i64 a, .int .i64 s] w fun e w' =>
      e = .returned (.tuple #[.int .i64 (whatI (st a.toNat).H (st a.toNat).B s), .int .i64 0]) ∧ TabAt w' t bw st (wrap64 (n + 1)) ∧ Upd [t] w w' := by
  have c0 := h.head.cell 0 rfl
  have c1 := h.head.cell 1 rfl
  have f1 := h.head.free 1
  obtain ⟨i, rfl⟩ := Int.eq_ofNat_of_zero_le (show 0 ≤ a by omega)
  obtain ⟨r0, r1, r2, _, _, _⟩ := h.at_ i (by omega)
  obtain ⟨b1, b2, b3, b4⟩ := hH i
  have hne := h.ne
  go_enter Try.func10, Try.ntmps10
  go_wp2_with (first
    | (go_at_call 22; refine (none_no h).mono ?_; rintro e w' ⟨rfl, rfl⟩)
    | (go_at_call 23; refine (may_yes _ _ _ h1 h2 h3 h4).mono ?_; rintro e w' ⟨rfl, rfl⟩)
    | (go_at_call 24; refine (add_one t 1 n _ c1 f1).mono ?_; rintro e w' ⟨rfl, rfl⟩)
    | (go_at_call 25; refine (what_any _ _ _ _ _ b1 b2 h3 h4 b3 b4).mono ?_; rintro e w' ⟨rfl, hu⟩))
  go_ret2
  refine ⟨rfl, ⟨?_, ?_, hne⟩, ?_⟩
  · exact (h.head.set 1 _).upd_nil hu
  · exact (h.rows.set_ne _ (Ne.symm hne) _).upd_nil hu
  · exact ((Upd.refl _ _).setCell (Or.inl (by simp)) _).trans_nil hu

theorem done_old {t bw : Nat} {st : Nat → Win} {n : Int} {w : World} (h : TabAt w t bw st n) (a s : Int) (h1 : 1 ≤ a) (h2 : a ≤ 16) (h3 : 1 ≤ s) (h4 : s ≤ 9007199254740991)
    (hH : ∀ i, WinOk (st i)) (hw : (whatI (st a.toNat).H (st a.toNat).B s != 0) = true) :
    Calls Try.prog 11 #[.pointer (some ⟨t, 0, none⟩), .int .i64 a, .int .i64 s] w fun e w' =>
      e = .returned (.int .i64 0) ∧ TabAt w' t bw st n ∧ Upd [] w w' := by
  have c0 := h.head.cell 0 rfl
  obtain ⟨i, rfl⟩ := Int.eq_ofNat_of_zero_le (show 0 ≤ a by omega)
  obtain ⟨r0, r1, r2, _, _, _⟩ := h.at_ i (by omega)
  obtain ⟨b1, b2, b3, b4⟩ := hH i
  rw [Int.toNat_natCast] at hw
  go_enter Try.func11, Try.ntmps11
  go_wp2_with (first
    | (go_at_call 22; refine (none_no h).mono ?_; rintro e w' ⟨rfl, rfl⟩)
    | (go_at_call 23; refine (may_yes _ _ _ h1 h2 h3 h4).mono ?_; rintro e w' ⟨rfl, rfl⟩)
    | (go_at_call 25; refine (what_any _ _ _ _ _ b1 b2 h3 h4 b3 b4).mono ?_; rintro e w' ⟨rfl, hu⟩))
  go_ret
  exact ⟨rfl, h.upd hu (by simp) (by simp), hu⟩

def setW (st : Nat → Win) (i : Nat) (v : Win) : Nat → Win := fun j => if j = i then v else st j

/-- What Done makes of a window, of a number that is fresh. -/
def doneW (v : Win) (a s : Int) : Win :=
  if 0 < s - v.H then ⟨a, s, bits BinOp.or IntKind.u32 (shl32 v.B (s - v.H)) 1⟩ else ⟨a, v.H, bits BinOp.or IntKind.u32 v.B (shl32 1 (v.H - s))⟩

theorem shl32_far (x c : Int) (h : 32 ≤ c) : shl32 x c = 0 := by
  unfold shl32
  rw [IntKind.wrap_u32, show min c.toNat 32 = 32 by omega]
  omega

theorem shl32_one (c : Int) : shl32 1 c = 2 ^ min c.toNat 32 % 4294967296 := by
  unfold shl32; rw [IntKind.wrap_u32, Int.one_mul]

theorem rows_three (st : Nat → Win) (i : Nat) (x y z z' : Int) :
    ((((flat 3 17 (winCell st)).set (i * 3) (.int .i64 x)).set (i * 3 + 1) (.int .i64 y)).set (i * 3 + 2) (.int .u32 z')).set (i * 3 + 2) (.int .u32 z) = flat 3 17 (winCell (setW st i ⟨x, y, z⟩)) := by
  have e0 := flat_set (k := 3) (n := 17) (winCell st) (i := i) (j := 0) (by omega) (.int .i64 x)
  rw [Nat.add_zero] at e0
  rw [e0, flat_set _ (by omega), flat_set _ (by omega), flat_set _ (by omega)]
  apply flat_congr
  intro i' j' _ hj
  by_cases hi : i' = i
  · subst hi
    match j', hj with
    | 0, _ => simp [put2, winCell, setW]
    | 1, _ => simp [put2, winCell, setW]
    | 2, _ => simp [put2, winCell, setW]
  · simp [put2, winCell, setW, hi]

theorem rows_two (st : Nat → Win) (i : Nat) (x z : Int) :
    (((flat 3 17 (winCell st)).set (i * 3) (.int .i64 x)).set (i * 3 + 2) (.int .u32 z)) = flat 3 17 (winCell (setW st i ⟨x, (st i).H, z⟩)) := by
  have e0 := flat_set (k := 3) (n := 17) (winCell st) (i := i) (j := 0) (by omega) (.int .i64 x)
  rw [Nat.add_zero] at e0
  rw [e0, flat_set _ (by omega)]
  apply flat_congr
  intro i' j' _ hj
  by_cases hi : i' = i
  · subst hi
    match j', hj with
    | 0, _ => simp [put2, winCell, setW]
    | 1, _ => simp [put2, winCell, setW]
    | 2, _ => simp [put2, winCell, setW]
  · simp [put2, winCell, setW, hi]

theorem done_up {t bw : Nat} {st : Nat → Win} {n : Int} {w : World} (h : TabAt w t bw st n) (a s : Int) (h1 : 1 ≤ a) (h2 : a ≤ 16) (h3 : 1 ≤ s) (h4 : s ≤ 9007199254740991)
    (hH : ∀ i, WinOk (st i)) (hw : (whatI (st a.toNat).H (st a.toNat).B s != 0) = false) (hup : 0 < s - (st a.toNat).H) :
    Calls Try.prog 11 #[.pointer (some ⟨t, 0, none⟩), .int .i64 a, .int .i64 s] w fun e w' =>
      e = .returned (.int .i64 0) ∧ TabAt w' t bw (setW st a.toNat (doneW (st a.toNat) a s)) n ∧ Upd [bw] w w' := by
  have c0 := h.head.cell 0 rfl
  obtain ⟨i, rfl⟩ := Int.eq_ofNat_of_zero_le (show 0 ≤ a by omega)
  obtain ⟨r0, r1, r2, _, _, _⟩ := h.at_ i (by omega)
  obtain ⟨b1, b2, b3, b4⟩ := hH i
  rw [Int.toNat_natCast] at hw hup ⊢
  have hs1 := fun w => run_shl32 Try.prog (st i).B 63 .i64 (by omega) w
  have hs2 := fun w => run_shl32 Try.prog (st i).B (s - (st i).H) .i64 (by omega) w
  have hs3 := fun w => run_shl32 Try.prog 1 0 .i64 (by omega) w
  by_cases h63 : 63 < s - (st i).H
  all_goals
    go_enter Try.func11, Try.ntmps11
    go_wp2_with (first
      | (go_at_call 22; refine (none_no h).mono ?_; rintro e w' ⟨rfl, rfl⟩)
      | (go_at_call 23; refine (may_yes _ _ _ h1 h2 h3 h4).mono ?_; rintro e w' ⟨rfl, rfl⟩)
      | (go_at_call 25; refine (what_any _ _ _ _ _ b1 b2 h3 h4 b3 b4).mono ?_; rintro e w' ⟨rfl, hu⟩; obtain ⟨k0, k1, k2, k3, k4, k5⟩ := (h.upd hu (by simp) (by simp)).at_ i (by omega); clear r0 r1 r2))
    go_region
    go_wp2
    go_region
    go_wp2
    go_ret
    refine ⟨rfl, ⟨?_, ?_, h.ne⟩, ?_⟩
  · exact ((((((h.head.upd_nil hu).set_ne _ h.ne _).set_ne _ h.ne _).set_ne _ h.ne _).set_ne _ h.ne _).drew).drew
  · have hb := ((((((h.rows.upd_nil hu).set (i * 3) (.int .i64 i)).set (i * 3 + 1) (.int .i64 s)).set (i * 3 + 2) (.int .u32 0)).set (i * 3 + 2) (.int .u32 (bits BinOp.or IntKind.u32 0 1))).drew).drew
    rw [rows_three] at hb
    unfold doneW
    rw [if_pos hup, shl32_far _ _ (by omega)]
    exact hb
  · exact ((((((Upd.refl _ _).trans_nil hu).setCell (Or.inl (by simp)) _).setCell (Or.inl (by simp)) _).setCell (Or.inl (by simp)) _).setCell (Or.inl (by simp)) _).drew.drew
  · exact ((((((h.head.upd_nil hu).set_ne _ h.ne _).set_ne _ h.ne _).set_ne _ h.ne _).set_ne _ h.ne _).drew).drew
  · have hb := ((((((h.rows.upd_nil hu).set (i * 3) (.int .i64 i)).set (i * 3 + 1) (.int .i64 s)).set (i * 3 + 2) (.int .u32 (shl32 (st i).B (s - (st i).H)))).set (i * 3 + 2) (.int .u32 (bits BinOp.or IntKind.u32 (shl32 (st i).B (s - (st i).H)) 1))).drew).drew
    rw [rows_three] at hb
    unfold doneW
    rw [if_pos hup]
    exact hb
  · exact ((((((Upd.refl _ _).trans_nil hu).setCell (Or.inl (by simp)) _).setCell (Or.inl (by simp)) _).setCell (Or.inl (by simp)) _).setCell (Or.inl (by simp)) _).drew.drew

theorem done_low {t bw : Nat} {st : Nat → Win} {n : Int} {w : World} (h : TabAt w t bw st n) (a s : Int) (h1 : 1 ≤ a) (h2 : a ≤ 16) (h3 : 1 ≤ s) (h4 : s ≤ 9007199254740991)
    (hH : ∀ i, WinOk (st i)) (hw : (whatI (st a.toNat).H (st a.toNat).B s != 0) = false) (hup : ¬ 0 < s - (st a.toNat).H) :
    Calls Try.prog 11 #[.pointer (some ⟨t, 0, none⟩), .int .i64 a, .int .i64 s] w fun e w' =>
      e = .returned (.int .i64 0) ∧ TabAt w' t bw (setW st a.toNat (doneW (st a.toNat) a s)) n ∧ Upd [bw] w w' := by
  have c0 := h.head.cell 0 rfl
  obtain ⟨i, rfl⟩ := Int.eq_ofNat_of_zero_le (show 0 ≤ a by omega)
  obtain ⟨r0, r1, r2, _, _, _⟩ := h.at_ i (by omega)
  obtain ⟨b1, b2, b3, b4⟩ := hH i
  rw [Int.toNat_natCast] at hw hup ⊢
  have hs3 := fun w => run_shl32 Try.prog 1 ((st i).H - s) .i64 (by omega) w
  go_enter Try.func11, Try.ntmps11
  go_wp2_with (first
    | (go_at_call 22; refine (none_no h).mono ?_; rintro e w' ⟨rfl, rfl⟩)
    | (go_at_call 23; refine (may_yes _ _ _ h1 h2 h3 h4).mono ?_; rintro e w' ⟨rfl, rfl⟩)
    | (go_at_call 25; refine (what_any _ _ _ _ _ b1 b2 h3 h4 b3 b4).mono ?_; rintro e w' ⟨rfl, hu⟩; obtain ⟨k0, k1, k2, k3, k4, k5⟩ := (h.upd hu (by simp) (by simp)).at_ i (by omega); clear r0 r1 r2))
  go_region
  go_wp2
  go_ret
  refine ⟨rfl, ⟨?_, ?_, h.ne⟩, ?_⟩
  · exact (((h.head.upd_nil hu).set_ne _ h.ne _).set_ne _ h.ne _).drew
  · have hb := (((h.rows.upd_nil hu).set (i * 3) (.int .i64 i)).set (i * 3 + 2) (.int .u32 (bits BinOp.or IntKind.u32 (st i).B (shl32 1 ((st i).H - s))))).drew
    rw [rows_two] at hb
    unfold doneW
    rw [if_neg (by omega)]
    rw [shl32_one] at hb ⊢
    exact hb
  · exact ((((Upd.refl _ _).trans_nil hu).setCell (Or.inl (by simp)) _).setCell (Or.inl (by simp)) _).drew

def doneV (v : Win) (a s : Int) : Win := if whatI v.H v.B s = 0 then doneW v a s else v

theorem setW_same (st : Nat → Win) (i : Nat) : setW st i (st i) = st := by
  funext j; unfold setW; split <;> simp_all

theorem done_any {t bw : Nat} {st : Nat → Win} {n : Int} {w : World} (h : TabAt w t bw st n) (a s : Int) (h1 : 1 ≤ a) (h2 : a ≤ 16) (h3 : 1 ≤ s) (h4 : s ≤ 9007199254740991)
    (hH : ∀ i, WinOk (st i)) :
    Calls Try.prog 11 #[.pointer (some ⟨t, 0, none⟩), .int .i64 a, .int .i64 s] w fun e w' =>
      e = .returned (.int .i64 0) ∧ TabAt w' t bw (setW st a.toNat (doneV (st a.toNat) a s)) n ∧ Upd [bw] w w' := by
  unfold doneV
  by_cases hw : whatI (st a.toNat).H (st a.toNat).B s = 0
  · rw [if_pos hw]
    by_cases hup : 0 < s - (st a.toNat).H
    · exact done_up h a s h1 h2 h3 h4 hH (by simp [hw]) hup
    · exact done_low h a s h1 h2 h3 h4 hH (by simp [hw]) hup
  · rw [if_neg hw, setW_same]
    exact (done_old h a s h1 h2 h3 h4 hH (by simp [hw])).mono fun e w' ⟨h1, h2, h3⟩ => ⟨h1, h2, h3.mono (by simp)⟩

theorem done_err {t bw : Nat} {st : Nat → Win} {n : Int} {w : World} (h : TabAt w t bw st n) (a s : Int) (hm : mayB a s = false) :
    Calls Try.prog 11 #[.pointer (some ⟨t, 0, none⟩), .int .i64 a, .int .i64 s] w fun e w' => e = .returned (.int .i64 2) ∧ w = w' := by
  go_enter Try.func11, Try.ntmps11
  go_wp2_with (first
    | (go_at_call 22; refine (none_no h).mono ?_; rintro e w' ⟨rfl, rfl⟩)
    | (go_at_call 23; refine (may_any _ _ _).mono ?_; rintro e w' ⟨rfl, rfl⟩))
  go_ret
  exact ⟨rfl, rfl⟩

theorem ask_err {t bw : Nat} {st : Nat → Win} {n : Int} {w : World} (h : TabAt w t bw st n) (a s : Int) (hm : mayB a s = false) :
    Calls Try.prog 10 #[.pointer (some ⟨t, 0, none⟩), .int .i64 a, .int .i64 s] w fun e w' => e = .returned (.tuple #[.int .i64 0, .int .i64 2]) ∧ w = w' := by
  go_enter Try.func10, Try.ntmps10
  go_wp2_with (first
    | (go_at_call 22; refine (none_no h).mono ?_; rintro e w' ⟨rfl, rfl⟩)
    | (go_at_call 23; refine (may_any _ _ _).mono ?_; rintro e w' ⟨rfl, rfl⟩))
  go_ret2
  exact ⟨rfl, rfl⟩

end Go.Proofs.Ytpgilkemcaipiaa
