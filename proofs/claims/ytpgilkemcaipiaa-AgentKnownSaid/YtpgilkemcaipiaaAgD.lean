/- agent.Of: a table of windows. -/
import Derived.Test.YtpgilkemcaipiaaAgAl
import Derived.Test.YtpgilkemcaipiaaShelf
namespace Go.Proofs.Ytpgilkemcaipiaa
open Go.RowKit

/-- A window's numbers fit their kinds. -/
def WinFit (v : Win) : Prop := -9223372036854775808 ≤ v.A ∧ v.A ≤ 9223372036854775807 ∧ -9223372036854775808 ≤ v.H ∧ v.H ≤ 9223372036854775807 ∧ 0 ≤ v.B ∧ v.B ≤ 4294967295

/-- A slice of windows, that is only read. -/
def WinsAt (w : World) (B : Nat) (p : Option Addr) (ws : List Win) : Prop :=
  ∀ i v, ws[i]? = some v → WinFit v ∧ ∃ b off, p = some ⟨b, off, none⟩ ∧ b < B ∧ w.cell? ⟨b, off + i * 3, none⟩ = some (.int .i64 v.A) ∧ w.cell? ⟨b, off + i * 3 + 1, none⟩ = some (.int .i64 v.H) ∧ w.cell? ⟨b, off + i * 3 + 2, none⟩ = some (.int .u32 v.B)
theorem WinsAt.upd {w w' : World} {B : Nat} {p : Option Addr} {ws : List Win} (h : WinsAt w B p ws) (hB : B ≤ w.heap.size) {bs : List Nat} (u : Upd bs w w') (hn : ∀ x ∈ bs, B ≤ x) : WinsAt w' B p ws := by
  intro i v hi
  obtain ⟨hf, b, off, h1, h2, h3, h4, h5⟩ := h i v hi
  have hb : b ∉ bs := fun hm => by have := hn b hm; omega
  exact ⟨hf, b, off, h1, h2, by rw [u.cell (by show b < _; omega) hb]; exact h3, by rw [u.cell (by show b < _; omega) hb]; exact h4, by rw [u.cell (by show b < _; omega) hb]; exact h5⟩

def lenOf (B : Int) : Int := Lib.bitLen B.toNat
/-- May a window stand behind one of agent 'last'? -/
def winGood (v : Win) (last : Int) : Bool :=
  mayB v.A v.H && !decide (v.A ≤ last) && !(bits BinOp.and IntKind.u32 v.B 1 == 0) && !decide (v.H - (lenOf v.B - 1) < 1)

def ofTo (ws : List Win) : Nat → Option (Int × (Nat → Win))
  | 0 => some (0, fun _ => Win.zero)
  | k + 1 => match ofTo ws k with
    | none => none
    | some (last, st) => match ws[k]? with
      | none => none
      | some v => if winGood v last then some (v.A, setW st v.A.toNat v) else none

theorem ofTo_bad (ws : List Win) (k : Nat) (h : ofTo ws k = none) : ∀ n, k ≤ n → ofTo ws n = none := by
  intro n hn
  induction n with
  | zero => rw [show k = 0 by omega] at h; exact h
  | succ n ih =>
    by_cases e : k = n + 1
    · rw [← e]; exact h
    · unfold ofTo; rw [ih (by omega)]

theorem len_bd (B : Int) (h0 : 0 ≤ B) (h1 : B ≤ 4294967295) : 0 ≤ lenOf B ∧ lenOf B ≤ 32 := by
  unfold lenOf
  have := Lib.bitLen_le B.toNat 32 (by omega) (by omega)
  omega

theorem ofTo_stop {ws : List Win} {k : Nat} {last : Int} {st : Nat → Win} {v : Win} (h : ofTo ws k = some (last, st)) (hv : ws[k]? = some v) (hg : winGood v last = false) : ofTo ws (k + 1) = none := by
  unfold ofTo; rw [h]; simp only; rw [hv]; simp [hg]
theorem ofTo_go {ws : List Win} {k : Nat} {last : Int} {st : Nat → Win} {v : Win} (h : ofTo ws k = some (last, st)) (hv : ws[k]? = some v) (hg : winGood v last = true) : ofTo ws (k + 1) = some (v.A, setW st v.A.toNat v) := by
  unfold ofTo; rw [h]; simp only; rw [hv]; simp [hg]

/-- What Of comes to: nil and an error, or a new table from block B on. -/
def OfPost (ws : List Win) (B : Nat) (e : Ending) (w' : World) : Prop :=
  match ofTo ws ws.length with
  | none => e = .returned (.tuple #[.pointer none, .int .i64 2])
  | some (_, st) => ∃ t bw, B ≤ t ∧ B ≤ bw ∧ e = .returned (.tuple #[.pointer (some ⟨t, 0, none⟩), .int .i64 0]) ∧ TabAt w' t bw st 0
theorem OfPost.bad {ws : List Win} {B : Nat} {w' : World} (h : ofTo ws ws.length = none) : OfPost ws B (.returned (.tuple #[.pointer none, .int .i64 2])) w' := by
  unfold OfPost; rw [h]
theorem OfPost.good {ws : List Win} {B : Nat} {w' : World} {last : Int} {st : Nat → Win} {t bw : Nat} (h : ofTo ws ws.length = some (last, st)) (h1 : B ≤ t) (h2 : B ≤ bw) (ht : TabAt w' t bw st 0) :
    OfPost ws B (.returned (.tuple #[.pointer (some ⟨t, 0, none⟩), .int .i64 0])) w' := by
  unfold OfPost; rw [h]; exact ⟨t, bw, h1, h2, rfl, ht⟩

theorem rows_all (st : Nat → Win) (i : Nat) (v : Win) :
    ((((flat 3 17 (winCell st)).set (i * 3) (.int .i64 v.A)).set (i * 3 + 1) (.int .i64 v.H)).set (i * 3 + 2) (.int .u32 v.B)) = flat 3 17 (winCell (setW st i v)) := by
  have := rows_three st i v.A v.H v.B 0
  rwa [List.set_set] at this

set_option maxHeartbeats 4000000 in
set_option maxRecDepth 100000 in
theorem of_any (p : Option Addr) (cap : Nat) (ws : List Win) (w : World) (hl : WinsAt w w.heap.size p ws) (hlen : ws.length ≤ 9223372036854775807) :
    Calls Try.prog 14 #[.slice p ws.length cap] w fun e w' => OfPost ws w.heap.size e w' ∧ Upd [] w w' := by
  go_enter Try.func14, Try.ntmps14
  go_wp2_with fail
  refine (new_any _).mono ?_
  rintro e w1 ⟨rfl, ht1, hu1⟩
  have hz1 := ht1.head.lt
  go_wp2_with fail
  go_loopw [5, 11] (fun lv kv wr => ∃ (k : Nat) (last : Int) (st : Nat → Win), k ≤ ws.length ∧ kv = .int .i64 k ∧ lv = .int .i64 last ∧ ofTo ws k = some (last, st) ∧ TabAt wr (w.heap.size + 1) w.heap.size st 0 ∧ Upd [] w wr)
    (fun _ kv _ => ws.length - (intOf kv).toNat)
  case atStart => exact ⟨0, 0, fun _ => Win.zero, by omega, rfl, rfl, rfl, ht1, hu1⟩
  case round =>
    obtain ⟨k, last, st, hk, rfl, rfl, hto, ht, hu⟩ := hrel
    have Hto := Lib.hid hto; clear hto
    by_cases hlt : k < ws.length
    · obtain ⟨v, hv⟩ : ∃ v, ws[k]? = some v := ⟨_, List.getElem?_eq_getElem hlt⟩
      obtain ⟨⟨f1, f2, f3, f4, f5, f6⟩, b, off, rfl, hb, c0, c1, c2⟩ := (hl.upd (Nat.le_refl _) hu (by simp)) k v hv
      have Hv := Lib.hid hv; clear hv
      have hwr := hu.size
      obtain ⟨l1, l2⟩ := len_bd v.B f5 f6
      have stop : winGood v last = false → ofTo ws ws.length = none := fun hg => ofTo_bad ws (k + 1) (ofTo_stop Hto.out Hv.out hg) _ hlt
      have Stop := Lib.hid stop; clear stop
      by_cases hm : mayB v.A v.H = true
      · obtain ⟨m1, m2, m3, m4⟩ := may_bd hm
        by_cases hA : v.A ≤ last
        · have dA : decide (v.A ≤ last) = true := by simpa using hA
          go_upto_region 5 with fail
          go_quiet ((go_at_call 23; exact Calls.quiet_of_same ((may_any _ _ _).mono fun e w' ⟨h1, h2⟩ => ⟨by rw [h1, hm], h2.symm⟩)))
          go_wp2_with fail
          go_ret2
          exact ⟨OfPost.bad (Stop.out (by simp [winGood, hA])), (hu.alloc _).of_drewN nq⟩
        · have dA : decide (v.A ≤ last) = false := by simpa using hA
          cases hB : bits BinOp.and IntKind.u32 v.B 1 == 0
          · by_cases hH : v.H - (lenOf v.B - 1) < 1
            · have dH : decide (v.H - (lenOf v.B - 1) < 1) = true := by simpa using hH
              go_upto_region 5 with fail
              go_quiet ((first | (go_at_call 23; exact Calls.quiet_of_same ((may_any _ _ _).mono fun e w' ⟨h1, h2⟩ => ⟨by rw [h1, hm], h2.symm⟩)) | (go_at_call 27; exact Calls.quiet_of_same ((Try.bits_Len32 v.B _ f5 f6).mono fun e w' ⟨h1, h2⟩ => ⟨(show e = .returned (.int .i64 (lenOf v.B)) from h1), h2⟩))))
              go_wp2_with fail
              go_ret2
              exact ⟨OfPost.bad (Stop.out (by simp [winGood, hH])), (hu.alloc _).of_drewN nq⟩
            · have dH : decide (v.H - (lenOf v.B - 1) < 1) = false := by simpa using hH
              have hg : winGood v last = true := by simp [winGood, hm, hA, hH, hB]
              have Hg := Lib.hid hg; clear hg hA hH
              obtain ⟨A, H, B⟩ := v
              dsimp only at f1 f2 f3 f4 f5 f6 c0 c1 c2 l1 l2 hm m1 m2 m3 m4 dA hB dH
              obtain ⟨i, rfl⟩ := Int.eq_ofNat_of_zero_le (show 0 ≤ A by omega)
              obtain ⟨_, _, _, z0, z1, z2⟩ := ht.at_ i (by omega)
              have r0 := (ht.at_ i (by omega)).1
              have r1 := (ht.at_ i (by omega)).2.1
              have r2 := (ht.at_ i (by omega)).2.2.1
              have rh := ht.head.cell 0 rfl
              have hlr := ht.rows.lt
              have hlh := ht.head.lt
              go_upto_region 5 with fail
              go_quiet ((first | (go_at_call 23; exact Calls.quiet_of_same ((may_any _ _ _).mono fun e w' ⟨h1, h2⟩ => ⟨by rw [h1, hm], h2.symm⟩)) | (go_at_call 27; exact Calls.quiet_of_same ((Try.bits_Len32 B _ f5 f6).mono fun e w' ⟨h1, h2⟩ => ⟨(show e = .returned (.int .i64 (lenOf B)) from h1), h2⟩))))
              go_wp2_with fail
              go_region
              go_wp2_with fail
              refine ⟨⟨k + 1, i, setW st i ⟨i, H, B⟩, by omega, by go_num, rfl, by simpa using ofTo_go Hto.out Hv.out Hg.out, ⟨?_, ?_, ht.ne⟩, ?_⟩, by simp [intOf]; omega⟩
              · exact ((((ht.head.alloc _).of_drewN (nq + 1)).set_ne _ ht.ne _).set_ne _ ht.ne _).set_ne _ ht.ne _
              · have hb2 := ((((ht.rows.alloc (.cells #[.int .i64 (i : Int), .int .i64 H, .int .u32 B] 48)).of_drewN (nq + 1)).set (i * 3) (.int .i64 i)).set (i * 3 + 1) (.int .i64 H)).set (i * 3 + 2) (.int .u32 B)
                rw [rows_all st i ⟨i, H, B⟩] at hb2
                exact hb2
              · exact ((((hu.alloc _).of_drewN (nq + 1)).setCell (Or.inr (by simp)) _).setCell (Or.inr (by simp)) _).setCell (Or.inr (by simp)) _
          · go_upto_region 5 with fail
            go_quiet ((go_at_call 23; exact Calls.quiet_of_same ((may_any _ _ _).mono fun e w' ⟨h1, h2⟩ => ⟨by rw [h1, hm], h2.symm⟩)))
            go_wp2_with fail
            go_ret2
            exact ⟨OfPost.bad (Stop.out (by simp [winGood, hB])), (hu.alloc _).of_drewN nq⟩
      · have hm' : mayB v.A v.H = false := by simpa using hm
        go_upto_region 5 with fail
        go_quiet ((go_at_call 23; exact Calls.quiet_of_same ((may_any _ _ _).mono fun e w' ⟨h1, h2⟩ => ⟨by rw [h1, hm'], h2.symm⟩)))
        go_wp2_with fail
        go_ret2
        exact ⟨OfPost.bad (Stop.out (by simp [winGood, hm'])), (hu.alloc _).of_drewN nq⟩
    · obtain rfl : k = ws.length := by omega
      go_wp2_with fail
      go_ret2
      exact ⟨OfPost.good Hto.out (by omega) (by omega) ht, hu⟩

end Go.Proofs.Ytpgilkemcaipiaa
