/- The road: Double, Turn. -/
import Derived.Test.YtceeekdephgcmaaRdC
namespace Go.Proofs.Ytceeekdephgcmaa
open Go.RowKit

set_option maxRecDepth 100000 in
theorem double_no {w : World} {r : Nat} {pv : Value} {l : List Pk} {n : Int} (hR : RoadAt w r pv l n) (hl : l.length ≤ 1024) (i : Int) (hi : i < 0 ∨ (l.length : Int) ≤ i) :
    Calls Try.prog 11 #[.pointer (some ⟨r, 0, none⟩), .int .i64 i] w fun e w' => e = .returned (.int .i64 9) ∧ w = w' := by
  have hat := atCode_no hi
  go_enter Try.func11, Try.ntmps11
  go_wp2_with (go_at_call 24; refine (at_any hR i hl).mono ?_; rw [hat]; rintro e w' ⟨rfl, rfl⟩)
  go_ret
  exact ⟨rfl, rfl⟩

set_option maxRecDepth 100000 in
theorem double_full {w : World} {r : Nat} {pv : Value} {l : List Pk} {n : Int} (hR : RoadAt w r pv l n) (hl : l.length = 1024) (i : Nat) (hi : i < 1024) :
    Calls Try.prog 11 #[.pointer (some ⟨r, 0, none⟩), .int .i64 i] w fun e w' => e = .returned (.int .i64 7) ∧ Upd [] w w' := by
  have hat := atCode_yes (show i < l.length by omega)
  obtain ⟨p, hp⟩ : ∃ p, l[i]? = some p := ⟨_, List.getElem?_eq_getElem (by omega)⟩
  obtain ⟨A, up, dv, xs⟩ := p
  obtain ⟨g, cap, rfl, a0, a1, a2, _⟩ := hR.rows.at_ hp
  dsimp only at a0 a1 a2
  have c1 := hR.head.cell 1 rfl
  go_enter Try.func11, Try.ntmps11
  go_wp2_with (first
    | (go_at_call 24; refine (at_any hR i (by omega)).mono ?_; rw [hat]; rintro e w' ⟨rfl, rfl⟩)
    | (go_at_call 23; refine (put_full hR A up dv (by omega) (by omega)).mono ?_; rintro e w3 ⟨rfl, hu3⟩))
  go_ret
  exact ⟨rfl, hu3⟩

set_option maxRecDepth 100000 in
theorem double_yes {w : World} {r : Nat} {pv : Value} {l : List Pk} {n : Int} (hR : RoadAt w r pv l n) (hl : l.length < 1024) (i : Nat) (p : Pk) (hp : l[i]? = some p) (hx : p.xs.length ≤ 16384) :
    Calls Try.prog 11 #[.pointer (some ⟨r, 0, none⟩), .int .i64 i] w fun e w' =>
      e = .returned (.int .i64 0) ∧ (∃ pv' dv', RoadAt w' r pv' (l ++ [⟨p.A, p.up, dv', p.xs⟩]) n ∧ ∀ k ∈ footR r pv' (l ++ [⟨p.A, p.up, dv', p.xs⟩]), k ∈ footR r pv l ∨ w.heap.size ≤ k) ∧ Upd (footR r pv l) w w' := by
  have hi : i < l.length := (List.getElem?_eq_some_iff.1 hp).1
  have hat := atCode_yes hi
  have hb := (hR.rows.data p (List.mem_of_getElem? hp)).at_
  obtain ⟨A, up, dv, xs⟩ := p
  obtain ⟨g, cap, rfl, a0, a1, a2, _⟩ := hR.rows.at_ hp
  dsimp only at a0 a1 a2 hb hx ⊢
  have c1 := hR.head.cell 1 rfl
  go_enter Try.func11, Try.ntmps11
  go_wp2_with (first
    | (go_at_call 24; refine (at_any hR i (by omega)).mono ?_; rw [hat]; rintro e w' ⟨rfl, rfl⟩)
    | (go_at_call 23; refine (put_any hR A up dv xs hb hx hl).mono ?_; rintro e w3 ⟨rfl, hput⟩))
  go_ret
  exact ⟨rfl, hput⟩

def xorB (x y : Int) : Int := bits BinOp.xor IntKind.u8 x y
theorem xorB_bd (x y : Int) : 0 ≤ xorB x y ∧ xorB x y ≤ 255 := by
  unfold xorB bits
  simp only [IntKind.wrap_u8]
  omega

theorem u8s_set (xs : List Int) (j : Nat) (x : Int) : (u8s xs).set j (.int .u8 x) = u8s (xs.set j x) := by
  unfold u8s; rw [List.map_set]

theorem sep_at {l : List Pk} (h : l.Pairwise fun p q => ∀ k, p.dv.ownBlock = some k → q.dv.ownBlock ≠ some k) {i j : Nat} {p q : Pk} (hi : l[i]? = some p) (hj : l[j]? = some q) (hne : i ≠ j) {k : Nat} (hk : p.dv.ownBlock = some k) : q.dv.ownBlock ≠ some k := by
  obtain ⟨hi', hi2⟩ := List.getElem?_eq_some_iff.1 hi
  obtain ⟨hj', hj2⟩ := List.getElem?_eq_some_iff.1 hj
  rw [List.pairwise_iff_getElem] at h
  rcases Nat.lt_or_gt_of_ne hne with hlt | hgt
  · have := h i j hi' hj' hlt k
    rw [hi2, hj2] at this
    exact this hk
  · intro hq
    have := h j i hj' hi' hgt k
    rw [hi2, hj2] at this
    exact this hq hk

theorem pkVals_same (l : List Pk) (i : Nat) (p q : Pk) (h : l[i]? = some p) (h1 : q.A = p.A) (h2 : q.up = p.up) (h3 : q.dv = p.dv) : pkVals (l.set i q) = pkVals l := by
  induction l generalizing i with
  | nil => rfl
  | cons a l ih =>
    cases i with
    | zero => simp at h; subst h; rw [List.set_cons_zero, pkVals_cons, pkVals_cons, h1, h2, h3]
    | succ i => rw [List.set_cons_succ, pkVals_cons, pkVals_cons, ih i (by simpa using h)]

/-- One byte of one packet is another one. -/
theorem RowAt.turned {w : World} {T : TypeId} {l : List Pk} {pv : Value} (h : RowAt w T pv l) (hT : T ≠ 5) {i : Nat} {p : Pk} (hp : l[i]? = some p) {d cap : Nat} (hd : p.dv = .slice (some ⟨d, 0, none⟩) p.xs.length cap) (j : Nat) (x : Int) (hx : 0 ≤ x ∧ x ≤ 255) :
    RowAt (w.setCell ⟨d, j, none⟩ (.int .u8 x)) T pv (l.set i { p with xs := p.xs.set j x }) := by
  have us : Upd [d] w (w.setCell ⟨d, j, none⟩ (.int .u8 x)) := (Upd.refl _ _).setCell (Or.inl (by simp)) _
  have hpm := List.mem_of_getElem? hp
  have hi : i < l.length := (List.getElem?_eq_some_iff.1 hp).1
  have hown := (h.data p hpm).own
  have hdb : p.dv.ownBlock = some d := by rw [hd]; rfl
  have hget : ∀ a q, (l.set i { p with xs := p.xs.set j x })[a]? = some q → (a = i ∧ q = { p with xs := p.xs.set j x }) ∨ (a ≠ i ∧ l[a]? = some q) := fun a q hq => by
    rw [List.getElem?_set] at hq
    by_cases e : i = a
    · subst e
      rw [if_pos rfl, if_pos hi] at hq
      exact .inl ⟨rfl, (Option.some.inj hq).symm⟩
    · rw [if_neg e] at hq
      exact .inr ⟨fun h => e h.symm, hq⟩
  refine ⟨?_, fun q hq => ?_, ?_⟩
  · have hv : pkVals (l.set i { p with xs := p.xs.set j x }) = pkVals l := pkVals_same l i p _ hp rfl rfl rfl
    rw [hv, List.length_set]
    exact own_frame h.row us (fun k hk hm => by simp at hm; subst hm; exact own_type h.row hown hT hk hdb)
  · obtain ⟨a, ha⟩ := List.getElem?_of_mem hq
    rcases hget a q ha with ⟨_, rfl⟩ | ⟨hne, hq'⟩
    · refine ⟨?_, fun y hy => ?_⟩
      · dsimp only
        rw [hd] at hown ⊢
        rw [← u8s_set, List.length_set]
        exact (hown.stored j (.int .u8 x)).1
      · dsimp only at hy
        rcases List.mem_or_eq_of_mem_set hy with hy | rfl
        · exact (h.data p hpm).bd y hy
        · exact hx
    · exact (h.data q (List.mem_of_getElem? hq')).frame us (fun k hk hm => by
        simp at hm; subst hm
        exact sep_at h.sep hp hq' (fun e => hne e.symm) hdb hk)
  · have hm : (l.set i { p with xs := p.xs.set j x }).map (fun q => q.dv.ownBlock) = l.map (fun q => q.dv.ownBlock) := by
      apply List.ext_getElem?
      intro a
      rw [List.getElem?_map, List.getElem?_map, List.getElem?_set]
      by_cases e : i = a
      · subst e; rw [if_pos rfl, if_pos hi, hp]; rfl
      · rw [if_neg e]
    have h1 : (l.map fun q => q.dv.ownBlock).Pairwise (fun a b => ∀ k, a = some k → b ≠ some k) := List.pairwise_map.2 h.sep
    rw [← hm] at h1
    exact List.pairwise_map.1 h1

set_option maxRecDepth 100000 in
theorem turn_no {w : World} {r : Nat} {pv : Value} {l : List Pk} {n : Int} (hR : RoadAt w r pv l n) (hl : l.length ≤ 1024) (i at_ by_ : Int) (hi : i < 0 ∨ (l.length : Int) ≤ i) :
    Calls Try.prog 12 #[.pointer (some ⟨r, 0, none⟩), .int .i64 i, .int .i64 at_, .int .u8 by_] w fun e w' => e = .returned (.int .i64 9) ∧ w = w' := by
  have hat := atCode_no hi
  go_enter Try.func12, Try.ntmps12
  go_wp2_with (go_at_call 24; refine (at_any hR i hl).mono ?_; rw [hat]; rintro e w' ⟨rfl, rfl⟩)
  go_ret
  exact ⟨rfl, rfl⟩

set_option maxRecDepth 100000 in
theorem turn_far {w : World} {r : Nat} {pv : Value} {l : List Pk} {n : Int} (hR : RoadAt w r pv l n) (hl : l.length ≤ 1024) (i : Nat) (p : Pk) (hp : l[i]? = some p) (at_ by_ : Int) (ha : at_ < 0 ∨ (p.xs.length : Int) ≤ at_) :
    Calls Try.prog 12 #[.pointer (some ⟨r, 0, none⟩), .int .i64 i, .int .i64 at_, .int .u8 by_] w fun e w' => e = .returned (.int .i64 9) ∧ w = w' := by
  have hi : i < l.length := (List.getElem?_eq_some_iff.1 hp).1
  have hat := atCode_yes hi
  obtain ⟨dp, dc, hdv⟩ := (hR.rows.data p (List.mem_of_getElem? hp)).form
  obtain ⟨g, cap, rfl, a0, a1, a2, _⟩ := hR.rows.at_ hp
  rw [hdv] at a2
  have c1 := hR.head.cell 1 rfl
  by_cases h0 : at_ < 0
  · go_enter Try.func12, Try.ntmps12
    go_wp2_with (go_at_call 24; refine (at_any hR i hl).mono ?_; rw [hat]; rintro e w' ⟨rfl, rfl⟩)
    go_ret
    exact ⟨rfl, rfl⟩
  · have h1 : (p.xs.length : Int) ≤ at_ := by omega
    go_enter Try.func12, Try.ntmps12
    go_wp2_with (go_at_call 24; refine (at_any hR i hl).mono ?_; rw [hat]; rintro e w' ⟨rfl, rfl⟩)
    go_ret
    exact ⟨rfl, rfl⟩

set_option maxRecDepth 100000 in
theorem turn_yes {w : World} {r : Nat} {pv : Value} {l : List Pk} {n : Int} (hR : RoadAt w r pv l n) (hl : l.length ≤ 1024) (i : Nat) (p : Pk) (hp : l[i]? = some p) (j : Nat) (by_ : Int) (x : Int) (hx : p.xs[j]? = some x) :
    Calls Try.prog 12 #[.pointer (some ⟨r, 0, none⟩), .int .i64 i, .int .i64 j, .int .u8 by_] w fun e w' =>
      e = .returned (.int .i64 0) ∧ RoadAt w' r pv (l.set i { p with xs := p.xs.set j (xorB x by_) }) n ∧ Upd (footR r pv l) w w' := by
  have hi : i < l.length := (List.getElem?_eq_some_iff.1 hp).1
  have hj : j < p.xs.length := (List.getElem?_eq_some_iff.1 hx).1
  have hat := atCode_yes hi
  have hpm := List.mem_of_getElem? hp
  have hown := (hR.rows.data p hpm).own
  obtain ⟨d, dc, hdv, _, _⟩ := hown.form (by omega)
  obtain ⟨g, cap, rfl, a0, a1, a2, _⟩ := hR.rows.at_ hp
  rw [hdv] at a2 hown
  have cx : w.cell? ⟨d, j, none⟩ = some (.int .u8 x) := by rw [hown.cellAt j (by omega)]; simp [u8s, hx]
  have fx := hown.frozenAt j
  have c1 := hR.head.cell 1 rfl
  go_enter Try.func12, Try.ntmps12
  go_wp2_with (go_at_call 24; refine (at_any hR i hl).mono ?_; rw [hat]; rintro e w' ⟨rfl, rfl⟩)
  go_ret
  have hdb : p.dv.ownBlock = some d := by rw [hdv]; rfl
  have us : Upd [d] w (w.setCell ⟨d, j, none⟩ (.int .u8 (xorB x by_))) := (Upd.refl _ _).setCell (Or.inl (by simp)) _
  refine ⟨rfl, ⟨hR.head.upd us (fun hm => ?_), hR.rows.turned (by decide) hp hdv j _ (xorB_bd _ _)⟩, us.mono (fun y hy => ?_)⟩
  · simp at hm; subst hm
    exact blk_type hR.head (hR.rows.data p hpm).own (by decide) hdb
  · simp at hy; subst hy
    simp [footR, foot_data hpm hdb]

end Go.Proofs.Ytceeekdephgcmaa
