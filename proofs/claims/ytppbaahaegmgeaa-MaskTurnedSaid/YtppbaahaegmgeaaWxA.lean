/- HMAC: the beginning of a knot by a key. -/
import Derived.Test.YtppbaahaegmgeaaKnF
import Derived.Test.YtppbaahaegmgeaaReh
import Derived.Laws.CopyOwn
namespace Go.Proofs.Ytppbaahaegmgeaa
open Go.RowKit

/-- A key of 64 bytes at most, filled up, each byte turned. -/
def keyB (ks : List Int) (add : Int) (i : Nat) : Int := bits BinOp.xor IntKind.u8 (ks.getD i 0) add
def padKey (ks : List Int) (add : Int) : List Int := (List.range 64).map (keyB ks add)
theorem padKey_len (ks : List Int) (add : Int) : (padKey ks add).length = 64 := by simp [padKey]
theorem keyB_bd (ks : List Int) (add : Int) (i : Nat) : 0 ≤ keyB ks add i ∧ keyB ks add i ≤ 255 := by
  have h1 := bits_lo_u8 .xor (ks.getD i 0) add
  have h2 := bits_hi_u8 .xor (ks.getD i 0) add
  unfold keyB
  omega
theorem padKey_rng (ks : List Int) (add : Int) : Rng (padKey ks add) := fun x hx => by
  obtain ⟨i, _, rfl⟩ := List.mem_map.1 hx
  exact keyB_bd ks add i

def row64 (f : Nat → Int) : List Value := row 64 fun i => .int .u8 (f i)
theorem row64_at (f : Nat → Int) {i : Nat} (h : i < 64) : (row64 f)[i]? = some (.int .u8 (f i)) := row_get _ h
theorem row64_bytes {w : World} {b : Nat} {f : Nat → Int} {T : TypeId} (h : Blk w b (row64 f) T) : ByAt w (some ⟨b, 0, none⟩) ((List.range 64).map f) :=
  ByAt.of_blk h (fun i x hx => by
    rw [List.getElem?_map] at hx
    have hi : i < 64 := by
      rcases Nat.lt_or_ge i 64 with h | h
      · exact h
      · rw [List.getElem?_eq_none (by simpa using h)] at hx; cases hx
    rw [List.getElem?_range hi] at hx
    cases hx
    rw [Nat.zero_add]; exact row64_at f hi)

/-- A key copied into 64 bytes 0. -/
theorem splice_key (ks : List Int) (h : ks.length ≤ 64) : splice (row64 fun _ => 0) 0 (u8s ks) = row64 fun i => ks.getD i 0 := by
  apply List.ext_getElem?
  intro i
  unfold splice
  rw [List.take_zero, List.nil_append, u8s_len, Nat.zero_add]
  by_cases h1 : i < ks.length
  · rw [List.getElem?_append_left (by rw [u8s_len]; exact h1), row64_at _ (by omega)]
    simp [u8s, List.getElem?_eq_getElem h1]
  · rw [List.getElem?_append_right (by rw [u8s_len]; omega), u8s_len, List.getElem?_drop, show ks.length + (i - ks.length) = i by omega]
    by_cases h2 : i < 64
    · rw [row64_at _ h2, row64_at _ h2, List.getD_eq_getElem?_getD, List.getElem?_eq_none (by omega)]; rfl
    · rw [List.getElem?_eq_none (by simp [row64, row]; omega), List.getElem?_eq_none (by simp [row64, row]; omega)]

theorem row64_step (f g : Nat → Int) (i : Nat) : (row64 fun j => if j < i then f j else g j).set i (.int .u8 (f i)) = row64 fun j => if j < i + 1 then f j else g j := by
  unfold row64
  rw [row_set]
  apply row_congr
  intro j _
  unfold put1
  by_cases h : j = i
  · subst h; simp
  · rw [if_neg h]
    dsimp only
    by_cases h2 : j < i
    · rw [if_pos h2, if_pos (by omega)]
    · rw [if_neg h2, if_neg (by omega)]
theorem row64_all (f g : Nat → Int) : (row64 fun j => if j < 64 then f j else g j) = row64 f := by
  unfold row64
  exact row_congr fun j hj => by dsimp only; rw [if_pos hj]

set_option maxHeartbeats 4000000 in
set_option maxRecDepth 100000 in
theorem begin_walk {w : World} {bx : Nat} {p : Option Addr} {ks : List Int} {c : Nat} (hb : Blk w bx [.slice p ks.length c] 26) (hk : ByAt w p ks) (hr : Rng ks) (hl : ks.length ≤ 64) (add : Int) (ha : 0 ≤ add ∧ add ≤ 255) :
    Calls Try.prog 42 #[.int .u8 add, .pointer (some ⟨bx, 0, none⟩)] w fun e w' => ∃ kb, e = .returned (.pointer (some ⟨kb, 0, none⟩)) ∧ w.heap.size ≤ kb ∧ Upd [] w w' ∧ KnotAt w' w.heap.size kb (padKey ks add) := by
  have hz : ∀ w : World, (zeroValue 67).run Try.prog w = .ok (.agg (row64 fun _ => 0).toArray) w := fun w => by kernel_rfl
  go_enter Try.func42, Try.ntmps42
  go_upto_region 2 with fail
  have u1 := (Upd.refl [] w).alloc (.cells (row64 fun _ => 0).toArray 67)
  have hT := Blk.new w (row64 fun _ => 0).toArray 67
  have hb1 := hb.alloc (.cells (row64 fun _ => 0).toArray 67)
  have hk1 := hk.upd_nil u1
  have hbl := hb.lt
  clear hz
  generalize w.alloc (.cells (row64 fun _ => 0).toArray 67) = W1 at *
  generalize hN : w.heap.size = N at *
  have hNl : w.heap.size ≤ N := by omega
  have HN := Lib.hid hN
  clear hN
  have b0 := hb1.cell 0 rfl
  refine wp_region_head 2 [(.eq (.slice (some ⟨N, 0, none⟩) 64 64)), (.eq (.slice p ks.length c))] [] (by kernel_rfl) (by kernel_rfl) (by kernel_rfl) rfl ?ne ?pre ?step ?fin
  case ne => intro x hx; cases hx
  case pre => intro x hx; cases hx
  case step =>
    intro i o him ho a w' hS hold hneed hun K' hK
    match i, him, ho with
    | 0, _, ho =>
      obtain rfl := Option.some.inj ho
      replace hneed := fun j hj => (hneed j hj).2
      replace hK := fun v w1 h u => hK v w1 h trivial u
      clear hun
      have d4 := hold 4 _ (by kernel_rfl) rfl
      clear hold hneed ho
      (go_simp; exact hK _ _ rfl (Upd.refl [] _))
    | 1, _, ho =>
      obtain rfl := Option.some.inj ho
      replace hneed := fun j hj => (hneed j hj).2
      replace hK := fun v w1 h u => hK v w1 h trivial u
      clear hun
      have d1 := hold 1 _ (by kernel_rfl) rfl
      clear hold hneed ho
      (have p0 := (hS.cell (a := ⟨bx, 0, none⟩) hb1.lt (by simp)).trans b0; go_simp; exact hK _ _ rfl (Upd.refl [] _))
    | _ + 2, him, _ => exact absurd him (by omega)
  case fin =>
    intro a w' hS hsz hdf hold hvals hposts hap
    have ha := act_lit hsz hdf (RowIs.cons (at_of_get (hold 0 _ (by kernel_rfl) rfl)) (RowIs.cons (at_of_get (hold 1 _ (by kernel_rfl) rfl)) (RowIs.cons (at_of_get (hold 2 _ (by kernel_rfl) rfl)) (RowIs.cons (at_of_get (hold 3 _ (by kernel_rfl) rfl)) (RowIs.cons (at_of_get (hold 4 _ (by kernel_rfl) rfl)) (RowIs.cons (at_of_get (hold 5 _ (by kernel_rfl) rfl)) (RowIs.cons (at_of_get (hold 6 _ (by kernel_rfl) rfl)) (RowIs.cons (hvals 0 7 (of_decide_eq_true (by kernel_rfl)) rfl) (RowIs.cons (hvals 1 8 (of_decide_eq_true (by kernel_rfl)) rfl) (RowIs.cons (at_of_get (hold 9 _ (by kernel_rfl) rfl)) (RowIs.cons (at_of_get (hold 10 _ (by kernel_rfl) rfl)) (RowIs.cons (at_of_get (hold 11 _ (by kernel_rfl) rfl)) (RowIs.cons (at_of_get (hold 12 _ (by kernel_rfl) rfl)) (RowIs.cons (at_of_get (hold 13 _ (by kernel_rfl) rfl)) (RowIs.cons (at_of_get (hold 14 _ (by kernel_rfl) rfl)) (RowIs.cons (at_of_get (hold 15 _ (by kernel_rfl) rfl)) (RowIs.cons (at_of_get (hold 16 _ (by kernel_rfl) rfl)) (RowIs.cons (at_of_get (hold 17 _ (by kernel_rfl) rfl)) (RowIs.cons (at_of_get (hold 18 _ (by kernel_rfl) rfl)) (RowIs.cons (at_of_get (hold 19 _ (by kernel_rfl) rfl)) (RowIs.cons (at_of_get (hold 20 _ (by kernel_rfl) rfl)) (RowIs.cons (at_of_get (hold 21 _ (by kernel_rfl) rfl)) (RowIs.cons (at_of_get (hold 22 _ (by kernel_rfl) rfl)) (RowIs.cons (at_of_get (hold 23 _ (by kernel_rfl) rfl)) (RowIs.cons (at_of_get (hold 24 _ (by kernel_rfl) rfl)) (RowIs.nil _ _)))))))))))))))))))))))))) rfl
    clear hsz hdf hold hvals hposts hap
    subst ha
    simp only [List.getElem_toArray, List.getElem_cons_succ, List.getElem_cons_zero, List.drop_succ_cons, List.drop_zero]
    have hT2 := hT.upd_nil hS
    have hk2 := hk1.upd_nil hS
    have u2 := u1.trans_nil hS
    have hNw : N ≤ w.heap.size := Nat.le_of_eq HN.out.symm
    have hwN : w.heap.size ≤ N := hNl
    obtain ⟨i0, hi0, hz0, hz1, hz2⟩ := info_parts info_u8
    obtain ⟨vs, hvs⟩ : ∃ vs, vs = u8s ks := ⟨_, rfl⟩
    have Hvs := Lib.hid hvs
    have hvl : vs.length = ks.length := by rw [hvs, u8s_len]
    have hv1 : ∀ u ∈ vs, u.oneCell' = true := by rw [hvs]; exact u8s_one ks
    have hsrc : 0 < vs.length → ∃ ad, p = some ad ∧ ∀ j v, vs[j]? = some v → w'.cell? (ad.add j) = some v := fun h0 => by
      rcases hk2.src with h | h
      · omega
      · rw [hvs]; exact h
    clear hvs hT hb1 hk1 hS u1 hk b0
    refine wpList_copy_splice rfl _ _ _ _ rfl 5 Try.underlying26 (by rw [hi0]; simp [hz1]) (some ⟨N, 0, none⟩) p 64 64 ks.length c rfl rfl N 0 (row64 fun _ => 0) 67 hT2 vs (by rw [hvl]; exact (Nat.min_eq_left hl).symm) (fun h0 => ⟨rfl, hsrc h0⟩) (by rw [hvl]; simp [row64, row]; omega) hv1 N w (u2.below hNw (by simp)) (Nat.le_refl _) ?_
    intro w3 hg3 hb3
    have hT3 : Blk w3 N (row64 fun i => ks.getD i 0) 67 := by
      have := hg3.out
      rw [Hvs.out, splice_key ks hl] at this
      exact this
    have u3 : Upd [] w w3 := Upd.of_below hb3 hwN []
    clear hg3 hb3 hT2 hk2 u2 hsrc hv1 hvl
    have hadd : ∀ i, 0 ≤ ks.getD i 0 ∧ ks.getD i 0 < 256 := fun i => hr.getD i
    have hfun : ∀ i, bits BinOp.xor IntKind.u8 (ks.getD i 0) add = keyB ks add i := fun i => rfl
    have Hfun := Lib.hid hfun
    have Hbd := Lib.hid (keyB_bd ks add)
    have hpk : Hid (padKey ks add = (List.range 64).map (keyB ks add)) := Lib.hid rfl
    have hpr : Rng (padKey ks add) := padKey_rng ks add
    have hpl := padKey_len ks add
    clear hfun
    generalize keyB ks add = G at *
    go_wp2_with fail
    go_loopw [10] (fun iv wr => ∃ ni : Nat, ni ≤ 64 ∧ iv = .int .i64 ni ∧ Blk wr N (row64 fun j => if j < ni then G j else ks.getD j 0) 67 ∧ Upd [] w wr) (fun iv _ => 64 - (intOf iv).toNat)
    case atStart => exact ⟨0, by omega, rfl, by simpa using hT3, u3⟩
    case round =>
      clear hT3 u3
      obtain ⟨ni, hni, rfl, hT, hu⟩ := hrel
      obtain ⟨wo, rfl⟩ : ∃ wo, wo = wr := ⟨_, rfl⟩
      by_cases h64 : ni < 64
      · have c1 := hT.cell ni (row64_at _ h64)
        simp only [Nat.lt_irrefl, if_false] at c1
        have f1 := hT.free ni
        obtain ⟨b1, b2⟩ := hadd ni
        have hg := Hfun.out ni
        have hT4 := hT.set ni (.int .u8 (G ni))
        rw [row64_step] at hT4
        have u4 := hu.setCell (p := ⟨N, ni, none⟩) (Or.inr hwN) (.int .u8 (G ni))
        have HT4 := Lib.hid hT4
        have HU4 := Lib.hid u4
        clear hT4 u4 hT hu
        generalize ks.getD ni 0 = kx at *
        go_wp2_with fail
        exact ⟨⟨ni + 1, by omega, by go_num, HT4.out, HU4.out⟩, by simp [intOf]; omega⟩
      · obtain rfl : ni = 64 := by omega
        rw [row64_all] at hT
        go_upto_region 9 with (go_at_call 43; refine (new_walk _).mono ?_; rintro e w5 ⟨kb, rfl, hkb, u5, hK⟩)
        have hT5 := hT.upd_nil u5
        have hx := row64_bytes hT5
        rw [← hpk.out] at hx
        have hadd2 := add_walk (hK 0) (some ⟨N, 0, none⟩) (padKey ks add) 64 hx hpr (by rw [hpl]; decide)
        rw [hpl] at hadd2
        have hs5 := hu.size
        clear hK hx
        go_wp2_with (go_at_call 44; refine hadd2.mono ?_; rintro e w6 ⟨rfl, u6, hK6⟩)
        go_ret
        exact ⟨kb, rfl, by omega, (hu.trans_nil u5).trans u6 (fun x hx => by simp at hx; omega), hK6.mono (by have := u5.size; omega)⟩

end Go.Proofs.Ytppbaahaegmgeaa
