/- HMAC: the beginning of a knot by a key. -/
import Derived.Test.YtppbaahaegmgeaaKnF
import Derived.Test.YtppbaahaegmgeaaReg
import Derived.Laws.CopyOwn
namespace Go.Proofs.Ytppbaahaegmgeaa
open Go.RowKit

/-- A key of 64 bytes at most, filled up, each byte turned. -/
def keyB (ks : List Int) (add : Int) (i : Nat) : Int := bits BinOp.xor IntKind.u8 (ks.getD i 0) add
def padKey (ks : List Int) (add : Int) : List Int := (List.range 64).map (keyB ks add)
theorem padKey_len (ks : List Int) (add : Int) : (padKey ks add).length = 64 := by simp [padKey]
theorem keyB_bd (ks : List Int) (add : Int) (i : Nat) : 0 ≤ keyB ks add i ∧ keyB ks add i ≤ 255 := by
  have h1 := bits_lo_u8 .xor (ks.getD i 0) add
  have h2 := bits_hi_u8 .xor (ks.getD i 0) add
  unfold keyB
  omega
theorem padKey_rng (ks : List Int) (add : Int) : Rng (padKey ks add) := fun x hx => by
  obtain ⟨i, _, rfl⟩ := List.mem_map.1 hx
  exact keyB_bd ks add i

def row64 (f : Nat → Int) : List Value := row 64 fun i => .int .u8 (f i)
theorem row64_at (f : Nat → Int) {i : Nat} (h : i < 64) : (row64 f)[i]? = some (.int .u8 (f i)) := row_get _ h
theorem row64_bytes {w : World} {b : Nat} {f : Nat → Int} {T : TypeId} (h : Blk w b (row64 f) T) : ByAt w (some ⟨b, 0, none⟩) ((List.range 64).map f) :=
  ByAt.of_blk h (fun i x hx => by
    rw [List.getElem?_map] at hx
    have hi : i < 64 := by
      rcases Nat.lt_or_ge i 64 with h | h
      · exact h
      · rw [List.getElem?_eq_none (by simpa using h)] at hx; cases hx
    rw [List.getElem?_range hi] at hx
    cases hx
    rw [Nat.zero_add]; exact row64_at f hi)

/-- A key copied into 64 bytes 0. -/
theorem splice_key (ks : List Int) (h : ks.length ≤ 64) : splice (row64 fun _ => 0) 0 (u8s ks) = row64 fun i => ks.getD i 0 := by
  apply List.ext_getElem?
  intro i
  unfold splice
  rw [List.take_zero, List.nil_append, u8s_len, Nat.zero_add]
  by_cases h1 : i < ks.length
  · rw [List.getElem?_append_left (by rw [u8s_len]; exact h1), row64_at _ (by omega)]
    simp [u8s, List.getElem?_eq_getElem h1]
  · rw [List.getElem?_append_right (by rw [u8s_len]; omega), u8s_len, List.getElem?_drop, show ks.length + (i - ks.length) = i by omega]
    by_cases h2 : i < 64
    · rw [row64_at _ h2, row64_at _ h2, List.getD_eq_getElem?_getD, List.getElem?_eq_none (by omega)]; rfl
    · rw [List.getElem?_eq_none (by simp [row64, row]; omega), List.getElem?_eq_none (by simp [row64, row]; omega)]

theorem row64_step (f g : Nat → Int) (i : Nat) : (row64 fun j => if j < i then f j else g j).set i (.int .u8 (f i)) = row64 fun j => if j < i + 1 then f j else g j := by
  unfold row64
  rw [row_set]
  apply row_congr
  intro j _
  unfold put1
  by_cases h : j = i
  · subst h; simp
  · rw [if_neg h]
    dsimp only
    by_cases h2 : j < i
    · rw [if_pos h2, if_pos (by omega)]
    · rw [if_neg h2, if_neg (by omega)]
theorem row64_all (f g : Nat → Int) : (row64 fun j => if j < 64 then f j else g j) = row64 f := by
  unfold row64
  exact row_congr fun j hj => by dsimp only; rw [if_pos hj]

set_option maxHeartbeats 4000000 in
set_option maxRecDepth 100000 in
theorem begin_walk {w : World} {bx : Nat} {p : Option Addr} {ks : List Int} {c : Nat} (hb : Blk w bx [.slice p ks.length c] 26) (hk : ByAt w p ks) (hr : Rng ks) (hl : ks.length ≤ 64) (add : Int) (ha : 0 ≤ add ∧ add ≤ 255) :
    Calls Try.prog 42 #[.int .u8 add, .pointer (some ⟨bx, 0, none⟩)] w fun e w' => ∃ kb, e = .returned (.pointer (some ⟨kb, 0, none⟩)) ∧ w.heap.size ≤ kb ∧ Upd [] w w' ∧ KnotAt w' w.heap.size kb (padKey ks add) := by
  have hz : ∀ w : World, (zeroValue 67).run Try.prog w = .ok (.agg (row64 fun _ => 0).toArray) w := fun w => by kernel_rfl
  go_enter Try.func42, Try.ntmps42
  go_upto_region 2 with fail
  have u1 := (Upd.refl [] w).alloc (.cells (row64 fun _ => 0).toArray 67)
  have hT := Blk.new w (row64 fun _ => 0).toArray 67
  have hb1 := hb.alloc (.cells (row64 fun _ => 0).toArray 67)
  have hk1 := hk.upd_nil u1
  have hbl := hb.lt
  clear hz
  generalize w.alloc (.cells (row64 fun _ => 0).toArray 67) = W1 at *
  generalize hN : w.heap.size = N at *
  have hNl : w.heap.size ≤ N := by omega
  have HN := Lib.hid hN
  clear hN
  have b0 := hb1.cell 0 rfl
  refine wp_region_head 2 [(.eq (.slice (some ⟨N, 0, none⟩) 64 64)), (.eq (.slice p ks.length c))] [] (by kernel_rfl) (by kernel_rfl) (by kernel_rfl) rfl ?ne ?pre ?step ?fin
  case ne => intro x hx; cases hx
  case pre => intro x hx; cases hx
  case step =>
    intro i o him ho a w' hS hold hneed hun K' hK
    match i, him, ho with
    | 0, _, ho =>
      obtain rfl := Option.some.inj ho
      replace hneed := fun j hj => (hneed j hj).2
      replace hK := fun v w1 h u => hK v w1 h trivial u
      clear hun
      have d4 := hold 4 _ (by kernel_rfl) rfl
      clear hold hneed ho
      (go_simp; exact hK _ _ rfl (Upd.refl [] _))
    | 1, _, ho =>
      obtain rfl := Option.some.inj ho
      replace hneed := fun j hj => (hneed j hj).2
      replace hK := fun v w1 h u => hK v w1 h trivial u
      clear hun
      have d1 := hold 1 _ (by kernel_rfl) rfl
      clear hold hneed ho
      (have p0 := (hS.cell (a := ⟨bx, 0, none⟩) hb1.lt (by simp)).trans b0; go_simp; exact hK _ _ rfl (Upd.refl [] _))
    | _ + 2, him, _ => exact absurd him (by omega)
  case fin =>
    intro a w' hS hsz hdf hold hvals hposts hap
    have ha := act_lit hsz hdf (RowIs.cons (at_of_get (hold 0 _ (by kernel_rfl) rfl)) (RowIs.cons (at_of_get (hold 1 _ (by kernel_rfl) rfl)) (RowIs.cons (at_of_get (hold 2 _ (by kernel_rfl) rfl)) (RowIs.cons (at_of_get (hold 3 _ (by kernel_rfl) rfl)) (RowIs.cons (at_of_get (hold 4 _ (by kernel_rfl) rfl)) (RowIs.cons (at_of_get (hold 5 _ (by kernel_rfl) rfl)) (RowIs.cons (at_of_get (hold 6 _ (by kernel_rfl) rfl)) (RowIs.cons (hvals 0 7 (of_decide_eq_true (by kernel_rfl)) rfl) (RowIs.cons (hvals 1 8 (of_decide_eq_true (by kernel_rfl)) rfl) (RowIs.cons (at_of_get (hold 9 _ (by kernel_rfl) rfl)) (RowIs.cons (at_of_get (hold 10 _ (by kernel_rfl) rfl)) (RowIs.cons (at_of_get (hold 11 _ (by kernel_rfl) rfl)) (RowIs.cons (at_of_get (hold 12 _ (by kernel_rfl) rfl)) (RowIs.cons (at_of_get (hold 13 _ (by kernel_rfl) rfl)) (RowIs.cons (at_of_get (hold 14 _ (by kernel_rfl) rfl)) (RowIs.cons (at_of_get (hold 15 _ (by kernel_rfl) rfl)) (RowIs.cons (at_of_get (hold 16 _ (by kernel_rfl) rfl)) (RowIs.cons (at_of_get (hold 17 _ (by kernel_rfl) rfl)) (RowIs.cons (at_of_get (hold 18 _ (by kernel_rfl) rfl)) (RowIs.cons (at_of_get (hold 19 _ (by kernel_rfl) rfl)) (RowIs.cons (at_of_get (hold 20 _ (by kernel_rfl) rfl)) (RowIs.cons (at_of_get (hold 21 _ (by kernel_rfl) rfl)) (RowIs.cons (at_of_get (hold 22 _ (by kernel_rfl) rfl)) (RowIs.cons (at_of_get (hold 23 _ (by kernel_rfl) rfl)) (RowIs.cons (at_of_get (hold 24 _ (by kernel_rfl) rfl)) (RowIs.nil _ _)))))))))))))))))))))))))) rfl
    clear hsz hdf hold hvals hposts hap
    subst ha
    simp only [List.getElem_toArray, List.getElem_cons_succ, List.getElem_cons_zero, List.drop_succ_cons, List.drop_zero]
    have hT2 := hT.upd_nil hS
    have hk2 := hk1.upd_nil hS
    have u2 := u1.trans_nil hS
    have hNw : N ≤ w.heap.size := Nat.le_of_eq HN.out.symm
    have hwN : w.heap.size ≤ N := hNl
    obtain ⟨i0, hi0, hz0, hz1, hz2⟩ := info_parts info_u8
    obtain ⟨vs, hvs⟩ : ∃ vs, vs = u8s ks := ⟨_, rfl⟩
    have Hvs := Lib.hid hvs
    have hvl : vs.length = ks.length := by rw [hvs, u8s_len]
    have hv1 : ∀ u ∈ vs, u.oneCell' = true := by rw [hvs]; exact u8s_one ks
    have hsrc : 0 < vs.length → ∃ ad, p = some ad ∧ ∀ j v, vs[j]? = some v → w'.cell? (ad.add j) = some v := fun h0 => by
      rcases hk2.src with h | h
      · omega
      · rw [hvs]; exact h
    clear hvs hT hb1 hk1 hS u1 hk b0
    refine wpList_copy_splice rfl _ _ _ _ rfl 5 Try.underlying26 (by rw [hi0]; simp [hz1]) (some ⟨N, 0, none⟩) p 64 64 ks.length c rfl rfl N 0 (row64 fun _ => 0) 67 hT2 vs (by rw [hvl]; exact (Nat.min_eq_left hl).symm) (fun h0 => ⟨rfl, hsrc h0⟩) (by rw [hvl]; simp [row64, row]; omega) hv1 N w (u2.below hNw (by simp)) (Nat.le_refl _) ?_
    intro w3 hg3 hb3
    have hT3 : Blk w3 N (row64 fun i => ks.getD i 0) 67 := by
      have := hg3.out
      rw [Hvs.out, splice_key ks hl] at this
      exact this
    have u3 : Upd [] w w3 := Upd.of_below hb3 hwN []
    clear hg3 hb3 hT2 hk2 u2 hsrc hv1 hvl
    have hadd : ∀ i, 0 ≤ ks.getD i 0 ∧ ks.getD i 0 < 256 := fun i => hr.getD i
    have hfun : ∀ i, bits BinOp.xor IntKind.u8 (ks.getD i 0) add = keyB ks add i := fun i => rfl
    have Hfun := Lib.hid hfun
    have Hbd := Lib.hid (keyB_bd ks add)
    have hpk : Hid (padKey ks add = (List.range 64).map (keyB ks add)) := Lib.hid rfl
    have hpr : Rng (padKey ks add) := padKey_rng ks add
    have hpl := padKey_len ks add
    clear hfun
    generalize keyB ks add = G at *
    go_wp2_with fail
    go_loopw [10] (fun iv wr => ∃ ni : Nat, ni ≤ 64 ∧ iv = .int .i64 ni ∧ Blk wr N (row64 fun j => if j < ni then G j else ks.getD j 0) 67 ∧ Upd [] w wr) (fun iv _ => 64 - (intOf iv).toNat)
    case atStart => exact ⟨0, by omega, rfl, by simpa using hT3, u3⟩
    case round =>
      clear hT3 u3
      obtain ⟨ni, hni, rfl, hT, hu⟩ := hrel
      obtain ⟨wo, rfl⟩ : ∃ wo, wo = wr := ⟨_, rfl⟩
      by_cases h64 : ni < 64
      · have c1 := hT.cell ni (row64_at _ h64)
        simp only [Nat.lt_irrefl, if_false] at c1
        have f1 := hT.free ni
        obtain ⟨b1, b2⟩ := hadd ni
        have hg := Hfun.out ni
        have hT4 := hT.set ni (.int .u8 (G ni))
        rw [row64_step] at hT4
        have u4 := hu.setCell (p := ⟨N, ni, none⟩) (Or.inr hwN) (.int .u8 (G ni))
        have HT4 := Lib.hid hT4
        have HU4 := Lib.hid u4
        clear hT4 u4 hT hu
        generalize ks.getD ni 0 = kx at *
        go_wp2_with fail
        exact ⟨⟨ni + 1, by omega, by go_num, HT4.out, HU4.out⟩, by simp [intOf]; omega⟩
      · obtain rfl : ni = 64 := by omega
        rw [row64_all] at hT
        go_upto_region 9 with (go_at_call 43; refine (new_walk _).mono ?_; rintro e w5 ⟨kb, rfl, hkb, u5, hK⟩)
        have hT5 := hT.upd_nil u5
        have hx := row64_bytes hT5
        rw [← hpk.out] at hx
        have hadd2 := add_walk (hK 0) (some ⟨N, 0, none⟩) (padKey ks add) 64 hx hpr (by rw [hpl]; decide)
        rw [hpl] at hadd2
        have hs5 := hu.size
        clear hK hx
        go_wp2_with (go_at_call 44; refine hadd2.mono ?_; rintro e w6 ⟨rfl, u6, hK6⟩)
        go_ret
        exact ⟨kb, rfl, by omega, (hu.trans_nil u5).trans u6 (fun x hx => by simp at hx; omega), hK6.mono (by have := u5.size; omega)⟩

end Go.Proofs.Ytppbaahaegmgeaa

/- HMAC in plain words. -/
namespace Go.Proofs.Ytppbaahaegmgeaa
open Go.RowKit

/-- A digest as a list. -/
def dig (xs : List Int) : List Int := (List.range 32).map (sha xs)
theorem dig_len (xs : List Int) : (dig xs).length = 32 := by simp [dig]
theorem sha_bd (l : List Int) (i : Nat) : 0 ≤ sha l i ∧ sha l i ≤ 255 := by
  unfold sha digB
  omega
theorem dig_rng (xs : List Int) : Rng (dig xs) := fun x hx => by
  obtain ⟨i, _, rfl⟩ := List.mem_map.1 hx
  exact sha_bd xs i
theorem row32_bytes {w : World} {b : Nat} {f : Nat → Int} {T : TypeId} (h : Blk w b (row32 f) T) : ByAt w (some ⟨b, 0, none⟩) ((List.range 32).map f) :=
  ByAt.of_blk h (fun i x hx => by
    rw [List.getElem?_map] at hx
    have hi : i < 32 := by
      rcases Nat.lt_or_ge i 32 with h | h
      · exact h
      · rw [List.getElem?_eq_none (by simpa using h)] at hx; cases hx
    rw [List.getElem?_range hi] at hx
    cases hx
    rw [Nat.zero_add]; exact row_get _ hi)

/-- The key that is used: a long one's digest. -/
def keyOf (ks : List Int) : List Int := if 64 < ks.length then dig ks else ks
theorem keyOf_len (ks : List Int) : (keyOf ks).length ≤ 64 := by
  unfold keyOf
  split
  · rw [dig_len]; omega
  · omega
theorem keyOf_rng {ks : List Int} (h : Rng ks) : Rng (keyOf ks) := by
  unfold keyOf
  split
  · exact dig_rng ks
  · exact h
/-- A MAC, of bytes. -/
def mac (ks ms : List Int) : Nat → Int := sha (padKey (keyOf ks) 92 ++ dig (padKey (keyOf ks) 54 ++ ms))

theorem mac_dig {ks ms : List Int} (h : 64 < ks.length) : mac (dig ks) ms = mac ks ms := by
  have e : keyOf (dig ks) = keyOf ks := by
    unfold keyOf
    rw [if_pos h, if_neg (by rw [dig_len]; omega)]
  unfold mac
  rw [e]
theorem padKey_zeros (ks : List Int) (n : Nat) (add : Int) : padKey (ks ++ List.replicate n 0) add = padKey ks add := by
  unfold padKey
  congr 1
  funext i
  unfold keyB
  congr 1
  rw [List.getD_eq_getElem?_getD, List.getD_eq_getElem?_getD]
  by_cases h : i < ks.length
  · rw [List.getElem?_append_left h]
  · rw [List.getElem?_append_right (by omega), List.getElem?_eq_none (l := ks) (by omega), List.getElem?_replicate]
    split <;> rfl
theorem mac_zeros {ks ms : List Int} {n : Nat} (h : ks.length + n ≤ 64) : mac (ks ++ List.replicate n 0) ms = mac ks ms := by
  have e : keyOf (ks ++ List.replicate n 0) = ks ++ List.replicate n 0 := by
    unfold keyOf
    rw [if_neg (by rw [List.length_append, List.length_replicate]; omega)]
  have e2 : keyOf ks = ks := by
    unfold keyOf
    rw [if_neg (by omega)]
  unfold mac
  rw [e, e2, padKey_zeros, padKey_zeros]

/-- Rows of bytes in memory, one after another. -/
def RowsAt (w : World) (q : Option Addr) (xss : List (List Int)) : Prop :=
  ∀ i xs, xss[i]? = some xs → ∃ b off dp dc, q = some ⟨b, off, none⟩ ∧ b < w.heap.size ∧ w.cell? ⟨b, off + i, none⟩ = some (.slice dp xs.length dc) ∧ Rng xs ∧ ByAt w dp xs ∧ xs.length ≤ dc
theorem RowsAt.nil (w : World) (q : Option Addr) : RowsAt w q [] := fun i xs h => by simp at h
theorem RowsAt.upd {w w' : World} {q : Option Addr} {xss : List (List Int)} (h : RowsAt w q xss) (u : Upd [] w w') : RowsAt w' q xss := fun i xs hx => by
  obtain ⟨b, off, dp, dc, h1, h2, h3, h4, h5, h6⟩ := h i xs hx
  exact ⟨b, off, dp, dc, h1, Nat.lt_of_lt_of_le h2 u.size, (u.cell (a := ⟨b, off + i, none⟩) h2 (by simp)).trans h3, h4, h5.upd_nil u, h6⟩

end Go.Proofs.Ytppbaahaegmgeaa

/- HMAC: the walk of wax.Of. -/
namespace Go.Proofs.Ytppbaahaegmgeaa
open Go.RowKit

theorem flat_take {xss : List (List Int)} {n : Nat} {xs : List Int} (h : xss[n]? = some xs) : (xss.take (n + 1)).flatten = (xss.take n).flatten ++ xs := by
  rw [List.take_add_one, h]
  simp
theorem flat_take_le (xss : List (List Int)) (n : Nat) : ((xss.take n).flatten).length ≤ xss.flatten.length := by
  conv => rhs; rw [← List.take_append_drop n xss]
  rw [List.flatten_append, List.length_append]
  omega

theorem info32 (f : Nat → Int) : (Try.prog.info? 22).map (·.size) = some (row32 f).toArray.size := by kernel_rfl
theorem one32 (f : Nat → Int) : (row32 f).toArray.all (·.oneCell') = true := by kernel_rfl
theorem size32 (f g : Nat → Int) : (row32 f).toArray.size = (row32 g).toArray.size := rfl

set_option maxRecDepth 100000 in
set_option maxHeartbeats 8000000 in
theorem mac_walk (w : World) (p : Option Addr) (ks : List Int) (c : Nat) (hx : ByAt w p ks) (hr : Rng ks) (hl : ks.length ≤ 140737488355328)
    (q : Option Addr) (xss : List (List Int)) (d : Nat) (hq : RowsAt w q xss) (hm : xss.length ≤ 9223372036854775807) (ht : 64 + xss.flatten.length ≤ 140737488355328) :
    Calls Try.prog 22 #[.slice p ks.length c, .slice q xss.length d] w fun e w' => e = .returned (agg32 (mac ks xss.flatten)) ∧ Upd [] w w' := by
  have hz : ∀ w : World, (zeroValue 22).run Try.prog w = .ok (.agg (row32 fun _ => 0).toArray) w := fun w => by kernel_rfl
  go_enter Try.func22, Try.ntmps22
  go_upto_region 1 with fail
  have uA := (Upd.refl [] w).alloc (.cells #[.slice p ks.length c] 26)
  have hbA := Blk.new w #[.slice p ks.length c] 26
  have zA : (w.alloc (.cells #[.slice p ks.length c] 26)).heap.size = w.heap.size + 1 := by simp
  generalize w.alloc (.cells #[.slice p ks.length c] 26) = WA at *
  have uB := uA.alloc (.cells (row32 fun _ => 0).toArray 22)
  have hbB := hbA.alloc (.cells (row32 fun _ => 0).toArray 22)
  have hR := Blk.new WA (row32 fun _ => 0).toArray 22
  generalize WA.alloc (.cells (row32 fun _ => 0).toArray 22) = WB at *
  obtain ⟨bx, hbx⟩ : ∃ bx, w.heap.size = bx := ⟨_, rfl⟩
  obtain ⟨R, hRR⟩ : ∃ R, w.heap.size + 1 = R := ⟨_, rfl⟩
  rw [zA, hRR] at hR
  rw [hRR, hbx]
  rw [hbx] at hbB
  have hbw : w.heap.size ≤ bx := by omega
  have hRw : w.heap.size ≤ R := by omega
  have hbR : bx ≠ R := by omega
  have HW := Lib.hid hbx
  clear hbx hRR zA uA hbA
  simp only [List.toList_toArray] at hR hbB
  have hxB := hx.upd_nil uB
  have c0 := hbB.cell 0 rfl
  have f0 := hbB.free 0
  have hKl := keyOf_len ks
  have hKr := keyOf_rng hr
  by_cases hl64 : 64 < ks.length
  case' pos =>
    have HK : Hid (keyOf ks = dig ks) := Lib.hid (by unfold keyOf; rw [if_pos hl64])
    go_upto_region 3 with (first
      | (go_at_call 41; refine (of_walk _ p ks c hxB hr hl).mono ?_; rintro e w1 ⟨rfl, u1⟩; have hb1 := hbB.upd_nil u1; have hR1 := hR.upd_nil u1; have v1 := uB.trans_nil u1; have c1 := hb1.cell 0 rfl; have f1 := hb1.free 0; have hD := Blk.new w1 (row32 fun _ => 0).toArray 22; have hb2 := hb1.alloc (.cells (row32 fun _ => 0).toArray 22); have hR2 := hR1.alloc (.cells (row32 fun _ => 0).toArray 22); have v2 := v1.alloc (.cells (row32 fun _ => 0).toArray 22))
      | (refine wpList_store_rowTo rfl _ _ _ rfl rfl _ (row32 (sha ks)).toArray rfl rfl _ (row32 fun _ => 0).toArray hD (info32 _) (size32 _ _) (one32 _) ?_))
    have hne1 : bx ≠ w1.heap.size := by have := hb1.lt; omega
    have hne2 : R ≠ w1.heap.size := by have := hR1.lt; omega
    have hDl : w.heap.size ≤ w1.heap.size := v1.size
    have hD3 := hD.setRow (row32 (sha ks)).toArray
    have sD := (Upd.refl [w1.heap.size] (w1.alloc (.cells (row32 fun _ => 0).toArray 22))).setRow (b := w1.heap.size) (Or.inl (by simp)) (row32 (sha ks)).toArray
    have hb3 := hb2.upd sD (by simpa using hne1)
    have hR3 := hR2.upd sD (by simpa using hne2)
    have v3 := v2.setRow (Or.inr hDl) (row32 (sha ks)).toArray
    clear hD hb2 hR2 v2 sD hb1 hR1 c1 f1 c0 f0 hbB hR uB u1
    generalize (w1.alloc (.cells (row32 fun _ => 0).toArray 22)).setRow w1.heap.size (row32 (sha ks)).toArray = W3 at *
    generalize w1.heap.size = D at *
    have c0 := hb3.cell 0 rfl
    have f0 := hb3.free 0
    go_upto_region 4 with fail
    have sE := (Upd.refl [bx] W3).setCell (p := ⟨bx, 0, none⟩) (Or.inl (by simp)) (.slice (some ⟨D, 0, none⟩) 32 32)
    have v5 := v3.setCell (p := ⟨bx, 0, none⟩) (Or.inr hbw) (.slice (some ⟨D, 0, none⟩) 32 32)
    have hb5 := hb3.set 0 (.slice (some ⟨D, 0, none⟩) 32 32)
    have hR5 := hR3.upd sE (by simpa using (Ne.symm hbR))
    have hK5 : ByAt (W3.setCell ⟨bx, 0, none⟩ (.slice (some ⟨D, 0, none⟩) 32 32)) (some ⟨D, 0, none⟩) (dig ks) := by
      have := row32_bytes (hD3.upd sE (by simpa using (Ne.symm hne1)))
      exact this
    have hdl := dig_len ks
    rw [HK.out] at hKl hKr
    have hb5 : Blk (W3.setCell ⟨bx, 0, none⟩ (.slice (some ⟨D, 0, none⟩) 32 32)) bx [.slice (some ⟨D, 0, none⟩) (dig ks).length 32] 26 := by rw [hdl]; exact hb5
    clear hb3 hR3 v3 sE hD3 c0 f0 hdl hne1 hne2
    generalize W3.setCell ⟨bx, 0, none⟩ (.slice (some ⟨D, 0, none⟩) 32 32) = W5 at *
    generalize dig ks = K at *
    obtain ⟨pK, hpK⟩ : ∃ pK, pK = some (⟨D, 0, none⟩ : Addr) := ⟨_, rfl⟩
    rw [← hpK] at hb5 hK5
    obtain ⟨cK, hcK⟩ : ∃ cK : Nat, cK = 32 := ⟨_, rfl⟩
    rw [← hcK] at hb5
    clear hpK hcK hxB
  case' neg =>
    have HK : Hid (keyOf ks = ks) := Lib.hid (by unfold keyOf; rw [if_neg hl64])
    rw [HK.out] at hKl hKr
    go_upto_region 4 with fail
    obtain ⟨K, hKK⟩ : ∃ K, K = ks := ⟨_, rfl⟩
    obtain ⟨pK, hpK⟩ : ∃ pK, pK = p := ⟨_, rfl⟩
    obtain ⟨cK, hcK⟩ : ∃ cK, cK = c := ⟨_, rfl⟩
    have hb5 := hbB
    have hR5 := hR
    have v5 := uB
    have hK5 := hxB
    obtain ⟨W5, hW5⟩ : ∃ W5, W5 = WB := ⟨_, rfl⟩
    rw [← hW5] at hb5 hR5 v5 hK5 ⊢
    rw [← hKK, ← hpK, ← hcK] at hb5
    rw [← hKK, ← hpK] at hK5
    have HK : Hid (keyOf ks = K) := Lib.hid (by rw [hKK]; exact HK.out)
    rw [← hKK] at hKl hKr
    clear hKK hpK hcK hbB hR uB hxB c0 f0 hW5
  all_goals (
    have HM : Hid (mac ks xss.flatten = sha (padKey K 92 ++ dig (padKey K 54 ++ xss.flatten))) := Lib.hid (by unfold mac; rw [HK.out])
    have hRl5 := hR5.lt
    go_upto_region 6 with (first
      | (go_at_call 42; refine (begin_walk hb6 hK6 hKr hKl 92 (by omega)).mono ?_; rintro e w7 ⟨k2, rfl, hk2, u7, hK2⟩)
      | (go_at_call 42; refine (begin_walk hb5 hK5 hKr hKl 54 (by omega)).mono ?_; rintro e w6 ⟨k1, rfl, hk1, u6, hK1⟩; have hb6 := hb5.upd_nil u6; have hK6 := hK5.upd_nil u6))
    have hk1l := hK1.lt
    have v7 := (v5.trans_nil u6).trans_nil u7
    have hR7 := (hR5.upd_nil u6).upd_nil u7
    have hK17 := hK1.upd_nil u7
    have l54 := padKey_len K 54
    have l92 := padKey_len K 92
    have r92 := padKey_rng K 92
    have hk1w : w.heap.size ≤ k1 := Nat.le_trans v5.size hk1
    have hk2w : w.heap.size ≤ k2 := by have := v5.size; have := u6.size; omega
    have hk12 : k1 ≠ k2 := by omega
    have hRk1 : R ≠ k1 := by omega
    have hRk2 : R ≠ k2 := by omega
    clear hb5 hb6 hK5 hK6 hK1 hR5 u6 u7 v5 hKr hKl HK hRl5
    generalize padKey K 54 = L54 at *
    generalize padKey K 92 = L92 at *
    generalize w6.heap.size = B2 at *
    go_upto_block 0 with fail
    go_cut [10] (fun _ wx => (∃ B, KnotAt wx B k1 (L54 ++ xss.flatten)) ∧ KnotAt wx B2 k2 L92 ∧ Blk wx R (row32 fun _ => 0) 22 ∧ Upd [] w wx)
    case first =>
      go_wp2_with fail
      go_loopw [25] (fun iv wr => ∃ ni : Nat, ni ≤ xss.length ∧ iv = .int .i64 ni ∧ (∃ B, KnotAt wr B k1 (L54 ++ (xss.take ni).flatten)) ∧ KnotAt wr B2 k2 L92 ∧ Blk wr R (row32 fun _ => 0) 22 ∧ Upd [] w wr) (fun iv _ => xss.length - (intOf iv).toNat)
      case atStart => exact ⟨0, by omega, rfl, ⟨_, by simpa using hK17⟩, hK2, hR7, v7⟩
      case round =>
        clear hK17 hK2 hR7 v7
        obtain ⟨ni, hni, rfl, ⟨B, hK1⟩, hK2, hR, hu⟩ := hrel
        obtain ⟨wo, rfl⟩ : ∃ wo, wo = wr := ⟨_, rfl⟩
        by_cases hlt : ni < xss.length
        · have hget : xss[ni]? = some xss[ni] := List.getElem?_eq_getElem hlt
          have hfl := flat_take hget
          have hbd := flat_take_le xss (ni + 1)
          rw [hfl, List.length_append] at hbd
          obtain ⟨b, off, dp, dc, rfl, hqb, hqc, hxr, hxa, hxd⟩ := hq ni _ hget
          generalize xss[ni] = xs at *
          have hqc2 : wo.cell? ⟨b, off + ni, none⟩ = some (.slice dp xs.length dc) := (hu.cell (a := ⟨b, off + ni, none⟩) hqb (by simp)).trans hqc
          have hadd := add_walk hK1 dp xs dc (hxa.upd_nil hu) hxr (by rw [List.length_append]; omega)
          have hrow : ∀ x ∈ [k1], x ≠ k2 ∧ x < B2 ∧ ∀ cs, ¬ Blk wo x cs 85 := fun x hx => by
            obtain rfl : x = k1 := by simpa using hx
            obtain ⟨_, _, _, _, hb, _⟩ := hK1
            exact ⟨hk12, hk1l, fun cs h => blk_ne h hb (by decide) rfl⟩
          have g1 : (0 : Int) ≤ ni := by omega
          have g2 : (ni : Int) < xss.length := by omega
          have HF := Lib.hid hfl
          clear hqc hget hfl
          go_wp2_with (go_at_call 44; refine hadd.mono ?_; rintro e w8 ⟨rfl, u8, hK8⟩)
          exact ⟨⟨ni + 1, by omega, by go_num, ⟨_, by rw [HF.out, ← List.append_assoc]; exact hK8⟩, hK2.upd u8 hrow, hR.upd u8 (by simpa using hRk1), hu.trans_nil' u8 (by simpa using hk1w)⟩, by simp [intOf]; omega⟩
        · obtain rfl : ni = xss.length := by omega
          rw [List.take_length] at hK1
          go_wp2_with fail
          go_meet
          exact ⟨⟨B, hK1⟩, hK2, hR, hu⟩
    case rest =>
      obtain ⟨⟨B, hK1⟩, hK2, hR, hu⟩ := hcut
      clear hK17 hR7 v7
      have hml : (L54 ++ xss.flatten).length ≤ 140737488355328 := by rw [List.length_append]; omega
      have hdr := dig_rng (L54 ++ xss.flatten)
      have hdl := dig_len (L54 ++ xss.flatten)
      have hdd : dig (L54 ++ xss.flatten) = (List.range 32).map (sha (L54 ++ xss.flatten)) := rfl
      have htie := tie_end hK1 hml
      generalize sha (L54 ++ xss.flatten) = F1 at *
      generalize dig (L54 ++ xss.flatten) = D1 at *
      have Hdd := Lib.hid hdd
      have Hdl := Lib.hid hdl
      have hml2 : (L92 ++ D1).length ≤ 140737488355328 := by rw [List.length_append]; omega
      clear hK1 hdd hdl
      have L54h := Lib.hid l54
      have L92h := Lib.hid l92
      clear l54 l92
      go_upto_region 12 with (first
        | (go_at_call 45; refine htie.mono ?_; rintro e w9 ⟨rfl, u9⟩; have hK29 := hK2.upd_nil u9; have hR9 := hR.upd_nil u9; have v9 := hu.trans_nil u9; have hD := Blk.new w9 (row32 fun _ => 0).toArray 22)
        | (refine wpList_store_rowTo rfl _ _ _ rfl rfl _ (row32 F1).toArray rfl rfl _ (row32 fun _ => 0).toArray hD (info32 _) (size32 _ _) (one32 _) ?_))
      have uD := ((Upd.refl [] w9).alloc (.cells (row32 fun _ => 0).toArray 22)).setRow (b := w9.heap.size) (Or.inr (Nat.le_refl _)) (row32 F1).toArray
      have hD3 := row32_bytes (hD.setRow (row32 F1).toArray)
      rw [← Hdd.out] at hD3
      have hKD := hK29.upd_nil uD
      have hRD := hR9.upd_nil uD
      have vD := v9.trans_nil uD
      clear uD hD hR9 hK29 v9 htie hK2 hR hu u9
      generalize (w9.alloc (.cells (row32 fun _ => 0).toArray 22)).setRow w9.heap.size (row32 F1).toArray = W9 at *
      generalize w9.heap.size = D at *
      have hadd := add_walk hKD (some ⟨D, 0, none⟩) D1 32 hD3 hdr (by rw [L92h.out, Hdl.out]; omega)
      rw [Hdl.out] at hadd
      go_upto_region 13 with (go_at_call 44; refine hadd.mono ?_; rintro e w10 ⟨rfl, u10, hK10⟩)
      have hR10 := hRD.upd u10 (by simpa using hRk2)
      have v10 := vD.trans_nil' u10 (by simpa using hk2w)
      have htie := tie_end hK10 hml2
      clear hadd hKD hK10 hRD vD u10
      go_wp2_with (first
        | (go_at_call 45; refine htie.mono ?_; rintro e w11 ⟨rfl, u11⟩; have hR11 := hR10.upd_nil u11)
        | (refine wpList_store_rowTo rfl _ _ _ rfl rfl R (row32 (sha (L92 ++ D1))).toArray rfl rfl _ (row32 fun _ => 0).toArray hR11 (info32 _) (size32 _ _) (one32 _) ?_))
      have hR12 := hR11.setRow (row32 (sha (L92 ++ D1))).toArray
      have v12 := (v10.trans_nil u11).setRow (Or.inr hRw) (row32 (sha (L92 ++ D1))).toArray
      exact bodyPost_ret (v := agg32 (sha (L92 ++ D1))) (results_cell_row rfl _ _ R _ _ _ _ rfl hR12 Try.underlying22 rfl (info32 _)) rfl ⟨by rw [HM.out], v12⟩)

end Go.Proofs.Ytppbaahaegmgeaa
