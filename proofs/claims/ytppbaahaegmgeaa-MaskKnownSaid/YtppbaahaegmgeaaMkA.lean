/- digits: a number as bytes. -/
import Derived.Test.YtppbaahaegmgeaaShelf
import Derived.Test.YtppbaahaegmgeaaByt
import Derived.Test.YtppbaahaegmgeaaReg
import Derived.Laws.MakeOwn
import Derived.Laws.BitsAllLaws
import Derived.Test.YtppbaahaegmgeaaKnF
namespace Go.Proofs.Ytppbaahaegmgeaa
open Go.RowKit

def szU (n : Nat) : Nat := max ((Lib.bitLen n + 6) / 7) 1
theorem szU_bd (n : Nat) (h : n < 9007199254740992) : 1 ≤ szU n ∧ szU n ≤ 8 := by
  have h1 := Lib.bitLen_le n 53 (by omega) (by omega)
  unfold szU
  omega
theorem size_walk (x : Nat) (hx : x < 9007199254740992) (w : World) : Calls Try.prog 50 #[.int .u64 (x : Int)] w fun e w' => e = .returned (.int .i64 (szU x)) ∧ w' = w := by
  have h1 := Lib.bitLen_le x 53 (by omega) (by omega)
  have hc := Try.bits_Len64 (x : Int) w (by omega) (by omega)
  rw [Int.toNat_natCast] at hc
  have hs : Hid (szU x = max ((Lib.bitLen x + 6) / 7) 1) := Lib.hid rfl
  generalize Lib.bitLen x = b at *
  go_enter Try.func50, Try.ntmps50
  go_wp2_with (go_at_call 58; refine hc.mono ?_; rintro e w1 ⟨rfl, rfl⟩)
  go_ret
  exact ⟨ret_int (by rw [hs.out]; omega), rfl⟩

def brow (n : Nat) (f : Nat → Nat) : List Value := row n fun k => .int .u8 ((f k : Nat) : Int)
theorem brow_len (n : Nat) (f : Nat → Nat) : (brow n f).length = n := by simp [brow, row]
theorem brow_get {n : Nat} (f : Nat → Nat) {i : Nat} (hi : i < n) : (brow n f)[i]? = some (.int .u8 (f i : Int)) := row_get _ hi
def putB (f : Nat → Nat) (i v : Nat) : Nat → Nat := fun k => if k = i then v else f k
theorem brow_set (n : Nat) (f : Nat → Nat) (i v : Nat) : (brow n f).set i (.int .u8 (v : Int)) = brow n (putB f i v) := by
  unfold brow
  rw [row_set]
  apply row_congr
  intro j _
  unfold put1 putB
  dsimp only
  split <;> rfl
theorem brow_congr {n : Nat} {f g : Nat → Nat} (h : ∀ j, j < n → f j = g j) : brow n f = brow n g := by
  unfold brow
  apply row_congr
  intro j hj
  rw [h j hj]
theorem mk_u8 (n : Nat) (hn : n ≤ 1000000) (w : World) : (Instr.makeSlice 26 (.int .i64 n) (.int .i64 n)).run Try.prog w = .ok (.slice (some ⟨w.heap.size, 0, none⟩) n n) (w.alloc (.cells (brow n fun _ => 0).toArray 5)) := by
  obtain ⟨i0, hi, hz0, hz1, hz2⟩ := info_parts info_u8
  have := run_make (P := Try.prog) w 26 5 i0 (.int .u8 0) Try.underlying26 hi hz0 .i64 .i64 n n (by omega) (by omega) (by rw [hz2]; omega) (by omega)
  rw [hz1] at this
  have e : madeCells (Value.int .u8 0).cells (n * 1) = (brow n fun _ => 0).toArray := by
    apply Array.ext'
    rw [Nat.mul_one, List.toList_toArray]
    show (madeCells #[Value.int .u8 0] n).toList = _
    apply List.ext_getElem?
    intro j
    by_cases hj : j < n
    · rw [brow_get _ hj]; simp [madeCells, hj, Nat.mod_one]
    · rw [List.getElem?_eq_none (by simp [madeCells]; omega), List.getElem?_eq_none (by rw [brow_len]; omega)]
  rw [Int.toNat_natCast, e] at this
  exact this

/-- The bytes of a number, and its first one with its mark. -/
def byU (n k j : Nat) : Nat := n / 2 ^ (8 * (k - 1 - j)) % 256
def tailU (n k i : Nat) (j : Nat) : Nat := if k ≤ j + i then byU n k j else 0
def topU (k : Nat) : Nat := 255 * 2 ^ (9 - k) % 256
def lastU (n : Nat) : Nat → Nat := putB (byU n (szU n)) 0 (byU n (szU n) 0 ||| topU (szU n))
def rowU (n : Nat) : List Int := (List.range (szU n)).map fun j => ((lastU n j : Nat) : Int)
theorem rowU_len (n : Nat) : (rowU n).length = szU n := by simp [rowU]
theorem rowU_cells (n : Nat) : brow (szU n) (lastU n) = u8s (rowU n) := by
  unfold brow u8s rowU row
  rw [List.map_map]; rfl
theorem byU_lt (n k j : Nat) : byU n k j < 256 := Nat.mod_lt _ (by decide)
theorem lastU_lt (n j : Nat) : lastU n j < 256 := by
  unfold lastU putB
  split
  · exact Nat.or_lt_two_pow (n := 8) (byU_lt _ _ _) (Nat.mod_lt _ (by decide))
  · exact byU_lt _ _ _
theorem rowU_rng (n : Nat) : Rng (rowU n) := fun x hx => by
  obtain ⟨j, _, rfl⟩ := List.mem_map.1 hx
  have := lastU_lt n j
  omega
theorem tailU_step (n k i : Nat) (hi : i < k) : brow k (putB (tailU n k i) (k - 1 - i) (n / 2 ^ (8 * i) % 256)) = brow k (tailU n k (i + 1)) := by
  apply brow_congr
  intro j hj
  unfold putB tailU byU
  by_cases h : j = k - 1 - i
  · subst h
    rw [if_pos rfl, if_pos (by omega), show k - 1 - (k - 1 - i) = i by omega]
  · rw [if_neg h]
    by_cases h2 : k ≤ j + i
    · rw [if_pos h2, if_pos (by omega)]
    · rw [if_neg h2, if_neg (by omega)]
theorem tailU_all (n k : Nat) : brow k (tailU n k k) = brow k (byU n k) := brow_congr fun j _ => by
  unfold tailU
  rw [if_pos (by omega)]

theorem byte_nat (x e : Nat) : (x : Int) / 2 ^ e % 256 = ((x / 2 ^ e % 256 : Nat) : Int) := by
  rw [Int.natCast_emod, Int.natCast_ediv, Int.natCast_pow]
  rfl
set_option maxRecDepth 100000 in
set_option maxHeartbeats 4000000 in
theorem drow_walk (x : Nat) (hx : x < 9007199254740992) (w : World) : Calls Try.prog 39 #[.int .u64 (x : Int)] w fun e w' => ∃ g, e = .returned (.slice (some ⟨g, 0, none⟩) (szU x) (szU x)) ∧ w.heap.size ≤ g ∧ Blk w' g (u8s (rowU x)) 5 ∧ Upd [] w w' := by
  have hsz := size_walk x hx w
  obtain ⟨k1, k8⟩ := szU_bd x hx
  have hcell := rowU_cells x
  have hlast : lastU x = putB (byU x (szU x)) 0 (byU x (szU x) 0 ||| topU (szU x)) := rfl
  rw [← hcell, hlast]
  clear hcell hlast
  generalize szU x = k at *
  have hmk := mk_u8 k (by omega)
  have k1' : (1 : Int) ≤ k := by omega
  have k8' : (k : Int) ≤ 8 := by omega
  go_enter Try.func39, Try.ntmps39
  go_upto_region 3 with (go_at_call 50; refine hsz.mono ?_; rintro e w1 ⟨rfl, rfl⟩)
  have u1 := (Upd.refl [] w1).alloc (.cells (brow k fun _ => 0).toArray 5)
  have hO1 : Blk (w1.alloc (.cells (brow k fun _ => 0).toArray 5)) w1.heap.size (brow k fun _ => 0) 5 := Blk.new w1 (brow k fun _ => 0).toArray 5
  generalize w1.alloc (.cells (brow k fun _ => 0).toArray 5) = W1 at *
  obtain ⟨g, hg⟩ : ∃ g, w1.heap.size = g := ⟨_, rfl⟩
  have hgw : w1.heap.size ≤ g := by omega
  rw [hg] at hO1 ⊢
  have h0 : brow k (fun _ => 0) = brow k (tailU x k 0) := brow_congr fun j hj => by
    unfold tailU
    rw [if_neg (by omega)]
  rw [h0] at hO1
  clear hmk hg h0 hsz
  go_wp2_with fail
  go_loopw [11] (fun iv wr => ∃ ni : Nat, ni ≤ k ∧ iv = .int .i64 ni ∧ Blk wr g (brow k (tailU x k ni)) 5 ∧ Upd [] w1 wr) (fun iv _ => k - (intOf iv).toNat)
  case atStart => exact ⟨0, by omega, rfl, hO1, u1⟩
  case round =>
    clear hO1 u1
    obtain ⟨ni, hni, rfl, hO, hu⟩ := hrel
    obtain ⟨wo, rfl⟩ : ∃ wo, wo = wr := ⟨_, rfl⟩
    rcases Nat.lt_or_ge ni k with hlt | hge
    · have hst := Lib.hid (tailU_step x k ni hlt)
      obtain ⟨m, hm⟩ : ∃ m, k - 1 - ni = m := ⟨_, rfl⟩
      rw [hm] at hst
      have c1 := hO.cell m (brow_get _ (by omega))
      have c2 := hO.free m
      have g3 : (ni : Int) < k := by omega
      have g4 : (0 : Int) ≤ ni := by omega
      have Em : (k : Int) - 1 - (ni : Int) = (m : Int) := by omega
      have g5 : (0 : Int) ≤ m := by omega
      have g6 : (m : Int) < k := by omega
      have Hm := Lib.hid hm
      clear hm
      have hb := byte_nat x (8 * ni)
      have hO2 := hO.set m (.int .u8 ((x : Int) / 2 ^ (8 * ni) % 256))
      have hu2 := hu.setCell (p := ⟨g, m, none⟩) (Or.inr hgw) (.int .u8 ((x : Int) / 2 ^ (8 * ni) % 256))
      have HO : Hid (Blk (wo.setCell ⟨g, m, none⟩ (.int .u8 ((x : Int) / 2 ^ (8 * ni) % 256))) g (brow k (tailU x k (ni + 1))) 5) := Lib.hid (by rw [hb] at hO2 ⊢; rw [brow_set, hst.out] at hO2; exact hO2)
      have HU := Lib.hid hu2
      clear hO hu hst hb hO2 hu2
      go_wp2_with fail
      exact ⟨⟨ni + 1, by omega, by go_num, HO.out, HU.out⟩, by simp [intOf]; omega⟩
    · obtain rfl : ni = k := by omega
      rw [tailU_all] at hO
      go_upto_region 8 with fail
      obtain ⟨s1, hs1⟩ : ∃ s1, byU x ni 0 ||| topU ni = s1 := ⟨_, rfl⟩
      have V1 : Hid (bits .or .u8 ((byU x ni 0 : Nat) : Int) ((topU ni : Nat) : Int) = (s1 : Int)) := Lib.hid (by rw [← hs1]; exact u8_or_nat _ _ (byU_lt _ _ _) (Nat.mod_lt _ (by decide)))
      have HS1 := Lib.hid hs1
      clear hs1
      obtain ⟨k, rfl⟩ : ∃ k, k = ni := ⟨_, rfl⟩
      have z1 : (0 : Int) < k := by omega
      have z2 : 0 < k := by omega
      have H9 : Hid (IntKind.i64.wrap (9 - (k : Int)) = 9 - (k : Int)) := Lib.hid (by rw [IntKind.wrap_i64]; omega)
      have HT : Hid (IntKind.u8.wrap (255 * 2 ^ (9 - k)) = ((topU k : Nat) : Int)) := Lib.hid (by
        rw [IntKind.wrap_u8']
        unfold topU
        rw [Int.natCast_emod, Int.natCast_mul, Int.natCast_pow]
        rfl)
      refine wp_region_blk [(.eq (.slice (some ⟨g, 0, none⟩) k k)), (.eq (.pointer (some ⟨g, 0, none⟩))), (.eq (.int .u8 ((byU x k 0 : Nat) : Int))), (.eq (.int .i64 (k : Int))), (.eq (.int .i64 (9 - (k : Int)))), (.eq (.int .u8 ((topU k : Nat) : Int))), (.eq (.int .u8 (s1 : Int))), (.eq (.pointer (some ⟨g, 0, none⟩))), .any] [⟨8, (g), (brow k (byU x k)), (brow k (putB (byU x k) 0 s1)), (5)⟩] (by kernel_rfl) (by kernel_rfl) rfl ?ne ?pre ?step ?fin
      case ne => intro x hx y hy hxy; simp only [List.mem_cons, List.not_mem_nil, or_false] at hx hy; rcases hx with rfl <;> rcases hy with rfl <;> first | (exact absurd rfl hxy) | (dsimp only; omega)
      case pre => intro x hx; simp only [List.mem_cons, List.not_mem_nil, or_false] at hx; rcases hx with rfl <;> assumption
      case step =>
        intro i o ho a w' hS hold hneed hun K' hK
        match i, ho with
        | 0, ho =>
          obtain rfl := Option.some.inj ho
          have q8 := hun 8 (.inr (by kernel_rfl))
          replace hneed := fun j hj => (hneed j hj).2
          replace hK := fun v w1 h u => hK v w1 h trivial u
          clear hun
          have d4 := hold 4 _ (by kernel_rfl) rfl
          clear hold hneed ho
          (go_simp; exact hK _ _ rfl (Upd.refl [] _))
        | 1, ho =>
          obtain rfl := Option.some.inj ho
          have q8 := hun 8 (.inr (by kernel_rfl))
          replace hneed := fun j hj => (hneed j hj).2
          replace hK := fun v w1 h u => hK v w1 h trivial u
          clear hun
          have d26 := get_of_at (hneed 0 (of_decide_eq_true (by kernel_rfl)) 26 rfl) (by simp [undef])
          clear hold hneed ho
          (go_simp; exact hK _ _ rfl (Upd.refl [] _))
        | 2, ho =>
          obtain rfl := Option.some.inj ho
          have q8 := hun 8 (.inr (by kernel_rfl))
          replace hneed := fun j hj => (hneed j hj).2
          replace hK := fun v w1 h u => hK v w1 h trivial u
          clear hun
          have d27 := get_of_at (hneed 1 (of_decide_eq_true (by kernel_rfl)) 27 rfl) (by simp [undef])
          clear hold hneed ho
          (have p0 := q8.cell 0 (brow_get _ (by omega)); go_simp; exact hK _ _ rfl (Upd.refl [] _))
        | 3, ho =>
          obtain rfl := Option.some.inj ho
          have q8 := hun 8 (.inr (by kernel_rfl))
          replace hneed := fun j hj => (hneed j hj).2
          replace hK := fun v w1 h u => hK v w1 h trivial u
          clear hun
          have d3 := hold 3 _ (by kernel_rfl) rfl
          clear hold hneed ho
          (go_simp; exact hK _ _ rfl (Upd.refl [] _))
        | 4, ho =>
          obtain rfl := Option.some.inj ho
          have q8 := hun 8 (.inr (by kernel_rfl))
          replace hneed := fun j hj => (hneed j hj).2
          replace hK := fun v w1 h u => hK v w1 h trivial u
          clear hun
          have d29 := get_of_at (hneed 3 (of_decide_eq_true (by kernel_rfl)) 29 rfl) (by simp [undef])
          clear hold hneed ho
          (go_simp; first | exact hK _ _ rfl (Upd.refl [] _) | (rw [H9.out]; exact hK _ _ rfl (Upd.refl [] _)))
        | 5, ho =>
          obtain rfl := Option.some.inj ho
          have q8 := hun 8 (.inr (by kernel_rfl))
          replace hneed := fun j hj => (hneed j hj).2
          replace hK := fun v w1 h u => hK v w1 h trivial u
          clear hun
          have d30 := get_of_at (hneed 4 (of_decide_eq_true (by kernel_rfl)) 30 rfl) (by simp [undef])
          clear hold hneed ho
          (go_simp; rw [HT.out]; exact hK _ _ rfl (Upd.refl [] _))
        | 6, ho =>
          obtain rfl := Option.some.inj ho
          have q8 := hun 8 (.inr (by kernel_rfl))
          replace hneed := fun j hj => (hneed j hj).2
          replace hK := fun v w1 h u => hK v w1 h trivial u
          clear hun
          have d28 := get_of_at (hneed 2 (of_decide_eq_true (by kernel_rfl)) 28 rfl) (by simp [undef])
          have d31 := get_of_at (hneed 5 (of_decide_eq_true (by kernel_rfl)) 31 rfl) (by simp [undef])
          clear hold hneed ho
          (go_simp; rw [V1.out]; exact hK _ _ rfl (Upd.refl [] _))
        | 7, ho =>
          obtain rfl := Option.some.inj ho
          have q8 := hun 8 (.inr (by kernel_rfl))
          replace hneed := fun j hj => (hneed j hj).2
          replace hK := fun v w1 h u => hK v w1 h trivial u
          clear hun
          have d26 := get_of_at (hneed 0 (of_decide_eq_true (by kernel_rfl)) 26 rfl) (by simp [undef])
          clear hold hneed ho
          (go_simp; exact hK _ _ rfl (Upd.refl [] _))
        | 8, ho =>
          obtain rfl := Option.some.inj ho
          have q8 := hun 8 (.inl rfl)
          change Blk _ _ _ _ at q8
          replace hneed := fun j hj => (hneed j hj).2
          clear hun
          have d33 := get_of_at (hneed 7 (of_decide_eq_true (by kernel_rfl)) 33 rfl) (by simp [undef])
          have d32 := get_of_at (hneed 6 (of_decide_eq_true (by kernel_rfl)) 32 rfl) (by simp [undef])
          clear hold hneed ho
          (have p0 := q8.cell 0 (brow_get _ (by omega)); have f0 := q8.free 0; have hq := q8.set 0 (.int .u8 (s1 : Int)); rw [brow_set] at hq; go_simp; exact hK undef _ trivial hq ((Upd.refl _ _).setCell (Or.inl (by simp [effOf, BE.eff])) _))
        | _ + 9, ho => exact absurd ho (by simp)
      case fin =>
        intro a w' hS hsz hdf hold hvals hposts
        have hP8 : Blk w' (g) (brow k (putB (byU x k) 0 s1)) (5) := hposts 8 (of_decide_eq_true (by kernel_rfl))
        have ha := act_lit hsz hdf (RowIs.cons (at_of_get (hold 0 _ (by kernel_rfl) rfl)) (RowIs.cons (at_of_get (hold 1 _ (by kernel_rfl) rfl)) (RowIs.cons (at_of_get (hold 2 _ (by kernel_rfl) rfl)) (RowIs.cons (at_of_get (hold 3 _ (by kernel_rfl) rfl)) (RowIs.cons (at_of_get (hold 4 _ (by kernel_rfl) rfl)) (RowIs.cons (at_of_get (hold 5 _ (by kernel_rfl) rfl)) (RowIs.cons (at_of_get (hold 6 _ (by kernel_rfl) rfl)) (RowIs.cons (at_of_get (hold 7 _ (by kernel_rfl) rfl)) (RowIs.cons (at_of_get (hold 8 _ (by kernel_rfl) rfl)) (RowIs.cons (at_of_get (hold 9 _ (by kernel_rfl) rfl)) (RowIs.cons (at_of_get (hold 10 _ (by kernel_rfl) rfl)) (RowIs.cons (at_of_get (hold 11 _ (by kernel_rfl) rfl)) (RowIs.cons (at_of_get (hold 12 _ (by kernel_rfl) rfl)) (RowIs.cons (at_of_get (hold 13 _ (by kernel_rfl) rfl)) (RowIs.cons (at_of_get (hold 14 _ (by kernel_rfl) rfl)) (RowIs.cons (at_of_get (hold 15 _ (by kernel_rfl) rfl)) (RowIs.cons (at_of_get (hold 16 _ (by kernel_rfl) rfl)) (RowIs.cons (at_of_get (hold 17 _ (by kernel_rfl) rfl)) (RowIs.cons (at_of_get (hold 18 _ (by kernel_rfl) rfl)) (RowIs.cons (at_of_get (hold 19 _ (by kernel_rfl) rfl)) (RowIs.cons (at_of_get (hold 20 _ (by kernel_rfl) rfl)) (RowIs.cons (at_of_get (hold 21 _ (by kernel_rfl) rfl)) (RowIs.cons (at_of_get (hold 22 _ (by kernel_rfl) rfl)) (RowIs.cons (at_of_get (hold 23 _ (by kernel_rfl) rfl)) (RowIs.cons (at_of_get (hold 24 _ (by kernel_rfl) rfl)) (RowIs.cons (at_of_get (hold 25 _ (by kernel_rfl) rfl)) (RowIs.cons (hvals 0 26 rfl) (RowIs.cons (hvals 1 27 rfl) (RowIs.cons (hvals 2 28 rfl) (RowIs.cons (hvals 3 29 rfl) (RowIs.cons (hvals 4 30 rfl) (RowIs.cons (hvals 5 31 rfl) (RowIs.cons (hvals 6 32 rfl) (RowIs.cons (hvals 7 33 rfl) (RowIs.cons (at_of_get (hold 34 _ (by kernel_rfl) rfl)) (RowIs.nil _ _)))))))))))))))))))))))))))))))))))) rfl
        clear hsz hdf hold hvals hposts
        subst ha
        try simp only [List.getElem_toArray, List.getElem_cons_succ, List.getElem_cons_zero]
        have t1 := hu.trans_nil' hS (by simpa using hgw)
        go_wp2_with fail
        go_ret
        rw [← HS1.out] at hP8
        exact ⟨g, rfl, hgw, hP8, t1⟩

theorem u_ok (n : Nat) (hn : n < 9007199254740992) (w : World) : Calls Try.prog 19 #[.int .i64 (n : Int)] w fun e w' => ∃ g, e = .returned (.tuple #[.slice (some ⟨g, 0, none⟩) (szU n) (szU n), .int .i64 0]) ∧ w.heap.size ≤ g ∧ Blk w' g (u8s (rowU n)) 5 ∧ Upd [] w w' := by
  have hr := drow_walk n hn w
  have h1 : (0 : Int) ≤ n := by omega
  have h2 : (n : Int) ≤ 9007199254740991 := by omega
  generalize u8s (rowU n) = L at *
  generalize szU n = k at *
  go_enter Try.func19, Try.ntmps19
  go_wp2_with (go_at_call 39; refine hr.mono ?_; rintro e w1 ⟨g, rfl, h3, h4, h5⟩)
  go_ret2
  exact ⟨g, rfl, h3, h4, h5⟩
theorem u_no (n : Int) (hn : n < 0 ∨ 9007199254740991 < n) (w : World) : Calls Try.prog 19 #[.int .i64 n] w fun e w' => e = .returned (.tuple #[.slice none 0 0, .int .i64 9]) ∧ w' = w := by
  rcases Int.lt_or_le n 0 with h0 | h0
  · go_enter Try.func19, Try.ntmps19
    go_wp2_with fail
    go_ret2
    exact ⟨rfl, rfl⟩
  · have h1 : 9007199254740991 < n := by omega
    go_enter Try.func19, Try.ntmps19
    go_wp2_with fail
    go_ret2
    exact ⟨rfl, rfl⟩

end Go.Proofs.Ytppbaahaegmgeaa
