/- The document's digits times a number: the walk. -/
import Derived.Test.YtclfmgkomkmbjaaDoorRfD
import Derived.Test.YtclfmgkomkmbjaaDoorRfB
import Derived.Laws.MakeOwn
import Derived.Laws.Bits64b
namespace Go.Proofs.YtclfmgkomkmbjaaDoor
open Go.RowKit

def urow (n : Nat) (f : Nat → Nat) : List Value := row n fun k => .int .u64 ((f k : Nat) : Int)
theorem urow_get {n : Nat} (f : Nat → Nat) {i : Nat} (hi : i < n) : (urow n f)[i]? = some (.int .u64 (f i : Int)) := row_get _ hi
theorem urow_set (n : Nat) (f : Nat → Nat) (i v : Nat) : (urow n f).set i (.int .u64 (v : Int)) = urow n (setN f i v) := by
  unfold urow
  rw [row_set]
  apply row_congr
  intro j _
  unfold put1 setN
  dsimp only
  split <;> rfl
theorem setN_bump (f : Nat → Nat) (i v : Nat) : setN f i (f i + v) = bump f i v := by
  funext k; unfold setN bump
  by_cases h : k = i
  · subst h; simp
  · rw [if_neg h, if_neg h]
theorem u64_wrap (n : Nat) (h : n < 18446744073709551616) : IntKind.u64.wrap (n : Int) = n := by rw [IntKind.wrap_u64]; omega
theorem i64_wrap (n : Nat) (h : n < 9223372036854775808) : IntKind.i64.wrap (n : Int) = n := by rw [IntKind.wrap_i64]; omega
theorem and_65535 (n : Nat) (h : n < 18446744073709551616) : bits .and .u64 (n : Int) 65535 = ((n % 65536 : Nat) : Int) := by
  have := bits_and_u64_nat n 65535 h (by decide)
  rw [show (65535 : Int) = ((65535 : Nat) : Int) from rfl, this]
  congr 1
  exact Nat.and_two_pow_sub_one_eq_mod n 16
theorem u64_info : (Tryd.prog.info? 71).map (fun i => (i.zero, i.size, i.bytes)) = some (some (.int .u64 0), 1, 8) := by kernel_rfl
theorem mk_u64 (n : Nat) (hn : n ≤ 1000) (w : World) : (Instr.makeSlice 94 (.int .i64 n) (.int .i64 n)).run Tryd.prog w = .ok (.slice (some ⟨w.heap.size, 0, none⟩) n n) (w.alloc (.cells (urow n fun _ => 0).toArray 71)) := by
  obtain ⟨i0, hi, hz0, hz1, hz2⟩ := info_parts u64_info
  have := run_make (P := Tryd.prog) w 94 71 i0 (.int .u64 0) Tryd.underlying94 hi hz0 .i64 .i64 n n (by omega) (by omega) (by rw [hz2]; omega) (by omega)
  rw [hz1] at this
  have e : madeCells (Value.int .u64 0).cells (n * 1) = (urow n fun _ => 0).toArray := by
    apply Array.ext'
    rw [Nat.mul_one, List.toList_toArray]
    show (madeCells #[Value.int .u64 0] n).toList = _
    apply List.ext_getElem?
    intro j
    by_cases hj : j < n
    · rw [urow_get _ hj]; simp [madeCells, hj, Nat.mod_one]
    · rw [List.getElem?_eq_none (by simp [madeCells]; omega), List.getElem?_eq_none (by simp [urow, row]; omega)]
  rw [Int.toNat_natCast, e] at this
  exact this

set_option maxRecDepth 100000 in
set_option maxHeartbeats 8000000 in
theorem rtimes (ab c L n : Nat) (A : Nat → Nat) (w : World) (hA : Blk w ab (urow L A) 71) (hAb : ∀ k, A k < 65536) (hL1 : 1 ≤ L) (hL : L ≤ 16) (hn : n < 1099511627776) :
    Calls Tryd.prog 55 #[.slice (some ⟨ab, 0, none⟩) L c, .int .u64 n] w fun e w' => ∃ ob, e = .returned (.slice (some ⟨ob, 0, none⟩) (L + 3) (L + 3)) ∧ w.heap.size ≤ ob ∧ Blk w' ob (urow (L + 3) (prodD A L n)) 71 ∧ Upd [] w w' := by
  obtain ⟨l, hl⟩ : ∃ l, n % 65536 = l := ⟨_, rfl⟩
  obtain ⟨m, hm⟩ : ∃ m, n / 65536 % 65536 = m := ⟨_, rfl⟩
  obtain ⟨h, hh⟩ : ∃ h, n / 4294967296 = h := ⟨_, rfl⟩
  have hP : Hid (prodD A L n = car (acc A l m h L) (L + 2)) := Lib.hid (by unfold prodD; rw [hl, hm, hh])
  have e1 : bits .and .u64 (n : Int) 65535 = (l : Int) := by rw [and_65535 n (by omega), hl]
  have e2 : bits .and .u64 ((n : Int) / 65536) 65535 = (m : Int) := by rw [show (n : Int) / 65536 = ((n / 65536 : Nat) : Int) by omega, and_65535 _ (by omega), hm]
  have e3 : (n : Int) / 4294967296 = (h : Int) := by omega
  have hl2 : l < 65536 := by omega
  have hm2 : m < 65536 := by omega
  have hh2 : h < 65536 := by omega
  have hMl : ∀ i, A i * l ≤ 4294836225 ∧ A i * m ≤ 4294836225 ∧ A i * h ≤ 4294836225 := fun i => by
    have := hAb i
    exact ⟨Nat.le_trans (Nat.mul_le_mul (Nat.le_of_lt_succ this) (Nat.le_of_lt_succ hl2)) (by decide), Nat.le_trans (Nat.mul_le_mul (Nat.le_of_lt_succ this) (Nat.le_of_lt_succ hm2)) (by decide), Nat.le_trans (Nat.mul_le_mul (Nat.le_of_lt_succ this) (Nat.le_of_lt_succ hh2)) (by decide)⟩
  have hbd := acc_bd A l m h 4294836225 hMl
  clear hl hm hh
  have hmk := mk_u64 (L + 3) (by omega)
  have hL3 : ((L + 3 : Nat) : Int) = (L : Int) + 3 := by omega
  rw [hL3] at hmk
  go_enter Tryd.func55, Tryd.ntmps55
  go_upto_region 2 with fail
  have u1 := (Upd.refl [] w).alloc (.cells (urow (L + 3) fun _ => 0).toArray 71)
  have hO1 := Blk.new w (urow (L + 3) fun _ => 0).toArray 71
  have hA1 := hA.alloc (.cells (urow (L + 3) fun _ => 0).toArray 71)
  have hal0 := hA.lt
  generalize w.alloc (.cells (urow (L + 3) fun _ => 0).toArray 71) = W1 at *
  obtain ⟨ob, hob⟩ : ∃ ob, w.heap.size = ob := ⟨_, rfl⟩
  obtain ⟨L3, hL3'⟩ : ∃ L3, L + 3 = L3 := ⟨_, rfl⟩
  have hobw : w.heap.size ≤ ob := by omega
  have hab : ab ≠ ob := by omega
  rw [hob, hL3']
  rw [hob, hL3'] at hO1
  have HL3 := Lib.hid hL3'
  have hL31 : L3 = L + 3 := hL3'.symm
  have HL31 := Lib.hid hL31
  simp only [List.toList_toArray] at hO1
  clear hob hmk hL3 hA hL31 hL3'
  go_wp2_with fail
  go_loopw [6] (fun iv wr => ∃ ni : Nat, ni ≤ L ∧ iv = .int .i64 ni ∧ Blk wr ob (urow L3 (acc A l m h ni)) 71 ∧ Blk wr ab (urow L A) 71 ∧ Upd [] w wr) (fun iv _ => L - (intOf iv).toNat)
  case atStart => exact ⟨0, by omega, rfl, hO1, hA1, u1⟩
  case round =>
    clear hO1 hA1 u1
    obtain ⟨ni, hni, rfl, hO, hA, hu⟩ := hrel
    obtain ⟨wo, rfl⟩ : ∃ wo, wo = wr := ⟨_, rfl⟩
    by_cases hlt : ni < L
    · have Hacc : Hid (acc A l m h (ni + 1) = bump (bump (bump (acc A l m h ni) ni (A ni * l)) (ni + 1) (A ni * m)) (ni + 2) (A ni * h)) := Lib.hid rfl
      have hfb := hbd ni
      have hfb2 : ni * 4294836225 ≤ 16 * 4294836225 := Nat.mul_le_mul_right _ (by omega)
      obtain ⟨q1, q2, q3⟩ := hMl ni
      generalize acc A l m h ni = f at *
      obtain ⟨x1, hx1⟩ : ∃ x1, A ni * l = x1 := ⟨_, rfl⟩
      obtain ⟨x2, hx2⟩ : ∃ x2, A ni * m = x2 := ⟨_, rfl⟩
      obtain ⟨x3, hx3⟩ : ∃ x3, A ni * h = x3 := ⟨_, rfl⟩
      rw [hx1] at q1 Hacc
      rw [hx2] at q2 Hacc
      rw [hx3] at q3 Hacc
      obtain ⟨n1, hn1⟩ : ∃ n1, ni + 1 = n1 := ⟨_, rfl⟩
      obtain ⟨n2, hn2⟩ : ∃ n2, ni + 2 = n2 := ⟨_, rfl⟩
      rw [hn1, hn2] at Hacc
      have En1 : Hid (IntKind.i64.wrap ((ni : Int) + 1) = (n1 : Int)) := Lib.hid (by rw [IntKind.wrap_i64]; omega)
      have En2 : Hid (IntKind.i64.wrap ((ni : Int) + 2) = (n2 : Int)) := Lib.hid (by rw [IntKind.wrap_i64]; omega)
      have W1 : Hid (IntKind.u64.wrap ((A ni : Int) * (l : Int)) = (x1 : Int)) := Lib.hid (by rw [← Int.natCast_mul, hx1]; exact u64_wrap _ (by omega))
      have W2 : Hid (IntKind.u64.wrap ((A ni : Int) * (m : Int)) = (x2 : Int)) := Lib.hid (by rw [← Int.natCast_mul, hx2]; exact u64_wrap _ (by omega))
      have W3 : Hid (IntKind.u64.wrap ((A ni : Int) * (h : Int)) = (x3 : Int)) := Lib.hid (by rw [← Int.natCast_mul, hx3]; exact u64_wrap _ (by omega))
      have hL3n : ni + 2 < L3 := by have := HL31.out; omega
      have g1 : (0 : Int) ≤ ni := by omega
      have g2 : (ni : Int) < L3 := by omega
      have g4 : (ni : Int) < L := by omega
      have g5 : (0 : Int) ≤ n1 := by omega
      have g6 : (n1 : Int) < L3 := by omega
      have g7 : (0 : Int) ≤ n2 := by omega
      have g8 : (n2 : Int) < L3 := by omega
      have l0 : ni < L3 := by omega
      have l1 : n1 < L3 := by omega
      have l2 : n2 < L3 := by omega
      have hb : ∀ k, f k ≤ 16 * 4294836225 := fun k => Nat.le_trans (hfb k) hfb2
      clear hx1 hx2 hx3 hfb hfb2
      have Hn1 := Lib.hid hn1
      clear hn1 hn2
      have cA := hA.cell ni (urow_get _ hlt)
      have hal := hA.lt
      obtain ⟨s1, hs1⟩ : ∃ s1, f ni + x1 = s1 := ⟨_, rfl⟩
      have V1 : Hid (IntKind.u64.wrap ((f ni : Int) + (x1 : Int)) = (s1 : Int)) := Lib.hid (by have := hb ni; rw [← Int.natCast_add, hs1]; exact u64_wrap _ (by omega))
      have S1 : Hid (setN f ni s1 = bump f ni x1) := Lib.hid (by rw [← hs1, setN_bump])
      clear hs1
      go_upto_region 6 with fail
      refine wp_region_blk [(.eq (.slice (some ⟨ob, 0, none⟩) L3 L3)), (.eq (.int .i64 (ni : Int))), (.eq (.slice (some ⟨ob, 0, none⟩) L3 L3)), (.eq (.int .i64 (ni : Int))), (.eq (.pointer (some ⟨ob, ni, none⟩))), (.eq (.int .u64 (f ni : Int))), (.eq (.slice (some ⟨ab, 0, none⟩) L c)), (.eq (.int .i64 (ni : Int))), (.eq (.pointer (some ⟨ab, ni, none⟩))), (.eq (.int .u64 (A ni : Int))), (.eq (.int .u64 (l : Int))), (.eq (.int .u64 (x1 : Int))), (.eq (.int .u64 (s1 : Int))), (.eq (.pointer (some ⟨ob, ni, none⟩))), .any] [⟨14, (ob), (urow L3 f), (urow L3 (bump f ni x1)), (71)⟩] (by kernel_rfl) (by kernel_rfl) rfl ?ne ?pre ?step ?fin
      case ne => intro x hx y hy hxy; simp only [List.mem_cons, List.not_mem_nil, or_false] at hx hy; rcases hx with rfl <;> rcases hy with rfl <;> first | (exact absurd rfl hxy) | (dsimp only; omega)
      case pre => intro x hx; simp only [List.mem_cons, List.not_mem_nil, or_false] at hx; rcases hx with rfl <;> assumption
      case step =>
        intro i o ho a w' hS hold hneed hun K' hK
        match i, ho with
        | 0, ho =>
          obtain rfl := Option.some.inj ho
          have q14 := hun 14 (.inr (by kernel_rfl))
          replace hneed := fun j hj => (hneed j hj).2
          replace hK := fun v w1 h u => hK v w1 h trivial u
          clear hun
          have d5 := hold 5 _ (by kernel_rfl) rfl
          clear hold hneed ho
          (go_simp; exact hK _ _ rfl (Upd.refl [] _))
        | 1, ho =>
          obtain rfl := Option.some.inj ho
          have q14 := hun 14 (.inr (by kernel_rfl))
          replace hneed := fun j hj => (hneed j hj).2
          replace hK := fun v w1 h u => hK v w1 h trivial u
          clear hun
          have d6 := hold 6 _ (by kernel_rfl) rfl
          clear hold hneed ho
          (go_simp; exact hK _ _ rfl (Upd.refl [] _))
        | 2, ho =>
          obtain rfl := Option.some.inj ho
          have q14 := hun 14 (.inr (by kernel_rfl))
          replace hneed := fun j hj => (hneed j hj).2
          replace hK := fun v w1 h u => hK v w1 h trivial u
          clear hun
          have d5 := hold 5 _ (by kernel_rfl) rfl
          clear hold hneed ho
          (go_simp; exact hK _ _ rfl (Upd.refl [] _))
        | 3, ho =>
          obtain rfl := Option.some.inj ho
          have q14 := hun 14 (.inr (by kernel_rfl))
          replace hneed := fun j hj => (hneed j hj).2
          replace hK := fun v w1 h u => hK v w1 h trivial u
          clear hun
          have d6 := hold 6 _ (by kernel_rfl) rfl
          clear hold hneed ho
          (go_simp; exact hK _ _ rfl (Upd.refl [] _))
        | 4, ho =>
          obtain rfl := Option.some.inj ho
          have q14 := hun 14 (.inr (by kernel_rfl))
          replace hneed := fun j hj => (hneed j hj).2
          replace hK := fun v w1 h u => hK v w1 h trivial u
          clear hun
          have d30 := get_of_at (hneed 2 (of_decide_eq_true (by kernel_rfl)) 30 rfl) (by simp [undef])
          have d31 := get_of_at (hneed 3 (of_decide_eq_true (by kernel_rfl)) 31 rfl) (by simp [undef])
          clear hold hneed ho
          (go_simp; exact hK _ _ rfl (Upd.refl [] _))
        | 5, ho =>
          obtain rfl := Option.some.inj ho
          have q14 := hun 14 (.inr (by kernel_rfl))
          replace hneed := fun j hj => (hneed j hj).2
          replace hK := fun v w1 h u => hK v w1 h trivial u
          clear hun
          have d32 := get_of_at (hneed 4 (of_decide_eq_true (by kernel_rfl)) 32 rfl) (by simp [undef])
          clear hold hneed ho
          (have p0 := q14.cell ni (urow_get _ (by omega)); go_simp; exact hK _ _ rfl (Upd.refl [] _))
        | 6, ho =>
          obtain rfl := Option.some.inj ho
          have q14 := hun 14 (.inr (by kernel_rfl))
          replace hneed := fun j hj => (hneed j hj).2
          replace hK := fun v w1 h u => hK v w1 h trivial u
          clear hun
          have d0 := hold 0 _ (by kernel_rfl) rfl
          clear hold hneed ho
          (go_simp; exact hK _ _ rfl (Upd.refl [] _))
        | 7, ho =>
          obtain rfl := Option.some.inj ho
          have q14 := hun 14 (.inr (by kernel_rfl))
          replace hneed := fun j hj => (hneed j hj).2
          replace hK := fun v w1 h u => hK v w1 h trivial u
          clear hun
          have d6 := hold 6 _ (by kernel_rfl) rfl
          clear hold hneed ho
          (go_simp; exact hK _ _ rfl (Upd.refl [] _))
        | 8, ho =>
          obtain rfl := Option.some.inj ho
          have q14 := hun 14 (.inr (by kernel_rfl))
          replace hneed := fun j hj => (hneed j hj).2
          replace hK := fun v w1 h u => hK v w1 h trivial u
          clear hun
          have d34 := get_of_at (hneed 6 (of_decide_eq_true (by kernel_rfl)) 34 rfl) (by simp [undef])
          have d35 := get_of_at (hneed 7 (of_decide_eq_true (by kernel_rfl)) 35 rfl) (by simp [undef])
          clear hold hneed ho
          (go_simp; exact hK _ _ rfl (Upd.refl [] _))
        | 9, ho =>
          obtain rfl := Option.some.inj ho
          have q14 := hun 14 (.inr (by kernel_rfl))
          replace hneed := fun j hj => (hneed j hj).2
          replace hK := fun v w1 h u => hK v w1 h trivial u
          clear hun
          have d36 := get_of_at (hneed 8 (of_decide_eq_true (by kernel_rfl)) 36 rfl) (by simp [undef])
          clear hold hneed ho
          (have p0 := (hS.cell (a := ⟨ab, ni, none⟩) hal (by simpa using hab)).trans cA; go_simp; exact hK _ _ rfl (Upd.refl [] _))
        | 10, ho =>
          obtain rfl := Option.some.inj ho
          have q14 := hun 14 (.inr (by kernel_rfl))
          replace hneed := fun j hj => (hneed j hj).2
          replace hK := fun v w1 h u => hK v w1 h trivial u
          clear hun
          have d7 := hold 7 _ (by kernel_rfl) rfl
          clear hold hneed ho
          (go_simp; exact hK _ _ rfl (Upd.refl [] _))
        | 11, ho =>
          obtain rfl := Option.some.inj ho
          have q14 := hun 14 (.inr (by kernel_rfl))
          replace hneed := fun j hj => (hneed j hj).2
          replace hK := fun v w1 h u => hK v w1 h trivial u
          clear hun
          have d37 := get_of_at (hneed 9 (of_decide_eq_true (by kernel_rfl)) 37 rfl) (by simp [undef])
          have d38 := get_of_at (hneed 10 (of_decide_eq_true (by kernel_rfl)) 38 rfl) (by simp [undef])
          clear hold hneed ho
          (go_simp; rw [W1.out]; exact hK _ _ rfl (Upd.refl [] _))
        | 12, ho =>
          obtain rfl := Option.some.inj ho
          have q14 := hun 14 (.inr (by kernel_rfl))
          replace hneed := fun j hj => (hneed j hj).2
          replace hK := fun v w1 h u => hK v w1 h trivial u
          clear hun
          have d33 := get_of_at (hneed 5 (of_decide_eq_true (by kernel_rfl)) 33 rfl) (by simp [undef])
          have d39 := get_of_at (hneed 11 (of_decide_eq_true (by kernel_rfl)) 39 rfl) (by simp [undef])
          clear hold hneed ho
          (go_simp; rw [V1.out]; exact hK _ _ rfl (Upd.refl [] _))
        | 13, ho =>
          obtain rfl := Option.some.inj ho
          have q14 := hun 14 (.inr (by kernel_rfl))
          replace hneed := fun j hj => (hneed j hj).2
          replace hK := fun v w1 h u => hK v w1 h trivial u
          clear hun
          have d28 := get_of_at (hneed 0 (of_decide_eq_true (by kernel_rfl)) 28 rfl) (by simp [undef])
          have d29 := get_of_at (hneed 1 (of_decide_eq_true (by kernel_rfl)) 29 rfl) (by simp [undef])
          clear hold hneed ho
          (go_simp; exact hK _ _ rfl (Upd.refl [] _))
        | 14, ho =>
          obtain rfl := Option.some.inj ho
          have q14 := hun 14 (.inl rfl)
          change Blk _ _ _ _ at q14
          replace hneed := fun j hj => (hneed j hj).2
          clear hun
          have d41 := get_of_at (hneed 13 (of_decide_eq_true (by kernel_rfl)) 41 rfl) (by simp [undef])
          have d40 := get_of_at (hneed 12 (of_decide_eq_true (by kernel_rfl)) 40 rfl) (by simp [undef])
          clear hold hneed ho
          (have p0 := q14.cell ni (urow_get _ (by omega)); have f0 := q14.free ni; have hq := q14.set ni (.int .u64 (s1 : Int)); rw [urow_set, S1.out] at hq; go_simp; exact hK undef _ trivial hq ((Upd.refl _ _).setCell (Or.inl (by simp [effOf, BE.eff])) _))
        | _ + 15, ho => exact absurd ho (by simp)
      case fin =>
        intro a w' hS hsz hdf hold hvals hposts
        have hP14 : Blk w' (ob) (urow L3 (bump f ni x1)) (71) := hposts 14 (of_decide_eq_true (by kernel_rfl))
        have ha := act_lit hsz hdf (RowIs.cons (at_of_get (hold 0 _ (by kernel_rfl) rfl)) (RowIs.cons (at_of_get (hold 1 _ (by kernel_rfl) rfl)) (RowIs.cons (at_of_get (hold 2 _ (by kernel_rfl) rfl)) (RowIs.cons (at_of_get (hold 3 _ (by kernel_rfl) rfl)) (RowIs.cons (at_of_get (hold 4 _ (by kernel_rfl) rfl)) (RowIs.cons (at_of_get (hold 5 _ (by kernel_rfl) rfl)) (RowIs.cons (at_of_get (hold 6 _ (by kernel_rfl) rfl)) (RowIs.cons (at_of_get (hold 7 _ (by kernel_rfl) rfl)) (RowIs.cons (at_of_get (hold 8 _ (by kernel_rfl) rfl)) (RowIs.cons (at_of_get (hold 9 _ (by kernel_rfl) rfl)) (RowIs.cons (at_of_get (hold 10 _ (by kernel_rfl) rfl)) (RowIs.cons (at_of_get (hold 11 _ (by kernel_rfl) rfl)) (RowIs.cons (at_of_get (hold 12 _ (by kernel_rfl) rfl)) (RowIs.cons (at_of_get (hold 13 _ (by kernel_rfl) rfl)) (RowIs.cons (at_of_get (hold 14 _ (by kernel_rfl) rfl)) (RowIs.cons (at_of_get (hold 15 _ (by kernel_rfl) rfl)) (RowIs.cons (at_of_get (hold 16 _ (by kernel_rfl) rfl)) (RowIs.cons (at_of_get (hold 17 _ (by kernel_rfl) rfl)) (RowIs.cons (at_of_get (hold 18 _ (by kernel_rfl) rfl)) (RowIs.cons (at_of_get (hold 19 _ (by kernel_rfl) rfl)) (RowIs.cons (at_of_get (hold 20 _ (by kernel_rfl) rfl)) (RowIs.cons (at_of_get (hold 21 _ (by kernel_rfl) rfl)) (RowIs.cons (at_of_get (hold 22 _ (by kernel_rfl) rfl)) (RowIs.cons (at_of_get (hold 23 _ (by kernel_rfl) rfl)) (RowIs.cons (at_of_get (hold 24 _ (by kernel_rfl) rfl)) (RowIs.cons (at_of_get (hold 25 _ (by kernel_rfl) rfl)) (RowIs.cons (at_of_get (hold 26 _ (by kernel_rfl) rfl)) (RowIs.cons (at_of_get (hold 27 _ (by kernel_rfl) rfl)) (RowIs.cons (hvals 0 28 rfl) (RowIs.cons (hvals 1 29 rfl) (RowIs.cons (hvals 2 30 rfl) (RowIs.cons (hvals 3 31 rfl) (RowIs.cons (hvals 4 32 rfl) (RowIs.cons (hvals 5 33 rfl) (RowIs.cons (hvals 6 34 rfl) (RowIs.cons (hvals 7 35 rfl) (RowIs.cons (hvals 8 36 rfl) (RowIs.cons (hvals 9 37 rfl) (RowIs.cons (hvals 10 38 rfl) (RowIs.cons (hvals 11 39 rfl) (RowIs.cons (hvals 12 40 rfl) (RowIs.cons (hvals 13 41 rfl) (RowIs.cons (at_of_get (hold 42 _ (by kernel_rfl) rfl)) (RowIs.cons (at_of_get (hold 43 _ (by kernel_rfl) rfl)) (RowIs.cons (at_of_get (hold 44 _ (by kernel_rfl) rfl)) (RowIs.cons (at_of_get (hold 45 _ (by kernel_rfl) rfl)) (RowIs.cons (at_of_get (hold 46 _ (by kernel_rfl) rfl)) (RowIs.cons (at_of_get (hold 47 _ (by kernel_rfl) rfl)) (RowIs.cons (at_of_get (hold 48 _ (by kernel_rfl) rfl)) (RowIs.cons (at_of_get (hold 49 _ (by kernel_rfl) rfl)) (RowIs.cons (at_of_get (hold 50 _ (by kernel_rfl) rfl)) (RowIs.cons (at_of_get (hold 51 _ (by kernel_rfl) rfl)) (RowIs.cons (at_of_get (hold 52 _ (by kernel_rfl) rfl)) (RowIs.cons (at_of_get (hold 53 _ (by kernel_rfl) rfl)) (RowIs.cons (at_of_get (hold 54 _ (by kernel_rfl) rfl)) (RowIs.cons (at_of_get (hold 55 _ (by kernel_rfl) rfl)) (RowIs.cons (at_of_get (hold 56 _ (by kernel_rfl) rfl)) (RowIs.cons (at_of_get (hold 57 _ (by kernel_rfl) rfl)) (RowIs.cons (at_of_get (hold 58 _ (by kernel_rfl) rfl)) (RowIs.cons (at_of_get (hold 59 _ (by kernel_rfl) rfl)) (RowIs.cons (at_of_get (hold 60 _ (by kernel_rfl) rfl)) (RowIs.cons (at_of_get (hold 61 _ (by kernel_rfl) rfl)) (RowIs.cons (at_of_get (hold 62 _ (by kernel_rfl) rfl)) (RowIs.cons (at_of_get (hold 63 _ (by kernel_rfl) rfl)) (RowIs.cons (at_of_get (hold 64 _ (by kernel_rfl) rfl)) (RowIs.cons (at_of_get (hold 65 _ (by kernel_rfl) rfl)) (RowIs.cons (at_of_get (hold 66 _ (by kernel_rfl) rfl)) (RowIs.cons (at_of_get (hold 67 _ (by kernel_rfl) rfl)) (RowIs.cons (at_of_get (hold 68 _ (by kernel_rfl) rfl)) (RowIs.cons (at_of_get (hold 69 _ (by kernel_rfl) rfl)) (RowIs.cons (at_of_get (hold 70 _ (by kernel_rfl) rfl)) (RowIs.cons (at_of_get (hold 71 _ (by kernel_rfl) rfl)) (RowIs.cons (at_of_get (hold 72 _ (by kernel_rfl) rfl)) (RowIs.cons (at_of_get (hold 73 _ (by kernel_rfl) rfl)) (RowIs.cons (at_of_get (hold 74 _ (by kernel_rfl) rfl)) (RowIs.cons (at_of_get (hold 75 _ (by kernel_rfl) rfl)) (RowIs.cons (at_of_get (hold 76 _ (by kernel_rfl) rfl)) (RowIs.cons (at_of_get (hold 77 _ (by kernel_rfl) rfl)) (RowIs.cons (at_of_get (hold 78 _ (by kernel_rfl) rfl)) (RowIs.cons (at_of_get (hold 79 _ (by kernel_rfl) rfl)) (RowIs.cons (at_of_get (hold 80 _ (by kernel_rfl) rfl)) (RowIs.cons (at_of_get (hold 81 _ (by kernel_rfl) rfl)) (RowIs.cons (at_of_get (hold 82 _ (by kernel_rfl) rfl)) (RowIs.cons (at_of_get (hold 83 _ (by kernel_rfl) rfl)) (RowIs.cons (at_of_get (hold 84 _ (by kernel_rfl) rfl)) (RowIs.cons (at_of_get (hold 85 _ (by kernel_rfl) rfl)) (RowIs.cons (at_of_get (hold 86 _ (by kernel_rfl) rfl)) (RowIs.cons (at_of_get (hold 87 _ (by kernel_rfl) rfl)) (RowIs.cons (at_of_get (hold 88 _ (by kernel_rfl) rfl)) (RowIs.cons (at_of_get (hold 89 _ (by kernel_rfl) rfl)) (RowIs.cons (at_of_get (hold 90 _ (by kernel_rfl) rfl)) (RowIs.cons (at_of_get (hold 91 _ (by kernel_rfl) rfl)) (RowIs.cons (at_of_get (hold 92 _ (by kernel_rfl) rfl)) (RowIs.cons (at_of_get (hold 93 _ (by kernel_rfl) rfl)) (RowIs.cons (at_of_get (hold 94 _ (by kernel_rfl) rfl)) (RowIs.cons (at_of_get (hold 95 _ (by kernel_rfl) rfl)) (RowIs.cons (at_of_get (hold 96 _ (by kernel_rfl) rfl)) (RowIs.cons (at_of_get (hold 97 _ (by kernel_rfl) rfl)) (RowIs.cons (at_of_get (hold 98 _ (by kernel_rfl) rfl)) (RowIs.cons (at_of_get (hold 99 _ (by kernel_rfl) rfl)) (RowIs.cons (at_of_get (hold 100 _ (by kernel_rfl) rfl)) (RowIs.cons (at_of_get (hold 101 _ (by kernel_rfl) rfl)) (RowIs.cons (at_of_get (hold 102 _ (by kernel_rfl) rfl)) (RowIs.cons (at_of_get (hold 103 _ (by kernel_rfl) rfl)) (RowIs.cons (at_of_get (hold 104 _ (by kernel_rfl) rfl)) (RowIs.nil _ _)))))))))))))))))))))))))))))))))))))))))))))))))))))))))))))))))))))))))))))))))))))))))))))))))))))))))) rfl
        clear hsz hdf hold hvals hposts
        subst ha
        try simp only [List.getElem_toArray, List.getElem_cons_succ, List.getElem_cons_zero]
        have hu := hu.trans_nil' hS (by simpa using hobw)
        have hA := hA.upd hS (by simpa using hab)
        have hO := hP14
        clear hS hP14 cA hal S1 V1 W1
        obtain ⟨wq, rfl⟩ : ∃ wq, wq = w' := ⟨_, rfl⟩
        have hb1 : ∀ k, bump f ni x1 k ≤ 17 * 4294836225 := fun k => by
          have := hb k
          unfold bump; split <;> omega
        generalize bump f ni x1 = f at *
        have cA := hA.cell ni (urow_get _ hlt)
        have hal := hA.lt
        obtain ⟨s2, hs2⟩ : ∃ s2, f n1 + x2 = s2 := ⟨_, rfl⟩
        have V2 : Hid (IntKind.u64.wrap ((f n1 : Int) + (x2 : Int)) = (s2 : Int)) := Lib.hid (by have := hb1 n1; rw [← Int.natCast_add, hs2]; exact u64_wrap _ (by omega))
        have S2 : Hid (setN f n1 s2 = bump f n1 x2) := Lib.hid (by rw [← hs2, setN_bump])
        clear hs2
        go_upto_region 7 with fail
        refine wp_region_blk [(.eq (.slice (some ⟨ob, 0, none⟩) L3 L3)), (.eq (.int .i64 (ni : Int))), (.eq (.int .i64 (n1 : Int))), (.eq (.slice (some ⟨ob, 0, none⟩) L3 L3)), (.eq (.int .i64 (ni : Int))), (.eq (.int .i64 (n1 : Int))), (.eq (.pointer (some ⟨ob, n1, none⟩))), (.eq (.int .u64 (f n1 : Int))), (.eq (.slice (some ⟨ab, 0, none⟩) L c)), (.eq (.int .i64 (ni : Int))), (.eq (.pointer (some ⟨ab, ni, none⟩))), (.eq (.int .u64 (A ni : Int))), (.eq (.int .u64 (m : Int))), (.eq (.int .u64 (x2 : Int))), (.eq (.int .u64 (s2 : Int))), (.eq (.pointer (some ⟨ob, n1, none⟩))), .any] [⟨16, (ob), (urow L3 f), (urow L3 (bump f n1 x2)), (71)⟩] (by kernel_rfl) (by kernel_rfl) rfl ?ne ?pre ?step ?fin
        case ne => intro x hx y hy hxy; simp only [List.mem_cons, List.not_mem_nil, or_false] at hx hy; rcases hx with rfl <;> rcases hy with rfl <;> first | (exact absurd rfl hxy) | (dsimp only; omega)
        case pre => intro x hx; simp only [List.mem_cons, List.not_mem_nil, or_false] at hx; rcases hx with rfl <;> assumption
        case step =>
          intro i o ho a w' hS hold hneed hun K' hK
          match i, ho with
          | 0, ho =>
            obtain rfl := Option.some.inj ho
            have q16 := hun 16 (.inr (by kernel_rfl))
            replace hneed := fun j hj => (hneed j hj).2
            replace hK := fun v w1 h u => hK v w1 h trivial u
            clear hun
            have d5 := hold 5 _ (by kernel_rfl) rfl
            clear hold hneed ho
            (go_simp; exact hK _ _ rfl (Upd.refl [] _))
          | 1, ho =>
            obtain rfl := Option.some.inj ho
            have q16 := hun 16 (.inr (by kernel_rfl))
            replace hneed := fun j hj => (hneed j hj).2
            replace hK := fun v w1 h u => hK v w1 h trivial u
            clear hun
            have d6 := hold 6 _ (by kernel_rfl) rfl
            clear hold hneed ho
            (go_simp; exact hK _ _ rfl (Upd.refl [] _))
          | 2, ho =>
            obtain rfl := Option.some.inj ho
            have q16 := hun 16 (.inr (by kernel_rfl))
            replace hneed := fun j hj => (hneed j hj).2
            replace hK := fun v w1 h u => hK v w1 h trivial u
            clear hun
            have d43 := get_of_at (hneed 1 (of_decide_eq_true (by kernel_rfl)) 43 rfl) (by simp [undef])
            clear hold hneed ho
            (go_simp; rw [En1.out]; exact hK _ _ rfl (Upd.refl [] _))
          | 3, ho =>
            obtain rfl := Option.some.inj ho
            have q16 := hun 16 (.inr (by kernel_rfl))
            replace hneed := fun j hj => (hneed j hj).2
            replace hK := fun v w1 h u => hK v w1 h trivial u
            clear hun
            have d5 := hold 5 _ (by kernel_rfl) rfl
            clear hold hneed ho
            (go_simp; exact hK _ _ rfl (Upd.refl [] _))
          | 4, ho =>
            obtain rfl := Option.some.inj ho
            have q16 := hun 16 (.inr (by kernel_rfl))
            replace hneed := fun j hj => (hneed j hj).2
            replace hK := fun v w1 h u => hK v w1 h trivial u
            clear hun
            have d6 := hold 6 _ (by kernel_rfl) rfl
            clear hold hneed ho
            (go_simp; exact hK _ _ rfl (Upd.refl [] _))
          | 5, ho =>
            obtain rfl := Option.some.inj ho
            have q16 := hun 16 (.inr (by kernel_rfl))
            replace hneed := fun j hj => (hneed j hj).2
            replace hK := fun v w1 h u => hK v w1 h trivial u
            clear hun
            have d46 := get_of_at (hneed 4 (of_decide_eq_true (by kernel_rfl)) 46 rfl) (by simp [undef])
            clear hold hneed ho
            (go_simp; rw [En1.out]; exact hK _ _ rfl (Upd.refl [] _))
          | 6, ho =>
            obtain rfl := Option.some.inj ho
            have q16 := hun 16 (.inr (by kernel_rfl))
            replace hneed := fun j hj => (hneed j hj).2
            replace hK := fun v w1 h u => hK v w1 h trivial u
            clear hun
            have d45 := get_of_at (hneed 3 (of_decide_eq_true (by kernel_rfl)) 45 rfl) (by simp [undef])
            have d47 := get_of_at (hneed 5 (of_decide_eq_true (by kernel_rfl)) 47 rfl) (by simp [undef])
            clear hold hneed ho
            (go_simp; exact hK _ _ rfl (Upd.refl [] _))
          | 7, ho =>
            obtain rfl := Option.some.inj ho
            have q16 := hun 16 (.inr (by kernel_rfl))
            replace hneed := fun j hj => (hneed j hj).2
            replace hK := fun v w1 h u => hK v w1 h trivial u
            clear hun
            have d48 := get_of_at (hneed 6 (of_decide_eq_true (by kernel_rfl)) 48 rfl) (by simp [undef])
            clear hold hneed ho
            (have p0 := q16.cell n1 (urow_get _ (by omega)); go_simp; exact hK _ _ rfl (Upd.refl [] _))
          | 8, ho =>
            obtain rfl := Option.some.inj ho
            have q16 := hun 16 (.inr (by kernel_rfl))
            replace hneed := fun j hj => (hneed j hj).2
            replace hK := fun v w1 h u => hK v w1 h trivial u
            clear hun
            have d0 := hold 0 _ (by kernel_rfl) rfl
            clear hold hneed ho
            (go_simp; exact hK _ _ rfl (Upd.refl [] _))
          | 9, ho =>
            obtain rfl := Option.some.inj ho
            have q16 := hun 16 (.inr (by kernel_rfl))
            replace hneed := fun j hj => (hneed j hj).2
            replace hK := fun v w1 h u => hK v w1 h trivial u
            clear hun
            have d6 := hold 6 _ (by kernel_rfl) rfl
            clear hold hneed ho
            (go_simp; exact hK _ _ rfl (Upd.refl [] _))
          | 10, ho =>
            obtain rfl := Option.some.inj ho
            have q16 := hun 16 (.inr (by kernel_rfl))
            replace hneed := fun j hj => (hneed j hj).2
            replace hK := fun v w1 h u => hK v w1 h trivial u
            clear hun
            have d50 := get_of_at (hneed 8 (of_decide_eq_true (by kernel_rfl)) 50 rfl) (by simp [undef])
            have d51 := get_of_at (hneed 9 (of_decide_eq_true (by kernel_rfl)) 51 rfl) (by simp [undef])
            clear hold hneed ho
            (go_simp; exact hK _ _ rfl (Upd.refl [] _))
          | 11, ho =>
            obtain rfl := Option.some.inj ho
            have q16 := hun 16 (.inr (by kernel_rfl))
            replace hneed := fun j hj => (hneed j hj).2
            replace hK := fun v w1 h u => hK v w1 h trivial u
            clear hun
            have d52 := get_of_at (hneed 10 (of_decide_eq_true (by kernel_rfl)) 52 rfl) (by simp [undef])
            clear hold hneed ho
            (have p0 := (hS.cell (a := ⟨ab, ni, none⟩) hal (by simpa using hab)).trans cA; go_simp; exact hK _ _ rfl (Upd.refl [] _))
          | 12, ho =>
            obtain rfl := Option.some.inj ho
            have q16 := hun 16 (.inr (by kernel_rfl))
            replace hneed := fun j hj => (hneed j hj).2
            replace hK := fun v w1 h u => hK v w1 h trivial u
            clear hun
            have d8 := hold 8 _ (by kernel_rfl) rfl
            clear hold hneed ho
            (go_simp; exact hK _ _ rfl (Upd.refl [] _))
          | 13, ho =>
            obtain rfl := Option.some.inj ho
            have q16 := hun 16 (.inr (by kernel_rfl))
            replace hneed := fun j hj => (hneed j hj).2
            replace hK := fun v w1 h u => hK v w1 h trivial u
            clear hun
            have d53 := get_of_at (hneed 11 (of_decide_eq_true (by kernel_rfl)) 53 rfl) (by simp [undef])
            have d54 := get_of_at (hneed 12 (of_decide_eq_true (by kernel_rfl)) 54 rfl) (by simp [undef])
            clear hold hneed ho
            (go_simp; rw [W2.out]; exact hK _ _ rfl (Upd.refl [] _))
          | 14, ho =>
            obtain rfl := Option.some.inj ho
            have q16 := hun 16 (.inr (by kernel_rfl))
            replace hneed := fun j hj => (hneed j hj).2
            replace hK := fun v w1 h u => hK v w1 h trivial u
            clear hun
            have d49 := get_of_at (hneed 7 (of_decide_eq_true (by kernel_rfl)) 49 rfl) (by simp [undef])
            have d55 := get_of_at (hneed 13 (of_decide_eq_true (by kernel_rfl)) 55 rfl) (by simp [undef])
            clear hold hneed ho
            (go_simp; rw [V2.out]; exact hK _ _ rfl (Upd.refl [] _))
          | 15, ho =>
            obtain rfl := Option.some.inj ho
            have q16 := hun 16 (.inr (by kernel_rfl))
            replace hneed := fun j hj => (hneed j hj).2
            replace hK := fun v w1 h u => hK v w1 h trivial u
            clear hun
            have d42 := get_of_at (hneed 0 (of_decide_eq_true (by kernel_rfl)) 42 rfl) (by simp [undef])
            have d44 := get_of_at (hneed 2 (of_decide_eq_true (by kernel_rfl)) 44 rfl) (by simp [undef])
            clear hold hneed ho
            (go_simp; exact hK _ _ rfl (Upd.refl [] _))
          | 16, ho =>
            obtain rfl := Option.some.inj ho
            have q16 := hun 16 (.inl rfl)
            change Blk _ _ _ _ at q16
            replace hneed := fun j hj => (hneed j hj).2
            clear hun
            have d57 := get_of_at (hneed 15 (of_decide_eq_true (by kernel_rfl)) 57 rfl) (by simp [undef])
            have d56 := get_of_at (hneed 14 (of_decide_eq_true (by kernel_rfl)) 56 rfl) (by simp [undef])
            clear hold hneed ho
            (have p0 := q16.cell n1 (urow_get _ (by omega)); have f0 := q16.free n1; have hq := q16.set n1 (.int .u64 (s2 : Int)); rw [urow_set, S2.out] at hq; go_simp; exact hK undef _ trivial hq ((Upd.refl _ _).setCell (Or.inl (by simp [effOf, BE.eff])) _))
          | _ + 17, ho => exact absurd ho (by simp)
        case fin =>
          intro a w' hS hsz hdf hold hvals hposts
          have hP16 : Blk w' (ob) (urow L3 (bump f n1 x2)) (71) := hposts 16 (of_decide_eq_true (by kernel_rfl))
          have ha := act_lit hsz hdf (RowIs.cons (at_of_get (hold 0 _ (by kernel_rfl) rfl)) (RowIs.cons (at_of_get (hold 1 _ (by kernel_rfl) rfl)) (RowIs.cons (at_of_get (hold 2 _ (by kernel_rfl) rfl)) (RowIs.cons (at_of_get (hold 3 _ (by kernel_rfl) rfl)) (RowIs.cons (at_of_get (hold 4 _ (by kernel_rfl) rfl)) (RowIs.cons (at_of_get (hold 5 _ (by kernel_rfl) rfl)) (RowIs.cons (at_of_get (hold 6 _ (by kernel_rfl) rfl)) (RowIs.cons (at_of_get (hold 7 _ (by kernel_rfl) rfl)) (RowIs.cons (at_of_get (hold 8 _ (by kernel_rfl) rfl)) (RowIs.cons (at_of_get (hold 9 _ (by kernel_rfl) rfl)) (RowIs.cons (at_of_get (hold 10 _ (by kernel_rfl) rfl)) (RowIs.cons (at_of_get (hold 11 _ (by kernel_rfl) rfl)) (RowIs.cons (at_of_get (hold 12 _ (by kernel_rfl) rfl)) (RowIs.cons (at_of_get (hold 13 _ (by kernel_rfl) rfl)) (RowIs.cons (at_of_get (hold 14 _ (by kernel_rfl) rfl)) (RowIs.cons (at_of_get (hold 15 _ (by kernel_rfl) rfl)) (RowIs.cons (at_of_get (hold 16 _ (by kernel_rfl) rfl)) (RowIs.cons (at_of_get (hold 17 _ (by kernel_rfl) rfl)) (RowIs.cons (at_of_get (hold 18 _ (by kernel_rfl) rfl)) (RowIs.cons (at_of_get (hold 19 _ (by kernel_rfl) rfl)) (RowIs.cons (at_of_get (hold 20 _ (by kernel_rfl) rfl)) (RowIs.cons (at_of_get (hold 21 _ (by kernel_rfl) rfl)) (RowIs.cons (at_of_get (hold 22 _ (by kernel_rfl) rfl)) (RowIs.cons (at_of_get (hold 23 _ (by kernel_rfl) rfl)) (RowIs.cons (at_of_get (hold 24 _ (by kernel_rfl) rfl)) (RowIs.cons (at_of_get (hold 25 _ (by kernel_rfl) rfl)) (RowIs.cons (at_of_get (hold 26 _ (by kernel_rfl) rfl)) (RowIs.cons (at_of_get (hold 27 _ (by kernel_rfl) rfl)) (RowIs.cons (at_of_get (hold 28 _ (by kernel_rfl) rfl)) (RowIs.cons (at_of_get (hold 29 _ (by kernel_rfl) rfl)) (RowIs.cons (at_of_get (hold 30 _ (by kernel_rfl) rfl)) (RowIs.cons (at_of_get (hold 31 _ (by kernel_rfl) rfl)) (RowIs.cons (at_of_get (hold 32 _ (by kernel_rfl) rfl)) (RowIs.cons (at_of_get (hold 33 _ (by kernel_rfl) rfl)) (RowIs.cons (at_of_get (hold 34 _ (by kernel_rfl) rfl)) (RowIs.cons (at_of_get (hold 35 _ (by kernel_rfl) rfl)) (RowIs.cons (at_of_get (hold 36 _ (by kernel_rfl) rfl)) (RowIs.cons (at_of_get (hold 37 _ (by kernel_rfl) rfl)) (RowIs.cons (at_of_get (hold 38 _ (by kernel_rfl) rfl)) (RowIs.cons (at_of_get (hold 39 _ (by kernel_rfl) rfl)) (RowIs.cons (at_of_get (hold 40 _ (by kernel_rfl) rfl)) (RowIs.cons (at_of_get (hold 41 _ (by kernel_rfl) rfl)) (RowIs.cons (hvals 0 42 rfl) (RowIs.cons (hvals 1 43 rfl) (RowIs.cons (hvals 2 44 rfl) (RowIs.cons (hvals 3 45 rfl) (RowIs.cons (hvals 4 46 rfl) (RowIs.cons (hvals 5 47 rfl) (RowIs.cons (hvals 6 48 rfl) (RowIs.cons (hvals 7 49 rfl) (RowIs.cons (hvals 8 50 rfl) (RowIs.cons (hvals 9 51 rfl) (RowIs.cons (hvals 10 52 rfl) (RowIs.cons (hvals 11 53 rfl) (RowIs.cons (hvals 12 54 rfl) (RowIs.cons (hvals 13 55 rfl) (RowIs.cons (hvals 14 56 rfl) (RowIs.cons (hvals 15 57 rfl) (RowIs.cons (at_of_get (hold 58 _ (by kernel_rfl) rfl)) (RowIs.cons (at_of_get (hold 59 _ (by kernel_rfl) rfl)) (RowIs.cons (at_of_get (hold 60 _ (by kernel_rfl) rfl)) (RowIs.cons (at_of_get (hold 61 _ (by kernel_rfl) rfl)) (RowIs.cons (at_of_get (hold 62 _ (by kernel_rfl) rfl)) (RowIs.cons (at_of_get (hold 63 _ (by kernel_rfl) rfl)) (RowIs.cons (at_of_get (hold 64 _ (by kernel_rfl) rfl)) (RowIs.cons (at_of_get (hold 65 _ (by kernel_rfl) rfl)) (RowIs.cons (at_of_get (hold 66 _ (by kernel_rfl) rfl)) (RowIs.cons (at_of_get (hold 67 _ (by kernel_rfl) rfl)) (RowIs.cons (at_of_get (hold 68 _ (by kernel_rfl) rfl)) (RowIs.cons (at_of_get (hold 69 _ (by kernel_rfl) rfl)) (RowIs.cons (at_of_get (hold 70 _ (by kernel_rfl) rfl)) (RowIs.cons (at_of_get (hold 71 _ (by kernel_rfl) rfl)) (RowIs.cons (at_of_get (hold 72 _ (by kernel_rfl) rfl)) (RowIs.cons (at_of_get (hold 73 _ (by kernel_rfl) rfl)) (RowIs.cons (at_of_get (hold 74 _ (by kernel_rfl) rfl)) (RowIs.cons (at_of_get (hold 75 _ (by kernel_rfl) rfl)) (RowIs.cons (at_of_get (hold 76 _ (by kernel_rfl) rfl)) (RowIs.cons (at_of_get (hold 77 _ (by kernel_rfl) rfl)) (RowIs.cons (at_of_get (hold 78 _ (by kernel_rfl) rfl)) (RowIs.cons (at_of_get (hold 79 _ (by kernel_rfl) rfl)) (RowIs.cons (at_of_get (hold 80 _ (by kernel_rfl) rfl)) (RowIs.cons (at_of_get (hold 81 _ (by kernel_rfl) rfl)) (RowIs.cons (at_of_get (hold 82 _ (by kernel_rfl) rfl)) (RowIs.cons (at_of_get (hold 83 _ (by kernel_rfl) rfl)) (RowIs.cons (at_of_get (hold 84 _ (by kernel_rfl) rfl)) (RowIs.cons (at_of_get (hold 85 _ (by kernel_rfl) rfl)) (RowIs.cons (at_of_get (hold 86 _ (by kernel_rfl) rfl)) (RowIs.cons (at_of_get (hold 87 _ (by kernel_rfl) rfl)) (RowIs.cons (at_of_get (hold 88 _ (by kernel_rfl) rfl)) (RowIs.cons (at_of_get (hold 89 _ (by kernel_rfl) rfl)) (RowIs.cons (at_of_get (hold 90 _ (by kernel_rfl) rfl)) (RowIs.cons (at_of_get (hold 91 _ (by kernel_rfl) rfl)) (RowIs.cons (at_of_get (hold 92 _ (by kernel_rfl) rfl)) (RowIs.cons (at_of_get (hold 93 _ (by kernel_rfl) rfl)) (RowIs.cons (at_of_get (hold 94 _ (by kernel_rfl) rfl)) (RowIs.cons (at_of_get (hold 95 _ (by kernel_rfl) rfl)) (RowIs.cons (at_of_get (hold 96 _ (by kernel_rfl) rfl)) (RowIs.cons (at_of_get (hold 97 _ (by kernel_rfl) rfl)) (RowIs.cons (at_of_get (hold 98 _ (by kernel_rfl) rfl)) (RowIs.cons (at_of_get (hold 99 _ (by kernel_rfl) rfl)) (RowIs.cons (at_of_get (hold 100 _ (by kernel_rfl) rfl)) (RowIs.cons (at_of_get (hold 101 _ (by kernel_rfl) rfl)) (RowIs.cons (at_of_get (hold 102 _ (by kernel_rfl) rfl)) (RowIs.cons (at_of_get (hold 103 _ (by kernel_rfl) rfl)) (RowIs.cons (at_of_get (hold 104 _ (by kernel_rfl) rfl)) (RowIs.nil _ _)))))))))))))))))))))))))))))))))))))))))))))))))))))))))))))))))))))))))))))))))))))))))))))))))))))))))) rfl
          clear hsz hdf hold hvals hposts
          subst ha
          try simp only [List.getElem_toArray, List.getElem_cons_succ, List.getElem_cons_zero]
          have hu := hu.trans_nil' hS (by simpa using hobw)
          have hA := hA.upd hS (by simpa using hab)
          have hO := hP16
          clear hS hP16 cA hal S2 V2 W2
          obtain ⟨wp, rfl⟩ : ∃ wp, wp = w' := ⟨_, rfl⟩
          have hb2 : ∀ k, bump f n1 x2 k ≤ 18 * 4294836225 := fun k => by
            have := hb1 k
            unfold bump; split <;> omega
          generalize bump f n1 x2 = f at *
          have cA := hA.cell ni (urow_get _ hlt)
          have hal := hA.lt
          obtain ⟨s3, hs3⟩ : ∃ s3, f n2 + x3 = s3 := ⟨_, rfl⟩
          have V3 : Hid (IntKind.u64.wrap ((f n2 : Int) + (x3 : Int)) = (s3 : Int)) := Lib.hid (by have := hb2 n2; rw [← Int.natCast_add, hs3]; exact u64_wrap _ (by omega))
          have S3 : Hid (setN f n2 s3 = bump f n2 x3) := Lib.hid (by rw [← hs3, setN_bump])
          clear hs3
          go_upto_region 8 with fail
          refine wp_region_blk [(.eq (.slice (some ⟨ob, 0, none⟩) L3 L3)), (.eq (.int .i64 (ni : Int))), (.eq (.int .i64 (n2 : Int))), (.eq (.slice (some ⟨ob, 0, none⟩) L3 L3)), (.eq (.int .i64 (ni : Int))), (.eq (.int .i64 (n2 : Int))), (.eq (.pointer (some ⟨ob, n2, none⟩))), (.eq (.int .u64 (f n2 : Int))), (.eq (.slice (some ⟨ab, 0, none⟩) L c)), (.eq (.int .i64 (ni : Int))), (.eq (.pointer (some ⟨ab, ni, none⟩))), (.eq (.int .u64 (A ni : Int))), (.eq (.int .u64 (h : Int))), (.eq (.int .u64 (x3 : Int))), (.eq (.int .u64 (s3 : Int))), (.eq (.pointer (some ⟨ob, n2, none⟩))), .any] [⟨16, (ob), (urow L3 f), (urow L3 (bump f n2 x3)), (71)⟩] (by kernel_rfl) (by kernel_rfl) rfl ?ne ?pre ?step ?fin
          case ne => intro x hx y hy hxy; simp only [List.mem_cons, List.not_mem_nil, or_false] at hx hy; rcases hx with rfl <;> rcases hy with rfl <;> first | (exact absurd rfl hxy) | (dsimp only; omega)
          case pre => intro x hx; simp only [List.mem_cons, List.not_mem_nil, or_false] at hx; rcases hx with rfl <;> assumption
          case step =>
            intro i o ho a w' hS hold hneed hun K' hK
            match i, ho with
            | 0, ho =>
              obtain rfl := Option.some.inj ho
              have q16 := hun 16 (.inr (by kernel_rfl))
              replace hneed := fun j hj => (hneed j hj).2
              replace hK := fun v w1 h u => hK v w1 h trivial u
              clear hun
              have d5 := hold 5 _ (by kernel_rfl) rfl
              clear hold hneed ho
              (go_simp; exact hK _ _ rfl (Upd.refl [] _))
            | 1, ho =>
              obtain rfl := Option.some.inj ho
              have q16 := hun 16 (.inr (by kernel_rfl))
              replace hneed := fun j hj => (hneed j hj).2
              replace hK := fun v w1 h u => hK v w1 h trivial u
              clear hun
              have d6 := hold 6 _ (by kernel_rfl) rfl
              clear hold hneed ho
              (go_simp; exact hK _ _ rfl (Upd.refl [] _))
            | 2, ho =>
              obtain rfl := Option.some.inj ho
              have q16 := hun 16 (.inr (by kernel_rfl))
              replace hneed := fun j hj => (hneed j hj).2
              replace hK := fun v w1 h u => hK v w1 h trivial u
              clear hun
              have d59 := get_of_at (hneed 1 (of_decide_eq_true (by kernel_rfl)) 59 rfl) (by simp [undef])
              clear hold hneed ho
              (go_simp; rw [En2.out]; exact hK _ _ rfl (Upd.refl [] _))
            | 3, ho =>
              obtain rfl := Option.some.inj ho
              have q16 := hun 16 (.inr (by kernel_rfl))
              replace hneed := fun j hj => (hneed j hj).2
              replace hK := fun v w1 h u => hK v w1 h trivial u
              clear hun
              have d5 := hold 5 _ (by kernel_rfl) rfl
              clear hold hneed ho
              (go_simp; exact hK _ _ rfl (Upd.refl [] _))
            | 4, ho =>
              obtain rfl := Option.some.inj ho
              have q16 := hun 16 (.inr (by kernel_rfl))
              replace hneed := fun j hj => (hneed j hj).2
              replace hK := fun v w1 h u => hK v w1 h trivial u
              clear hun
              have d6 := hold 6 _ (by kernel_rfl) rfl
              clear hold hneed ho
              (go_simp; exact hK _ _ rfl (Upd.refl [] _))
            | 5, ho =>
              obtain rfl := Option.some.inj ho
              have q16 := hun 16 (.inr (by kernel_rfl))
              replace hneed := fun j hj => (hneed j hj).2
              replace hK := fun v w1 h u => hK v w1 h trivial u
              clear hun
              have d62 := get_of_at (hneed 4 (of_decide_eq_true (by kernel_rfl)) 62 rfl) (by simp [undef])
              clear hold hneed ho
              (go_simp; rw [En2.out]; exact hK _ _ rfl (Upd.refl [] _))
            | 6, ho =>
              obtain rfl := Option.some.inj ho
              have q16 := hun 16 (.inr (by kernel_rfl))
              replace hneed := fun j hj => (hneed j hj).2
              replace hK := fun v w1 h u => hK v w1 h trivial u
              clear hun
              have d61 := get_of_at (hneed 3 (of_decide_eq_true (by kernel_rfl)) 61 rfl) (by simp [undef])
              have d63 := get_of_at (hneed 5 (of_decide_eq_true (by kernel_rfl)) 63 rfl) (by simp [undef])
              clear hold hneed ho
              (go_simp; exact hK _ _ rfl (Upd.refl [] _))
            | 7, ho =>
              obtain rfl := Option.some.inj ho
              have q16 := hun 16 (.inr (by kernel_rfl))
              replace hneed := fun j hj => (hneed j hj).2
              replace hK := fun v w1 h u => hK v w1 h trivial u
              clear hun
              have d64 := get_of_at (hneed 6 (of_decide_eq_true (by kernel_rfl)) 64 rfl) (by simp [undef])
              clear hold hneed ho
              (have p0 := q16.cell n2 (urow_get _ (by omega)); go_simp; exact hK _ _ rfl (Upd.refl [] _))
            | 8, ho =>
              obtain rfl := Option.some.inj ho
              have q16 := hun 16 (.inr (by kernel_rfl))
              replace hneed := fun j hj => (hneed j hj).2
              replace hK := fun v w1 h u => hK v w1 h trivial u
              clear hun
              have d0 := hold 0 _ (by kernel_rfl) rfl
              clear hold hneed ho
              (go_simp; exact hK _ _ rfl (Upd.refl [] _))
            | 9, ho =>
              obtain rfl := Option.some.inj ho
              have q16 := hun 16 (.inr (by kernel_rfl))
              replace hneed := fun j hj => (hneed j hj).2
              replace hK := fun v w1 h u => hK v w1 h trivial u
              clear hun
              have d6 := hold 6 _ (by kernel_rfl) rfl
              clear hold hneed ho
              (go_simp; exact hK _ _ rfl (Upd.refl [] _))
            | 10, ho =>
              obtain rfl := Option.some.inj ho
              have q16 := hun 16 (.inr (by kernel_rfl))
              replace hneed := fun j hj => (hneed j hj).2
              replace hK := fun v w1 h u => hK v w1 h trivial u
              clear hun
              have d66 := get_of_at (hneed 8 (of_decide_eq_true (by kernel_rfl)) 66 rfl) (by simp [undef])
              have d67 := get_of_at (hneed 9 (of_decide_eq_true (by kernel_rfl)) 67 rfl) (by simp [undef])
              clear hold hneed ho
              (go_simp; exact hK _ _ rfl (Upd.refl [] _))
            | 11, ho =>
              obtain rfl := Option.some.inj ho
              have q16 := hun 16 (.inr (by kernel_rfl))
              replace hneed := fun j hj => (hneed j hj).2
              replace hK := fun v w1 h u => hK v w1 h trivial u
              clear hun
              have d68 := get_of_at (hneed 10 (of_decide_eq_true (by kernel_rfl)) 68 rfl) (by simp [undef])
              clear hold hneed ho
              (have p0 := (hS.cell (a := ⟨ab, ni, none⟩) hal (by simpa using hab)).trans cA; go_simp; exact hK _ _ rfl (Upd.refl [] _))
            | 12, ho =>
              obtain rfl := Option.some.inj ho
              have q16 := hun 16 (.inr (by kernel_rfl))
              replace hneed := fun j hj => (hneed j hj).2
              replace hK := fun v w1 h u => hK v w1 h trivial u
              clear hun
              have d9 := hold 9 _ (by kernel_rfl) rfl
              clear hold hneed ho
              (go_simp; exact hK _ _ rfl (Upd.refl [] _))
            | 13, ho =>
              obtain rfl := Option.some.inj ho
              have q16 := hun 16 (.inr (by kernel_rfl))
              replace hneed := fun j hj => (hneed j hj).2
              replace hK := fun v w1 h u => hK v w1 h trivial u
              clear hun
              have d69 := get_of_at (hneed 11 (of_decide_eq_true (by kernel_rfl)) 69 rfl) (by simp [undef])
              have d70 := get_of_at (hneed 12 (of_decide_eq_true (by kernel_rfl)) 70 rfl) (by simp [undef])
              clear hold hneed ho
              (go_simp; rw [W3.out]; exact hK _ _ rfl (Upd.refl [] _))
            | 14, ho =>
              obtain rfl := Option.some.inj ho
              have q16 := hun 16 (.inr (by kernel_rfl))
              replace hneed := fun j hj => (hneed j hj).2
              replace hK := fun v w1 h u => hK v w1 h trivial u
              clear hun
              have d65 := get_of_at (hneed 7 (of_decide_eq_true (by kernel_rfl)) 65 rfl) (by simp [undef])
              have d71 := get_of_at (hneed 13 (of_decide_eq_true (by kernel_rfl)) 71 rfl) (by simp [undef])
              clear hold hneed ho
              (go_simp; rw [V3.out]; exact hK _ _ rfl (Upd.refl [] _))
            | 15, ho =>
              obtain rfl := Option.some.inj ho
              have q16 := hun 16 (.inr (by kernel_rfl))
              replace hneed := fun j hj => (hneed j hj).2
              replace hK := fun v w1 h u => hK v w1 h trivial u
              clear hun
              have d58 := get_of_at (hneed 0 (of_decide_eq_true (by kernel_rfl)) 58 rfl) (by simp [undef])
              have d60 := get_of_at (hneed 2 (of_decide_eq_true (by kernel_rfl)) 60 rfl) (by simp [undef])
              clear hold hneed ho
              (go_simp; exact hK _ _ rfl (Upd.refl [] _))
            | 16, ho =>
              obtain rfl := Option.some.inj ho
              have q16 := hun 16 (.inl rfl)
              change Blk _ _ _ _ at q16
              replace hneed := fun j hj => (hneed j hj).2
              clear hun
              have d73 := get_of_at (hneed 15 (of_decide_eq_true (by kernel_rfl)) 73 rfl) (by simp [undef])
              have d72 := get_of_at (hneed 14 (of_decide_eq_true (by kernel_rfl)) 72 rfl) (by simp [undef])
              clear hold hneed ho
              (have p0 := q16.cell n2 (urow_get _ (by omega)); have f0 := q16.free n2; have hq := q16.set n2 (.int .u64 (s3 : Int)); rw [urow_set, S3.out] at hq; go_simp; exact hK undef _ trivial hq ((Upd.refl _ _).setCell (Or.inl (by simp [effOf, BE.eff])) _))
            | _ + 17, ho => exact absurd ho (by simp)
          case fin =>
            intro a w' hS hsz hdf hold hvals hposts
            have hP16 : Blk w' (ob) (urow L3 (bump f n2 x3)) (71) := hposts 16 (of_decide_eq_true (by kernel_rfl))
            have ha := act_lit hsz hdf (RowIs.cons (at_of_get (hold 0 _ (by kernel_rfl) rfl)) (RowIs.cons (at_of_get (hold 1 _ (by kernel_rfl) rfl)) (RowIs.cons (at_of_get (hold 2 _ (by kernel_rfl) rfl)) (RowIs.cons (at_of_get (hold 3 _ (by kernel_rfl) rfl)) (RowIs.cons (at_of_get (hold 4 _ (by kernel_rfl) rfl)) (RowIs.cons (at_of_get (hold 5 _ (by kernel_rfl) rfl)) (RowIs.cons (at_of_get (hold 6 _ (by kernel_rfl) rfl)) (RowIs.cons (at_of_get (hold 7 _ (by kernel_rfl) rfl)) (RowIs.cons (at_of_get (hold 8 _ (by kernel_rfl) rfl)) (RowIs.cons (at_of_get (hold 9 _ (by kernel_rfl) rfl)) (RowIs.cons (at_of_get (hold 10 _ (by kernel_rfl) rfl)) (RowIs.cons (at_of_get (hold 11 _ (by kernel_rfl) rfl)) (RowIs.cons (at_of_get (hold 12 _ (by kernel_rfl) rfl)) (RowIs.cons (at_of_get (hold 13 _ (by kernel_rfl) rfl)) (RowIs.cons (at_of_get (hold 14 _ (by kernel_rfl) rfl)) (RowIs.cons (at_of_get (hold 15 _ (by kernel_rfl) rfl)) (RowIs.cons (at_of_get (hold 16 _ (by kernel_rfl) rfl)) (RowIs.cons (at_of_get (hold 17 _ (by kernel_rfl) rfl)) (RowIs.cons (at_of_get (hold 18 _ (by kernel_rfl) rfl)) (RowIs.cons (at_of_get (hold 19 _ (by kernel_rfl) rfl)) (RowIs.cons (at_of_get (hold 20 _ (by kernel_rfl) rfl)) (RowIs.cons (at_of_get (hold 21 _ (by kernel_rfl) rfl)) (RowIs.cons (at_of_get (hold 22 _ (by kernel_rfl) rfl)) (RowIs.cons (at_of_get (hold 23 _ (by kernel_rfl) rfl)) (RowIs.cons (at_of_get (hold 24 _ (by kernel_rfl) rfl)) (RowIs.cons (at_of_get (hold 25 _ (by kernel_rfl) rfl)) (RowIs.cons (at_of_get (hold 26 _ (by kernel_rfl) rfl)) (RowIs.cons (at_of_get (hold 27 _ (by kernel_rfl) rfl)) (RowIs.cons (at_of_get (hold 28 _ (by kernel_rfl) rfl)) (RowIs.cons (at_of_get (hold 29 _ (by kernel_rfl) rfl)) (RowIs.cons (at_of_get (hold 30 _ (by kernel_rfl) rfl)) (RowIs.cons (at_of_get (hold 31 _ (by kernel_rfl) rfl)) (RowIs.cons (at_of_get (hold 32 _ (by kernel_rfl) rfl)) (RowIs.cons (at_of_get (hold 33 _ (by kernel_rfl) rfl)) (RowIs.cons (at_of_get (hold 34 _ (by kernel_rfl) rfl)) (RowIs.cons (at_of_get (hold 35 _ (by kernel_rfl) rfl)) (RowIs.cons (at_of_get (hold 36 _ (by kernel_rfl) rfl)) (RowIs.cons (at_of_get (hold 37 _ (by kernel_rfl) rfl)) (RowIs.cons (at_of_get (hold 38 _ (by kernel_rfl) rfl)) (RowIs.cons (at_of_get (hold 39 _ (by kernel_rfl) rfl)) (RowIs.cons (at_of_get (hold 40 _ (by kernel_rfl) rfl)) (RowIs.cons (at_of_get (hold 41 _ (by kernel_rfl) rfl)) (RowIs.cons (at_of_get (hold 42 _ (by kernel_rfl) rfl)) (RowIs.cons (at_of_get (hold 43 _ (by kernel_rfl) rfl)) (RowIs.cons (at_of_get (hold 44 _ (by kernel_rfl) rfl)) (RowIs.cons (at_of_get (hold 45 _ (by kernel_rfl) rfl)) (RowIs.cons (at_of_get (hold 46 _ (by kernel_rfl) rfl)) (RowIs.cons (at_of_get (hold 47 _ (by kernel_rfl) rfl)) (RowIs.cons (at_of_get (hold 48 _ (by kernel_rfl) rfl)) (RowIs.cons (at_of_get (hold 49 _ (by kernel_rfl) rfl)) (RowIs.cons (at_of_get (hold 50 _ (by kernel_rfl) rfl)) (RowIs.cons (at_of_get (hold 51 _ (by kernel_rfl) rfl)) (RowIs.cons (at_of_get (hold 52 _ (by kernel_rfl) rfl)) (RowIs.cons (at_of_get (hold 53 _ (by kernel_rfl) rfl)) (RowIs.cons (at_of_get (hold 54 _ (by kernel_rfl) rfl)) (RowIs.cons (at_of_get (hold 55 _ (by kernel_rfl) rfl)) (RowIs.cons (at_of_get (hold 56 _ (by kernel_rfl) rfl)) (RowIs.cons (at_of_get (hold 57 _ (by kernel_rfl) rfl)) (RowIs.cons (hvals 0 58 rfl) (RowIs.cons (hvals 1 59 rfl) (RowIs.cons (hvals 2 60 rfl) (RowIs.cons (hvals 3 61 rfl) (RowIs.cons (hvals 4 62 rfl) (RowIs.cons (hvals 5 63 rfl) (RowIs.cons (hvals 6 64 rfl) (RowIs.cons (hvals 7 65 rfl) (RowIs.cons (hvals 8 66 rfl) (RowIs.cons (hvals 9 67 rfl) (RowIs.cons (hvals 10 68 rfl) (RowIs.cons (hvals 11 69 rfl) (RowIs.cons (hvals 12 70 rfl) (RowIs.cons (hvals 13 71 rfl) (RowIs.cons (hvals 14 72 rfl) (RowIs.cons (hvals 15 73 rfl) (RowIs.cons (at_of_get (hold 74 _ (by kernel_rfl) rfl)) (RowIs.cons (at_of_get (hold 75 _ (by kernel_rfl) rfl)) (RowIs.cons (at_of_get (hold 76 _ (by kernel_rfl) rfl)) (RowIs.cons (at_of_get (hold 77 _ (by kernel_rfl) rfl)) (RowIs.cons (at_of_get (hold 78 _ (by kernel_rfl) rfl)) (RowIs.cons (at_of_get (hold 79 _ (by kernel_rfl) rfl)) (RowIs.cons (at_of_get (hold 80 _ (by kernel_rfl) rfl)) (RowIs.cons (at_of_get (hold 81 _ (by kernel_rfl) rfl)) (RowIs.cons (at_of_get (hold 82 _ (by kernel_rfl) rfl)) (RowIs.cons (at_of_get (hold 83 _ (by kernel_rfl) rfl)) (RowIs.cons (at_of_get (hold 84 _ (by kernel_rfl) rfl)) (RowIs.cons (at_of_get (hold 85 _ (by kernel_rfl) rfl)) (RowIs.cons (at_of_get (hold 86 _ (by kernel_rfl) rfl)) (RowIs.cons (at_of_get (hold 87 _ (by kernel_rfl) rfl)) (RowIs.cons (at_of_get (hold 88 _ (by kernel_rfl) rfl)) (RowIs.cons (at_of_get (hold 89 _ (by kernel_rfl) rfl)) (RowIs.cons (at_of_get (hold 90 _ (by kernel_rfl) rfl)) (RowIs.cons (at_of_get (hold 91 _ (by kernel_rfl) rfl)) (RowIs.cons (at_of_get (hold 92 _ (by kernel_rfl) rfl)) (RowIs.cons (at_of_get (hold 93 _ (by kernel_rfl) rfl)) (RowIs.cons (at_of_get (hold 94 _ (by kernel_rfl) rfl)) (RowIs.cons (at_of_get (hold 95 _ (by kernel_rfl) rfl)) (RowIs.cons (at_of_get (hold 96 _ (by kernel_rfl) rfl)) (RowIs.cons (at_of_get (hold 97 _ (by kernel_rfl) rfl)) (RowIs.cons (at_of_get (hold 98 _ (by kernel_rfl) rfl)) (RowIs.cons (at_of_get (hold 99 _ (by kernel_rfl) rfl)) (RowIs.cons (at_of_get (hold 100 _ (by kernel_rfl) rfl)) (RowIs.cons (at_of_get (hold 101 _ (by kernel_rfl) rfl)) (RowIs.cons (at_of_get (hold 102 _ (by kernel_rfl) rfl)) (RowIs.cons (at_of_get (hold 103 _ (by kernel_rfl) rfl)) (RowIs.cons (at_of_get (hold 104 _ (by kernel_rfl) rfl)) (RowIs.nil _ _)))))))))))))))))))))))))))))))))))))))))))))))))))))))))))))))))))))))))))))))))))))))))))))))))))))))))) rfl
            clear hsz hdf hold hvals hposts
            subst ha
            try simp only [List.getElem_toArray, List.getElem_cons_succ, List.getElem_cons_zero]
            have hu := hu.trans_nil' hS (by simpa using hobw)
            have hA := hA.upd hS (by simpa using hab)
            have hO := hP16
            rw [← Hacc.out, ← Hn1.out] at hO
            clear hS hP16 cA hal S3 V3 W3
            go_wp2_with fail
            exact ⟨⟨ni + 1, by omega, by go_num, hO, hA, hu⟩, by simp [intOf]; omega⟩
    · obtain rfl : ni = L := by omega
      have hb0 : ∀ k, acc A l m h ni k ≤ 16 * 4294836225 := fun k => Nat.le_trans (hbd ni k) (Nat.mul_le_mul_right _ (by omega))
      have hcb := car_bd (acc A l m h ni) (16 * 4294836225) hb0 (by decide)
      have hc0 : car (acc A l m h ni) 0 = acc A l m h ni := rfl
      have hcs : ∀ i, car (acc A l m h ni) (i + 1) = setN (bump (car (acc A l m h ni) i) (i + 1) (car (acc A l m h ni) i i / 65536)) i (car (acc A l m h ni) i i % 65536) := fun i => rfl
      rw [← hc0] at hO
      clear hc0 hbd hb0 hMl
      generalize acc A l m h ni = f0 at *
      have Hcs := Lib.hid hcs
      clear hcs e1 e2 e3
      go_wp2_with fail
      go_loopw [10] (fun iv wr => ∃ mi : Nat, mi + 1 ≤ L3 ∧ iv = .int .i64 mi ∧ Blk wr ob (urow L3 (car f0 mi)) 71 ∧ Upd [] w wr) (fun iv _ => L3 - (intOf iv).toNat)
      case atStart => exact ⟨0, by have := HL31.out; omega, rfl, hO, hu⟩
      case round =>
        clear hO hu
        obtain ⟨mi, hmi, rfl, hO, hu⟩ := hrel
        obtain ⟨wo, rfl⟩ : ∃ wo, wo = wr := ⟨_, rfl⟩
        by_cases hlt2 : mi + 1 < L3
        · have Hc := Lib.hid (Hcs.out mi)
          have hb := hcb mi
          generalize car f0 mi = f at *
          obtain ⟨n1, hn1⟩ : ∃ n1, mi + 1 = n1 := ⟨_, rfl⟩
          rw [hn1] at Hc
          obtain ⟨y, hy⟩ : ∃ y, f mi / 65536 = y := ⟨_, rfl⟩
          obtain ⟨r, hr⟩ : ∃ r, f mi % 65536 = r := ⟨_, rfl⟩
          rw [hy, hr] at Hc
          have En1 : Hid (IntKind.i64.wrap ((mi : Int) + 1) = (n1 : Int)) := Lib.hid (by have := HL31.out; rw [IntKind.wrap_i64]; omega)
          have Y : Hid ((f mi : Int) / 65536 = (y : Int)) := Lib.hid (by omega)
          obtain ⟨s1, hs1⟩ : ∃ s1, f n1 + y = s1 := ⟨_, rfl⟩
          have V1 : Hid (IntKind.u64.wrap ((f n1 : Int) + (y : Int)) = (s1 : Int)) := Lib.hid (by have := hb n1; have := hb mi; rw [← Int.natCast_add, hs1]; exact u64_wrap _ (by omega))
          have S1 : Hid (setN f n1 s1 = bump f n1 y) := Lib.hid (by rw [← hs1, setN_bump])
          have l0 : mi < L3 := by omega
          have l1 : n1 < L3 := by omega
          have g1 : (0 : Int) ≤ mi := by omega
          have g2 : (mi : Int) < L3 := by omega
          have g5 : (0 : Int) ≤ n1 := by omega
          have g6 : (n1 : Int) < L3 := by omega
          have g7 : (mi : Int) + 1 < L3 := by omega
          have g9 : (mi : Int) < 100 := by have := HL31.out; omega
          have hand : bits .and .u64 ((f mi : Nat) : Int) 65535 = (r : Int) := by rw [and_65535 _ (by have := hb mi; omega), hr]
          have hbm : bump f n1 y mi = f mi := by unfold bump; rw [if_neg (by omega)]
          have Hand := Lib.hid hand
          have Hbm := Lib.hid hbm
          have Hn1 := Lib.hid hn1
          have hob2 := hO.lt
          clear hs1 hy hr hand hbm hn1
          go_upto_region 12 with fail
          refine wp_region_blk [(.eq (.slice (some ⟨ob, 0, none⟩) L3 L3)), (.eq (.int .i64 (mi : Int))), (.eq (.int .i64 (n1 : Int))), (.eq (.slice (some ⟨ob, 0, none⟩) L3 L3)), (.eq (.int .i64 (mi : Int))), (.eq (.int .i64 (n1 : Int))), (.eq (.pointer (some ⟨ob, n1, none⟩))), (.eq (.int .u64 (f n1 : Int))), (.eq (.slice (some ⟨ob, 0, none⟩) L3 L3)), (.eq (.int .i64 (mi : Int))), (.eq (.pointer (some ⟨ob, mi, none⟩))), (.eq (.int .u64 (f mi : Int))), (.eq (.int .u64 (y : Int))), (.eq (.int .u64 (s1 : Int))), (.eq (.pointer (some ⟨ob, n1, none⟩))), .any] [⟨15, (ob), (urow L3 f), (urow L3 (bump f n1 y)), (71)⟩] (by kernel_rfl) (by kernel_rfl) rfl ?ne ?pre ?step ?fin
          case ne => intro x hx y hy hxy; simp only [List.mem_cons, List.not_mem_nil, or_false] at hx hy; rcases hx with rfl <;> rcases hy with rfl <;> first | (exact absurd rfl hxy) | (dsimp only; omega)
          case pre => intro x hx; simp only [List.mem_cons, List.not_mem_nil, or_false] at hx; rcases hx with rfl <;> assumption
          case step =>
            intro i o ho a w' hS hold hneed hun K' hK
            match i, ho with
            | 0, ho =>
              obtain rfl := Option.some.inj ho
              have q15 := hun 15 (.inr (by kernel_rfl))
              replace hneed := fun j hj => (hneed j hj).2
              replace hK := fun v w1 h u => hK v w1 h trivial u
              clear hun
              have d5 := hold 5 _ (by kernel_rfl) rfl
              clear hold hneed ho
              (go_simp; exact hK _ _ rfl (Upd.refl [] _))
            | 1, ho =>
              obtain rfl := Option.some.inj ho
              have q15 := hun 15 (.inr (by kernel_rfl))
              replace hneed := fun j hj => (hneed j hj).2
              replace hK := fun v w1 h u => hK v w1 h trivial u
              clear hun
              have d10 := hold 10 _ (by kernel_rfl) rfl
              clear hold hneed ho
              (go_simp; exact hK _ _ rfl (Upd.refl [] _))
            | 2, ho =>
              obtain rfl := Option.some.inj ho
              have q15 := hun 15 (.inr (by kernel_rfl))
              replace hneed := fun j hj => (hneed j hj).2
              replace hK := fun v w1 h u => hK v w1 h trivial u
              clear hun
              have d82 := get_of_at (hneed 1 (of_decide_eq_true (by kernel_rfl)) 82 rfl) (by simp [undef])
              clear hold hneed ho
              (go_simp; rw [En1.out]; exact hK _ _ rfl (Upd.refl [] _))
            | 3, ho =>
              obtain rfl := Option.some.inj ho
              have q15 := hun 15 (.inr (by kernel_rfl))
              replace hneed := fun j hj => (hneed j hj).2
              replace hK := fun v w1 h u => hK v w1 h trivial u
              clear hun
              have d5 := hold 5 _ (by kernel_rfl) rfl
              clear hold hneed ho
              (go_simp; exact hK _ _ rfl (Upd.refl [] _))
            | 4, ho =>
              obtain rfl := Option.some.inj ho
              have q15 := hun 15 (.inr (by kernel_rfl))
              replace hneed := fun j hj => (hneed j hj).2
              replace hK := fun v w1 h u => hK v w1 h trivial u
              clear hun
              have d10 := hold 10 _ (by kernel_rfl) rfl
              clear hold hneed ho
              (go_simp; exact hK _ _ rfl (Upd.refl [] _))
            | 5, ho =>
              obtain rfl := Option.some.inj ho
              have q15 := hun 15 (.inr (by kernel_rfl))
              replace hneed := fun j hj => (hneed j hj).2
              replace hK := fun v w1 h u => hK v w1 h trivial u
              clear hun
              have d85 := get_of_at (hneed 4 (of_decide_eq_true (by kernel_rfl)) 85 rfl) (by simp [undef])
              clear hold hneed ho
              (go_simp; rw [En1.out]; exact hK _ _ rfl (Upd.refl [] _))
            | 6, ho =>
              obtain rfl := Option.some.inj ho
              have q15 := hun 15 (.inr (by kernel_rfl))
              replace hneed := fun j hj => (hneed j hj).2
              replace hK := fun v w1 h u => hK v w1 h trivial u
              clear hun
              have d84 := get_of_at (hneed 3 (of_decide_eq_true (by kernel_rfl)) 84 rfl) (by simp [undef])
              have d86 := get_of_at (hneed 5 (of_decide_eq_true (by kernel_rfl)) 86 rfl) (by simp [undef])
              clear hold hneed ho
              (go_simp; exact hK _ _ rfl (Upd.refl [] _))
            | 7, ho =>
              obtain rfl := Option.some.inj ho
              have q15 := hun 15 (.inr (by kernel_rfl))
              replace hneed := fun j hj => (hneed j hj).2
              replace hK := fun v w1 h u => hK v w1 h trivial u
              clear hun
              have d87 := get_of_at (hneed 6 (of_decide_eq_true (by kernel_rfl)) 87 rfl) (by simp [undef])
              clear hold hneed ho
              (have p0 := q15.cell n1 (urow_get _ (by omega)); go_simp; exact hK _ _ rfl (Upd.refl [] _))
            | 8, ho =>
              obtain rfl := Option.some.inj ho
              have q15 := hun 15 (.inr (by kernel_rfl))
              replace hneed := fun j hj => (hneed j hj).2
              replace hK := fun v w1 h u => hK v w1 h trivial u
              clear hun
              have d5 := hold 5 _ (by kernel_rfl) rfl
              clear hold hneed ho
              (go_simp; exact hK _ _ rfl (Upd.refl [] _))
            | 9, ho =>
              obtain rfl := Option.some.inj ho
              have q15 := hun 15 (.inr (by kernel_rfl))
              replace hneed := fun j hj => (hneed j hj).2
              replace hK := fun v w1 h u => hK v w1 h trivial u
              clear hun
              have d10 := hold 10 _ (by kernel_rfl) rfl
              clear hold hneed ho
              (go_simp; exact hK _ _ rfl (Upd.refl [] _))
            | 10, ho =>
              obtain rfl := Option.some.inj ho
              have q15 := hun 15 (.inr (by kernel_rfl))
              replace hneed := fun j hj => (hneed j hj).2
              replace hK := fun v w1 h u => hK v w1 h trivial u
              clear hun
              have d89 := get_of_at (hneed 8 (of_decide_eq_true (by kernel_rfl)) 89 rfl) (by simp [undef])
              have d90 := get_of_at (hneed 9 (of_decide_eq_true (by kernel_rfl)) 90 rfl) (by simp [undef])
              clear hold hneed ho
              (go_simp; exact hK _ _ rfl (Upd.refl [] _))
            | 11, ho =>
              obtain rfl := Option.some.inj ho
              have q15 := hun 15 (.inr (by kernel_rfl))
              replace hneed := fun j hj => (hneed j hj).2
              replace hK := fun v w1 h u => hK v w1 h trivial u
              clear hun
              have d91 := get_of_at (hneed 10 (of_decide_eq_true (by kernel_rfl)) 91 rfl) (by simp [undef])
              clear hold hneed ho
              (have p0 := q15.cell mi (urow_get _ (by omega)); go_simp; exact hK _ _ rfl (Upd.refl [] _))
            | 12, ho =>
              obtain rfl := Option.some.inj ho
              have q15 := hun 15 (.inr (by kernel_rfl))
              replace hneed := fun j hj => (hneed j hj).2
              replace hK := fun v w1 h u => hK v w1 h trivial u
              clear hun
              have d92 := get_of_at (hneed 11 (of_decide_eq_true (by kernel_rfl)) 92 rfl) (by simp [undef])
              clear hold hneed ho
              (go_simp; rw [Y.out]; exact hK _ _ rfl (Upd.refl [] _))
            | 13, ho =>
              obtain rfl := Option.some.inj ho
              have q15 := hun 15 (.inr (by kernel_rfl))
              replace hneed := fun j hj => (hneed j hj).2
              replace hK := fun v w1 h u => hK v w1 h trivial u
              clear hun
              have d88 := get_of_at (hneed 7 (of_decide_eq_true (by kernel_rfl)) 88 rfl) (by simp [undef])
              have d93 := get_of_at (hneed 12 (of_decide_eq_true (by kernel_rfl)) 93 rfl) (by simp [undef])
              clear hold hneed ho
              (go_simp; rw [V1.out]; exact hK _ _ rfl (Upd.refl [] _))
            | 14, ho =>
              obtain rfl := Option.some.inj ho
              have q15 := hun 15 (.inr (by kernel_rfl))
              replace hneed := fun j hj => (hneed j hj).2
              replace hK := fun v w1 h u => hK v w1 h trivial u
              clear hun
              have d81 := get_of_at (hneed 0 (of_decide_eq_true (by kernel_rfl)) 81 rfl) (by simp [undef])
              have d83 := get_of_at (hneed 2 (of_decide_eq_true (by kernel_rfl)) 83 rfl) (by simp [undef])
              clear hold hneed ho
              (go_simp; exact hK _ _ rfl (Upd.refl [] _))
            | 15, ho =>
              obtain rfl := Option.some.inj ho
              have q15 := hun 15 (.inl rfl)
              change Blk _ _ _ _ at q15
              replace hneed := fun j hj => (hneed j hj).2
              clear hun
              have d95 := get_of_at (hneed 14 (of_decide_eq_true (by kernel_rfl)) 95 rfl) (by simp [undef])
              have d94 := get_of_at (hneed 13 (of_decide_eq_true (by kernel_rfl)) 94 rfl) (by simp [undef])
              clear hold hneed ho
              (have p0 := q15.cell n1 (urow_get _ (by omega)); have f0 := q15.free n1; have hq := q15.set n1 (.int .u64 (s1 : Int)); rw [urow_set, S1.out] at hq; go_simp; exact hK undef _ trivial hq ((Upd.refl _ _).setCell (Or.inl (by simp [effOf, BE.eff])) _))
            | _ + 16, ho => exact absurd ho (by simp)
          case fin =>
            intro a w' hS hsz hdf hold hvals hposts
            have hP15 : Blk w' (ob) (urow L3 (bump f n1 y)) (71) := hposts 15 (of_decide_eq_true (by kernel_rfl))
            have ha := act_lit hsz hdf (RowIs.cons (at_of_get (hold 0 _ (by kernel_rfl) rfl)) (RowIs.cons (at_of_get (hold 1 _ (by kernel_rfl) rfl)) (RowIs.cons (at_of_get (hold 2 _ (by kernel_rfl) rfl)) (RowIs.cons (at_of_get (hold 3 _ (by kernel_rfl) rfl)) (RowIs.cons (at_of_get (hold 4 _ (by kernel_rfl) rfl)) (RowIs.cons (at_of_get (hold 5 _ (by kernel_rfl) rfl)) (RowIs.cons (at_of_get (hold 6 _ (by kernel_rfl) rfl)) (RowIs.cons (at_of_get (hold 7 _ (by kernel_rfl) rfl)) (RowIs.cons (at_of_get (hold 8 _ (by kernel_rfl) rfl)) (RowIs.cons (at_of_get (hold 9 _ (by kernel_rfl) rfl)) (RowIs.cons (at_of_get (hold 10 _ (by kernel_rfl) rfl)) (RowIs.cons (at_of_get (hold 11 _ (by kernel_rfl) rfl)) (RowIs.cons (at_of_get (hold 12 _ (by kernel_rfl) rfl)) (RowIs.cons (at_of_get (hold 13 _ (by kernel_rfl) rfl)) (RowIs.cons (at_of_get (hold 14 _ (by kernel_rfl) rfl)) (RowIs.cons (at_of_get (hold 15 _ (by kernel_rfl) rfl)) (RowIs.cons (at_of_get (hold 16 _ (by kernel_rfl) rfl)) (RowIs.cons (at_of_get (hold 17 _ (by kernel_rfl) rfl)) (RowIs.cons (at_of_get (hold 18 _ (by kernel_rfl) rfl)) (RowIs.cons (at_of_get (hold 19 _ (by kernel_rfl) rfl)) (RowIs.cons (at_of_get (hold 20 _ (by kernel_rfl) rfl)) (RowIs.cons (at_of_get (hold 21 _ (by kernel_rfl) rfl)) (RowIs.cons (at_of_get (hold 22 _ (by kernel_rfl) rfl)) (RowIs.cons (at_of_get (hold 23 _ (by kernel_rfl) rfl)) (RowIs.cons (at_of_get (hold 24 _ (by kernel_rfl) rfl)) (RowIs.cons (at_of_get (hold 25 _ (by kernel_rfl) rfl)) (RowIs.cons (at_of_get (hold 26 _ (by kernel_rfl) rfl)) (RowIs.cons (at_of_get (hold 27 _ (by kernel_rfl) rfl)) (RowIs.cons (at_of_get (hold 28 _ (by kernel_rfl) rfl)) (RowIs.cons (at_of_get (hold 29 _ (by kernel_rfl) rfl)) (RowIs.cons (at_of_get (hold 30 _ (by kernel_rfl) rfl)) (RowIs.cons (at_of_get (hold 31 _ (by kernel_rfl) rfl)) (RowIs.cons (at_of_get (hold 32 _ (by kernel_rfl) rfl)) (RowIs.cons (at_of_get (hold 33 _ (by kernel_rfl) rfl)) (RowIs.cons (at_of_get (hold 34 _ (by kernel_rfl) rfl)) (RowIs.cons (at_of_get (hold 35 _ (by kernel_rfl) rfl)) (RowIs.cons (at_of_get (hold 36 _ (by kernel_rfl) rfl)) (RowIs.cons (at_of_get (hold 37 _ (by kernel_rfl) rfl)) (RowIs.cons (at_of_get (hold 38 _ (by kernel_rfl) rfl)) (RowIs.cons (at_of_get (hold 39 _ (by kernel_rfl) rfl)) (RowIs.cons (at_of_get (hold 40 _ (by kernel_rfl) rfl)) (RowIs.cons (at_of_get (hold 41 _ (by kernel_rfl) rfl)) (RowIs.cons (at_of_get (hold 42 _ (by kernel_rfl) rfl)) (RowIs.cons (at_of_get (hold 43 _ (by kernel_rfl) rfl)) (RowIs.cons (at_of_get (hold 44 _ (by kernel_rfl) rfl)) (RowIs.cons (at_of_get (hold 45 _ (by kernel_rfl) rfl)) (RowIs.cons (at_of_get (hold 46 _ (by kernel_rfl) rfl)) (RowIs.cons (at_of_get (hold 47 _ (by kernel_rfl) rfl)) (RowIs.cons (at_of_get (hold 48 _ (by kernel_rfl) rfl)) (RowIs.cons (at_of_get (hold 49 _ (by kernel_rfl) rfl)) (RowIs.cons (at_of_get (hold 50 _ (by kernel_rfl) rfl)) (RowIs.cons (at_of_get (hold 51 _ (by kernel_rfl) rfl)) (RowIs.cons (at_of_get (hold 52 _ (by kernel_rfl) rfl)) (RowIs.cons (at_of_get (hold 53 _ (by kernel_rfl) rfl)) (RowIs.cons (at_of_get (hold 54 _ (by kernel_rfl) rfl)) (RowIs.cons (at_of_get (hold 55 _ (by kernel_rfl) rfl)) (RowIs.cons (at_of_get (hold 56 _ (by kernel_rfl) rfl)) (RowIs.cons (at_of_get (hold 57 _ (by kernel_rfl) rfl)) (RowIs.cons (at_of_get (hold 58 _ (by kernel_rfl) rfl)) (RowIs.cons (at_of_get (hold 59 _ (by kernel_rfl) rfl)) (RowIs.cons (at_of_get (hold 60 _ (by kernel_rfl) rfl)) (RowIs.cons (at_of_get (hold 61 _ (by kernel_rfl) rfl)) (RowIs.cons (at_of_get (hold 62 _ (by kernel_rfl) rfl)) (RowIs.cons (at_of_get (hold 63 _ (by kernel_rfl) rfl)) (RowIs.cons (at_of_get (hold 64 _ (by kernel_rfl) rfl)) (RowIs.cons (at_of_get (hold 65 _ (by kernel_rfl) rfl)) (RowIs.cons (at_of_get (hold 66 _ (by kernel_rfl) rfl)) (RowIs.cons (at_of_get (hold 67 _ (by kernel_rfl) rfl)) (RowIs.cons (at_of_get (hold 68 _ (by kernel_rfl) rfl)) (RowIs.cons (at_of_get (hold 69 _ (by kernel_rfl) rfl)) (RowIs.cons (at_of_get (hold 70 _ (by kernel_rfl) rfl)) (RowIs.cons (at_of_get (hold 71 _ (by kernel_rfl) rfl)) (RowIs.cons (at_of_get (hold 72 _ (by kernel_rfl) rfl)) (RowIs.cons (at_of_get (hold 73 _ (by kernel_rfl) rfl)) (RowIs.cons (at_of_get (hold 74 _ (by kernel_rfl) rfl)) (RowIs.cons (at_of_get (hold 75 _ (by kernel_rfl) rfl)) (RowIs.cons (at_of_get (hold 76 _ (by kernel_rfl) rfl)) (RowIs.cons (at_of_get (hold 77 _ (by kernel_rfl) rfl)) (RowIs.cons (at_of_get (hold 78 _ (by kernel_rfl) rfl)) (RowIs.cons (at_of_get (hold 79 _ (by kernel_rfl) rfl)) (RowIs.cons (at_of_get (hold 80 _ (by kernel_rfl) rfl)) (RowIs.cons (hvals 0 81 rfl) (RowIs.cons (hvals 1 82 rfl) (RowIs.cons (hvals 2 83 rfl) (RowIs.cons (hvals 3 84 rfl) (RowIs.cons (hvals 4 85 rfl) (RowIs.cons (hvals 5 86 rfl) (RowIs.cons (hvals 6 87 rfl) (RowIs.cons (hvals 7 88 rfl) (RowIs.cons (hvals 8 89 rfl) (RowIs.cons (hvals 9 90 rfl) (RowIs.cons (hvals 10 91 rfl) (RowIs.cons (hvals 11 92 rfl) (RowIs.cons (hvals 12 93 rfl) (RowIs.cons (hvals 13 94 rfl) (RowIs.cons (hvals 14 95 rfl) (RowIs.cons (at_of_get (hold 96 _ (by kernel_rfl) rfl)) (RowIs.cons (at_of_get (hold 97 _ (by kernel_rfl) rfl)) (RowIs.cons (at_of_get (hold 98 _ (by kernel_rfl) rfl)) (RowIs.cons (at_of_get (hold 99 _ (by kernel_rfl) rfl)) (RowIs.cons (at_of_get (hold 100 _ (by kernel_rfl) rfl)) (RowIs.cons (at_of_get (hold 101 _ (by kernel_rfl) rfl)) (RowIs.cons (at_of_get (hold 102 _ (by kernel_rfl) rfl)) (RowIs.cons (at_of_get (hold 103 _ (by kernel_rfl) rfl)) (RowIs.cons (at_of_get (hold 104 _ (by kernel_rfl) rfl)) (RowIs.nil _ _)))))))))))))))))))))))))))))))))))))))))))))))))))))))))))))))))))))))))))))))))))))))))))))))))))))))))) rfl
            clear hsz hdf hold hvals hposts
            subst ha
            try simp only [List.getElem_toArray, List.getElem_cons_succ, List.getElem_cons_zero]
            have hu := hu.trans_nil' hS (by simpa using hobw)
            have hO := hP15
            clear hS hP15 S1 V1 En1 Y
            obtain ⟨wq, rfl⟩ : ∃ wq, wq = w' := ⟨_, rfl⟩
            have p0 := hO.cell mi (urow_get _ l0)
            rw [Hbm.out] at p0
            have f0' := hO.free mi
            have hO2 := hO.set mi (.int .u64 (r : Int))
            rw [urow_set, ← Hc.out, ← Hn1.out] at hO2
            have hu2 := hu.setCell (p := ⟨ob, mi, none⟩) (Or.inr hobw) (.int .u64 (r : Int))
            have hand := Hand.out
            have hn1 := Hn1.out
            clear hO hu
            have HO2 := Lib.hid hO2
            have HU2 := Lib.hid hu2
            clear hO2 hu2
            go_wp2_with fail
            exact ⟨⟨mi + 1, by omega, by go_num, HO2.out, HU2.out⟩, by simp [intOf]; omega⟩
        · have e : mi = ni + 2 := by have := HL31.out; omega
          subst e
          go_wp2_with fail
          go_ret
          exact ⟨ob, by rw [HL3.out]; rfl, hobw, by rw [HL3.out, hP.out]; exact hO, hu⟩

end Go.Proofs.YtclfmgkomkmbjaaDoor
