/- mask: the chapter's examples. -/
import Derived.Test.YtppbaahaegmgeaaMkL
import Derived.Lib.SlBytesConst
namespace Go.Proofs.Ytppbaahaegmgeaa
open Go.RowKit

theorem kconv (w : World) (cells : Array Value) (n : Nat) : (convert 26 26 (.slice (some ⟨w.heap.size, 0, none⟩) n n)).run Try.prog (w.alloc (.cells cells 5)) = .ok (.slice (some ⟨w.heap.size, 0, none⟩) n n) (w.alloc (.cells cells 5 (cells.size, cells.size + 1))) :=
  Lib.run_convert_bytes_const (P := Try.prog) w 26 5 cells n n Try.underlying26 Try.underlying5
theorem lit_at (w : World) (xs : List Int) (m : Nat × Nat) : ByAt (w.alloc (.cells (u8s xs).toArray 5 m)) (some ⟨w.heap.size, 0, none⟩) xs := fun i x hx => ⟨w.heap.size, 0, rfl, by simp, by
  have e : (w.alloc (.cells (u8s xs).toArray 5 m)).cell? ⟨w.heap.size, 0 + i, none⟩ = (u8s xs)[i]? := by
    simp [World.cell?, World.alloc, -World.alloc_eq]
  rw [e]
  unfold u8s
  rw [List.getElem?_map, hx]
  rfl⟩
theorem kconv2 (w : World) (xs : List Int) : ∃ W, (convert 26 26 (.slice (some ⟨w.heap.size, 0, none⟩) xs.length xs.length)).run Try.prog (w.alloc (.cells (u8s xs).toArray 5)) = .ok (.slice (some ⟨w.heap.size, 0, none⟩) xs.length xs.length) W ∧ ByAt W (some ⟨w.heap.size, 0, none⟩) xs ∧ Upd [] w W :=
  ⟨_, kconv w _ _, lit_at w xs _, (Upd.refl [] w).alloc _⟩

theorem own_cap {w : World} {base n c : Nat} {p : Option Addr} {xs : List Int} (h : OwnB w base (.slice p n c) xs) : n ≤ c := by
  obtain ⟨p', c', e, h2, _⟩ := h.form
  cases e
  exact h2
theorem w_seal (W : World) (p : Option Addr) (c : Nat) (h : ByAt W p [97, 98, 99]) (hc : 3 ≤ c) : Calls Try.prog 11 #[.agg (row32 Gc).toArray, .agg #[.int .i64 1, .int .i64 2, .int .i64 0], .slice p 3 c] W fun e w' =>
    ∃ p' c', e = .returned (.tuple #[.slice p' 19 c', .int .i64 0]) ∧ ByAt w' p' Sc ∧ 19 ≤ c' ∧ Upd [] W w' :=
  (seal_ok W Gc Gc_rng 1 2 0 nonce_c p [97, 98, 99] c h (rng_toI [97, 98, 99] (by decide)) (by decide) hc).mono fun e w' ⟨p', c', he, ho, hu⟩ => by
    rw [row_c, seal_c] at ho
    exact ⟨p', c', he, ho.at_, own_cap ho, hu⟩
theorem w_open (W : World) (p : Option Addr) (c : Nat) (h : ByAt W p Sc) (hc : 19 ≤ c) : Calls Try.prog 14 #[.agg (row32 Gc).toArray, .agg #[.int .i64 1, .int .i64 2, .int .i64 0], .slice p 19 c] W fun e w' =>
    ∃ p' c', e = .returned (.tuple #[.slice p' 3 c', .int .i64 0]) ∧ ByAt w' p' [97, 98, 99] ∧ Upd [] W w' :=
  (open_ok W Gc Gc_rng 1 2 0 nonce_c p Sc c h Sc_rng hc 3 rfl (by decide)).mono fun e w' ⟨_, h2, hu⟩ => by
    rw [row_c] at h2
    obtain ⟨p', c', he, ho⟩ := h2 tag_w
    rw [out_w] at ho
    exact ⟨p', c', he, ho.at_, hu⟩
theorem w_open2 (W : World) (p : Option Addr) (c : Nat) (h : ByAt W p Sc) (hc : 19 ≤ c) : Calls Try.prog 14 #[.agg (row32 Gc).toArray, .agg #[.int .i64 1, .int .i64 2, .int .i64 0], .slice p 18 c] W fun e w' =>
    e = .returned (.tuple #[.slice none 0 0, .int .i64 150]) ∧ Upd [] W w' :=
  (open_ok W Gc Gc_rng 1 2 0 nonce_c p (Sc.take 18) c (h.take 18) (Sc_rng.take 18) (by show 18 ≤ c; omega) 2 rfl (by decide)).mono fun e w' ⟨h1, _, hu⟩ => by
    rw [row_c] at h1
    exact ⟨h1 tag_u, hu⟩
theorem w_open3 (W : World) (p : Option Addr) (c : Nat) (h : ByAt W p Sc) (hc : 19 ≤ c) : Calls Try.prog 14 #[.agg (row32 Gc).toArray, .agg #[.int .i64 1, .int .i64 2, .int .i64 1], .slice p 19 c] W fun e w' =>
    e = .returned (.tuple #[.slice none 0 0, .int .i64 150]) ∧ Upd [] W w' :=
  (open_ok W Gc Gc_rng 1 2 1 nonce_d p Sc c h Sc_rng hc 3 rfl (by decide)).mono fun e w' ⟨h1, _, hu⟩ => by
    rw [row_d] at h1
    exact ⟨h1 tag_v, hu⟩
theorem w_sign (W : World) : Calls Try.prog 20 #[.agg (row32 Gc).toArray, .slice none 0 0] W fun e w' => ∃ p' c', e = .returned (.slice p' 32 c') ∧ Upd [] W w' :=
  (sign_walk W Gc Gc_rng none [] 0 (ByAt.nil _ _) Rng.nil (by decide) (by decide)).mono fun e w' ⟨p', c', he, _, hu⟩ => ⟨p', c', he, hu⟩

theorem str_abc : strOfNums [97, 98, 99] = ⟨#[97, 98, 99]⟩ := by rfl

/-- As wpList_load_row, for an operation with a guard that holds. -/
theorem wpList_load_rowG {P : Program} {ops : Array Oper} {rest : List Oper} {o : Oper} {a : Act} {w : World} {Q : Exit → Act → World → Prop} (hw : Region.wanted o (yielded ops a.tmps) = true) (ty : TypeId) (x : Operand) (ho : o.op = .load ty x)
    (g : Nat) (hx : a.eval x = .pointer (some ⟨g, 0, none⟩)) (t : TypeId) (cs : Array Value) (fr : Nat × Nat) (d : TypeDesc) (hg : w.heap[g]? = some (.cells cs t fr))
    (hu : P.underlying ty = some d) (hd : (match d with | .struct _ | .array _ _ => true | _ => false) = true) (hi : (P.info? ty).map (·.size) = some cs.size)
    (h : wpList P ops Q rest (a.put o.dst (.agg cs)) w) : wpList P ops Q (o :: rest) a w :=
  wpList_step fun _ hK => by
    rw [if_pos hw]
    exact wp_load_row ty x ho g hx t cs fr d hg hu hd hi (hK _ _ h)

set_option maxRecDepth 100000 in
set_option maxHeartbeats 8000000 in
theorem works_walk (w : World) : Calls Try.prog 17 #[] w fun e w' => e = .returned (.bool true) ∧ Upd [] w w' := by
  have hz := zeroK
  go_enter Try.func17, Try.ntmps17
  have hR := Blk.new w (row32 fun _ => 0).toArray 23
  go_upto_region 2 with (refine wpList_store_rowTo rfl _ _ _ rfl rfl _ (row32 Gc).toArray rfl rfl _ (row32 fun _ => 0).toArray hR (infoK _) (size32 _ _) (one32 _) ?_)
  have u1 := ((Upd.refl [] w).alloc (.cells (row32 fun _ => 0).toArray 23)).setRow (b := w.heap.size) (Or.inr (Nat.le_refl _)) (row32 Gc).toArray
  have hK1 := hR.setRow (row32 Gc).toArray
  have hz1 : ((w.alloc (.cells (row32 fun _ => 0).toArray 23)).setRow w.heap.size (row32 Gc).toArray).heap.size = w.heap.size + 1 := by simp
  clear hR hz
  generalize (w.alloc (.cells (row32 fun _ => 0).toArray 23)).setRow w.heap.size (row32 Gc).toArray = W1 at *
  generalize hb1 : w.heap.size = b1 at *
  go_upto_region 3 with fail
  have uN := (Upd.refl [] W1).alloc (.cells #[.int .i64 1, .int .i64 2, .int .i64 0] 25)
  have hN := Blk.new W1 #[.int .i64 1, .int .i64 2, .int .i64 0] 25
  rw [hz1] at hN
  have hK2 := hK1.upd_nil uN
  have u2 := u1.trans_nil uN
  simp only [List.toList_toArray] at hK2 hN
  clear hK1 hz1 u1 uN
  generalize W1.alloc (.cells #[.int .i64 1, .int .i64 2, .int .i64 0] 25) = W2 at *
  generalize b1 + 1 = b2 at *
  have hKr : ∀ W, Upd [] W2 W → W.heap[b1]? = some (.cells (row32 Gc).toArray 23 (0, 0)) := fun W u => by
    have := hK2.upd_nil u
    unfold Blk at this
    exact this
  have hNc : ∀ W, Upd [] W2 W → W.cell? ⟨b2, 0, none⟩ = some (.int .i64 1) ∧ W.cell? ⟨b2, 1, none⟩ = some (.int .i64 2) ∧ W.cell? ⟨b2, 2, none⟩ = some (.int .i64 0) := fun W u =>
    ⟨(hN.upd_nil u).cell 0 rfl, (hN.upd_nil u).cell 1 rfl, (hN.upd_nil u).cell 2 rfl⟩
  obtain ⟨W3, e30, a3, u3⟩ := kconv2 W2 [97, 98, 99]
  have hcv : (convert 26 26 (.slice (some ⟨W2.heap.size, 0, none⟩) 3 3)).run Try.prog (W2.alloc (.cells #[.int .u8 97, .int .u8 98, .int .u8 99] 5)) = .ok (.slice (some ⟨W2.heap.size, 0, none⟩) 3 3) W3 := e30
  obtain ⟨n0, n1, n2⟩ := hNc W2 (Upd.refl [] _)
  clear e30 hK2 hN
  go_upto_region 6 with (first
    | (go_at_call 11; refine (w_seal W3 _ 3 a3 (by omega)).mono ?_; rintro e W4 ⟨p4, c4, rfl, a4, l4, u4⟩)
    | (have tok := n0; refine wpList_load_row rfl _ _ rfl b1 rfl _ (row32 Gc).toArray _ _ (hKr W2 (Upd.refl [] _)) Try.underlying23 rfl (infoK _) ?_))
  have u4' := u3.trans_nil u4
  have hKr4 := fun (W : World) (u : Upd [] W4 W) => hKr W (u4'.trans_nil u)
  have hNc4 := fun (W : World) (u : Upd [] W4 W) => hNc W (u4'.trans_nil u)
  have t4 := u2.trans_nil u4'
  clear n0 n1 n2 hcv a3 u3 u4 u4' hKr hNc u2
  obtain ⟨m0, m1, m2⟩ := hNc4 W4 (Upd.refl [] _)
  go_upto_region 7 with (first
    | (go_at_call 14; refine (w_open W4 _ _ a4 l4).mono ?_; rintro e W5 ⟨p5, c5, rfl, a5, u5⟩)
    | (have tok := m0; refine wpList_load_row rfl _ _ rfl b1 rfl _ (row32 Gc).toArray _ _ (hKr4 W4 (Upd.refl [] _)) Try.underlying23 rfl (infoK _) ?_))
  have hKr5 := fun (W : World) (u : Upd [] W5 W) => hKr4 W (u5.trans_nil u)
  have hNc5 := fun (W : World) (u : Upd [] W5 W) => hNc4 W (u5.trans_nil u)
  have t5 := t4.trans_nil u5
  have a45 := a4.upd_nil u5
  clear m0 m1 m2 hKr4 hNc4 u5 t4 a4
  have hop2 := fun (W : World) (u : Upd [] W5 W) => w_open2 W p4 c4 (a45.upd_nil u) l4
  have l18 : (18 : Int) ≤ c4 := by omega
  refine wp_region_spec [(.eq (.agg (row32 Gc).toArray)), (.eq (.agg #[.int .i64 1, .int .i64 2, .int .i64 0])), (.eq (.slice p4 19 c4)), (.eq (.slice p4 18 c4)), (.eq (.tuple #[.slice none 0 0, .int .i64 150])), (.eq (.tuple #[.slice none 0 0, .int .i64 150])), (.eq (.slice none 0 0)), (.eq (.int .i64 150)), (.eq (.slice none 0 0)), (.eq (.int .i64 150))] (by kernel_rfl) (by kernel_rfl) rfl ?step ?fin
  case step =>
    intro i o ho a w' hS hold hneed K' hK
    match i, ho with
    | 0, ho =>
      obtain rfl := Option.some.inj ho
      have d1 := hold 1 _ (by kernel_rfl) rfl
      clear hold hneed ho
      (rw [if_pos (by simp [Region.wanted, yielded, *])]; exact wp_load_row 23 (.tmp 1) rfl b1 (by simp [Act.eval, *]) 23 _ (0, 0) _ (hKr5 _ hS) Try.underlying23 rfl (infoK _) (hK _ _ rfl (Upd.refl [] _)))
    | 1, ho =>
      obtain rfl := Option.some.inj ho
      have d2 := hold 2 _ (by kernel_rfl) rfl
      clear hold hneed ho
      (have q0 := (hNc5 _ hS).1; have q1 := (hNc5 _ hS).2.1; have q2 := (hNc5 _ hS).2.2; go_simp; exact hK _ _ rfl (Upd.refl [] _))
    | 2, ho =>
      obtain rfl := Option.some.inj ho
      have d3 := hold 3 _ (by kernel_rfl) rfl
      clear hold hneed ho
      (go_simp; exact hK _ _ rfl (Upd.refl [] _))
    | 3, ho =>
      obtain rfl := Option.some.inj ho
      have d40 := get_of_at (hneed 2 (of_decide_eq_true (by kernel_rfl)) 40 rfl) (by simp [undef])
      clear hold hneed ho
      (go_simp; exact hK _ _ rfl (Upd.refl [] _))
    | 4, ho =>
      obtain rfl := Option.some.inj ho
      have d38 := get_of_at (hneed 0 (of_decide_eq_true (by kernel_rfl)) 38 rfl) (by simp [undef])
      have d39 := get_of_at (hneed 1 (of_decide_eq_true (by kernel_rfl)) 39 rfl) (by simp [undef])
      have d41 := get_of_at (hneed 3 (of_decide_eq_true (by kernel_rfl)) 41 rfl) (by simp [undef])
      clear hold hneed ho
      (go_simp; refine (hop2 _ hS).mono ?_; rintro e w3 ⟨rfl, hu3⟩; exact hK _ _ rfl hu3)
    | 5, ho =>
      obtain rfl := Option.some.inj ho
      have d42 := get_of_at (hneed 4 (of_decide_eq_true (by kernel_rfl)) 42 rfl) (by simp [undef])
      clear hold hneed ho
      (go_simp; exact hK _ _ rfl (Upd.refl [] _))
    | 6, ho =>
      obtain rfl := Option.some.inj ho
      have d37 := get_of_at (hneed 5 (of_decide_eq_true (by kernel_rfl)) 37 rfl) (by simp [undef])
      clear hold hneed ho
      (go_simp; exact hK _ _ rfl (Upd.refl [] _))
    | 7, ho =>
      obtain rfl := Option.some.inj ho
      have d37 := get_of_at (hneed 5 (of_decide_eq_true (by kernel_rfl)) 37 rfl) (by simp [undef])
      clear hold hneed ho
      (go_simp; exact hK _ _ rfl (Upd.refl [] _))
    | 8, ho =>
      obtain rfl := Option.some.inj ho
      have d43 := get_of_at (hneed 6 (of_decide_eq_true (by kernel_rfl)) 43 rfl) (by simp [undef])
      clear hold hneed ho
      (go_simp; exact hK _ _ rfl (Upd.refl [] _))
    | 9, ho =>
      obtain rfl := Option.some.inj ho
      have d44 := get_of_at (hneed 7 (of_decide_eq_true (by kernel_rfl)) 44 rfl) (by simp [undef])
      clear hold hneed ho
      (go_simp; exact hK _ _ rfl (Upd.refl [] _))
    | _ + 10, ho => exact absurd ho (by simp)
  case fin =>
    intro a w' hS hsz hdf hold hvals
    have ha := act_lit hsz hdf (RowIs.cons (at_of_get (hold 0 _ (by kernel_rfl) rfl)) (RowIs.cons (at_of_get (hold 1 _ (by kernel_rfl) rfl)) (RowIs.cons (at_of_get (hold 2 _ (by kernel_rfl) rfl)) (RowIs.cons (at_of_get (hold 3 _ (by kernel_rfl) rfl)) (RowIs.cons (at_of_get (hold 4 _ (by kernel_rfl) rfl)) (RowIs.cons (at_of_get (hold 5 _ (by kernel_rfl) rfl)) (RowIs.cons (at_of_get (hold 6 _ (by kernel_rfl) rfl)) (RowIs.cons (hvals 8 7 rfl) (RowIs.cons (hvals 9 8 rfl) (RowIs.cons (at_of_get (hold 9 _ (by kernel_rfl) rfl)) (RowIs.cons (at_of_get (hold 10 _ (by kernel_rfl) rfl)) (RowIs.cons (at_of_get (hold 11 _ (by kernel_rfl) rfl)) (RowIs.cons (at_of_get (hold 12 _ (by kernel_rfl) rfl)) (RowIs.cons (at_of_get (hold 13 _ (by kernel_rfl) rfl)) (RowIs.cons (at_of_get (hold 14 _ (by kernel_rfl) rfl)) (RowIs.cons (at_of_get (hold 15 _ (by kernel_rfl) rfl)) (RowIs.cons (at_of_get (hold 16 _ (by kernel_rfl) rfl)) (RowIs.cons (at_of_get (hold 17 _ (by kernel_rfl) rfl)) (RowIs.cons (at_of_get (hold 18 _ (by kernel_rfl) rfl)) (RowIs.cons (at_of_get (hold 19 _ (by kernel_rfl) rfl)) (RowIs.cons (at_of_get (hold 20 _ (by kernel_rfl) rfl)) (RowIs.cons (at_of_get (hold 21 _ (by kernel_rfl) rfl)) (RowIs.cons (at_of_get (hold 22 _ (by kernel_rfl) rfl)) (RowIs.cons (at_of_get (hold 23 _ (by kernel_rfl) rfl)) (RowIs.cons (at_of_get (hold 24 _ (by kernel_rfl) rfl)) (RowIs.cons (at_of_get (hold 25 _ (by kernel_rfl) rfl)) (RowIs.cons (at_of_get (hold 26 _ (by kernel_rfl) rfl)) (RowIs.cons (at_of_get (hold 27 _ (by kernel_rfl) rfl)) (RowIs.cons (at_of_get (hold 28 _ (by kernel_rfl) rfl)) (RowIs.cons (at_of_get (hold 29 _ (by kernel_rfl) rfl)) (RowIs.cons (at_of_get (hold 30 _ (by kernel_rfl) rfl)) (RowIs.cons (at_of_get (hold 31 _ (by kernel_rfl) rfl)) (RowIs.cons (at_of_get (hold 32 _ (by kernel_rfl) rfl)) (RowIs.cons (at_of_get (hold 33 _ (by kernel_rfl) rfl)) (RowIs.cons (at_of_get (hold 34 _ (by kernel_rfl) rfl)) (RowIs.cons (at_of_get (hold 35 _ (by kernel_rfl) rfl)) (RowIs.cons (at_of_get (hold 36 _ (by kernel_rfl) rfl)) (RowIs.cons (hvals 5 37 rfl) (RowIs.cons (hvals 0 38 rfl) (RowIs.cons (hvals 1 39 rfl) (RowIs.cons (hvals 2 40 rfl) (RowIs.cons (hvals 3 41 rfl) (RowIs.cons (hvals 4 42 rfl) (RowIs.cons (hvals 6 43 rfl) (RowIs.cons (hvals 7 44 rfl) (RowIs.cons (at_of_get (hold 45 _ (by kernel_rfl) rfl)) (RowIs.cons (at_of_get (hold 46 _ (by kernel_rfl) rfl)) (RowIs.cons (at_of_get (hold 47 _ (by kernel_rfl) rfl)) (RowIs.cons (at_of_get (hold 48 _ (by kernel_rfl) rfl)) (RowIs.cons (at_of_get (hold 49 _ (by kernel_rfl) rfl)) (RowIs.cons (at_of_get (hold 50 _ (by kernel_rfl) rfl)) (RowIs.cons (at_of_get (hold 51 _ (by kernel_rfl) rfl)) (RowIs.cons (at_of_get (hold 52 _ (by kernel_rfl) rfl)) (RowIs.cons (at_of_get (hold 53 _ (by kernel_rfl) rfl)) (RowIs.cons (at_of_get (hold 54 _ (by kernel_rfl) rfl)) (RowIs.cons (at_of_get (hold 55 _ (by kernel_rfl) rfl)) (RowIs.cons (at_of_get (hold 56 _ (by kernel_rfl) rfl)) (RowIs.cons (at_of_get (hold 57 _ (by kernel_rfl) rfl)) (RowIs.cons (at_of_get (hold 58 _ (by kernel_rfl) rfl)) (RowIs.cons (at_of_get (hold 59 _ (by kernel_rfl) rfl)) (RowIs.cons (at_of_get (hold 60 _ (by kernel_rfl) rfl)) (RowIs.cons (at_of_get (hold 61 _ (by kernel_rfl) rfl)) (RowIs.cons (at_of_get (hold 62 _ (by kernel_rfl) rfl)) (RowIs.cons (at_of_get (hold 63 _ (by kernel_rfl) rfl)) (RowIs.cons (at_of_get (hold 64 _ (by kernel_rfl) rfl)) (RowIs.cons (at_of_get (hold 65 _ (by kernel_rfl) rfl)) (RowIs.cons (at_of_get (hold 66 _ (by kernel_rfl) rfl)) (RowIs.cons (at_of_get (hold 67 _ (by kernel_rfl) rfl)) (RowIs.cons (at_of_get (hold 68 _ (by kernel_rfl) rfl)) (RowIs.cons (at_of_get (hold 69 _ (by kernel_rfl) rfl)) (RowIs.cons (at_of_get (hold 70 _ (by kernel_rfl) rfl)) (RowIs.cons (at_of_get (hold 71 _ (by kernel_rfl) rfl)) (RowIs.cons (at_of_get (hold 72 _ (by kernel_rfl) rfl)) (RowIs.cons (at_of_get (hold 73 _ (by kernel_rfl) rfl)) (RowIs.cons (at_of_get (hold 74 _ (by kernel_rfl) rfl)) (RowIs.cons (at_of_get (hold 75 _ (by kernel_rfl) rfl)) (RowIs.cons (at_of_get (hold 76 _ (by kernel_rfl) rfl)) (RowIs.cons (at_of_get (hold 77 _ (by kernel_rfl) rfl)) (RowIs.cons (at_of_get (hold 78 _ (by kernel_rfl) rfl)) (RowIs.cons (at_of_get (hold 79 _ (by kernel_rfl) rfl)) (RowIs.cons (at_of_get (hold 80 _ (by kernel_rfl) rfl)) (RowIs.cons (at_of_get (hold 81 _ (by kernel_rfl) rfl)) (RowIs.cons (at_of_get (hold 82 _ (by kernel_rfl) rfl)) (RowIs.cons (at_of_get (hold 83 _ (by kernel_rfl) rfl)) (RowIs.cons (at_of_get (hold 84 _ (by kernel_rfl) rfl)) (RowIs.cons (at_of_get (hold 85 _ (by kernel_rfl) rfl)) (RowIs.cons (at_of_get (hold 86 _ (by kernel_rfl) rfl)) (RowIs.cons (at_of_get (hold 87 _ (by kernel_rfl) rfl)) (RowIs.cons (at_of_get (hold 88 _ (by kernel_rfl) rfl)) (RowIs.cons (at_of_get (hold 89 _ (by kernel_rfl) rfl)) (RowIs.nil _ _))))))))))))))))))))))))))))))))))))))))))))))))))))))))))))))))))))))))))))))))))))))))))) rfl
    clear hsz hdf hold hvals
    subst ha
    try simp only [List.getElem_toArray, List.getElem_cons_succ, List.getElem_cons_zero]
    obtain ⟨W6, rfl⟩ : ∃ W6, W6 = w' := ⟨_, rfl⟩
    have t6 := t5.trans_nil hS
    have hKr6 := fun (W : World) (u : Upd [] W6 W) => hKr5 W (hS.trans_nil u)
    have a46 := a45.upd_nil hS
    have a56 := a5.upd_nil hS
    have hNc6 := fun (W : World) (u : Upd [] W6 W) => hNc5 W (hS.trans_nil u)
    clear hop2 hKr5 hNc5 hS a45 a5 t5
    go_upto_region 9 with (first
      | (go_at_call 14; refine (w_open3 W6 _ _ a46 l4).mono ?_; rintro e W7 ⟨rfl, u7⟩)
      | (have tok := a46; refine wpList_load_row rfl _ _ rfl b1 rfl _ (row32 Gc).toArray _ _ (hKr6 W6 (Upd.refl [] _)) Try.underlying23 rfl (infoK _) ?_))
    have t7 := t6.trans_nil u7
    have hKr7 := fun (W : World) (u : Upd [] W7 W) => hKr6 W (u7.trans_nil u)
    have hNc7 := fun (W : World) (u : Upd [] W7 W) => hNc6 W (u7.trans_nil u)
    have a57 := a56.upd_nil u7
    clear hKr6 hNc6 a46 a56 u7 t6
    have hmk : ∀ w, (Instr.makeSlice 26 (.int .i64 15) (.int .i64 15)).run Try.prog w = .ok (.slice (some ⟨w.heap.size, 0, none⟩) 15 15) (w.alloc (.cells (brow 15 fun _ => 0).toArray 5)) := fun w => mk_u8 15 (by omega) w
    have hop4 := fun (W : World) (p : Option Addr) => open_short W Gc 1 2 0 nonce_c p 15 15 (by omega)
    refine wp_region_spec [(.eq (.agg (row32 Gc).toArray)), (.eq (.agg #[.int .i64 1, .int .i64 2, .int .i64 0])), (.sl 15 15 (brow 15 fun _ => 0) 5), (.eq (.tuple #[.slice none 0 0, .int .i64 3])), (.eq (.tuple #[.slice none 0 0, .int .i64 3])), (.eq (.slice none 0 0)), (.eq (.int .i64 3)), (.eq (.slice none 0 0)), (.eq (.int .i64 3))] (by kernel_rfl) (by kernel_rfl) rfl ?step ?fin
    case step =>
      intro i o ho a w' hS hold hneed K' hK
      match i, ho with
      | 0, ho =>
        obtain rfl := Option.some.inj ho
        have d1 := hold 1 _ (by kernel_rfl) rfl
        clear hold hneed ho
        (rw [if_pos (by simp [Region.wanted, yielded, *])]; exact wp_load_row 23 (.tmp 1) rfl b1 (by simp [Act.eval, *]) 23 _ (0, 0) _ (hKr7 _ hS) Try.underlying23 rfl (infoK _) (hK _ _ rfl (Upd.refl [] _)))
      | 1, ho =>
        obtain rfl := Option.some.inj ho
        have d2 := hold 2 _ (by kernel_rfl) rfl
        clear hold hneed ho
        (have q0 := (hNc7 _ hS).1; have q1 := (hNc7 _ hS).2.1; have q2 := (hNc7 _ hS).2.2; go_simp; exact hK _ _ rfl (Upd.refl [] _))
      | 2, ho =>
        obtain rfl := Option.some.inj ho
        clear hold hneed ho
        (go_simp; exact hK _ _ ⟨_, rfl, Blk.new _ _ _⟩ ((Upd.refl [] _).alloc _))
      | 3, ho =>
        obtain rfl := Option.some.inj ho
        have d53 := get_of_at (hneed 0 (of_decide_eq_true (by kernel_rfl)) 53 rfl) (by simp [undef])
        have d54 := get_of_at (hneed 1 (of_decide_eq_true (by kernel_rfl)) 54 rfl) (by simp [undef])
        obtain ⟨b55, e55, hB55⟩ := hneed 2 (of_decide_eq_true (by kernel_rfl)) 55 rfl
        have d55 := get_of_at e55 (by simp [undef])
        clear hold hneed ho
        (go_simp; refine (hop4 _ _).mono ?_; rintro e w3 ⟨rfl, hu3⟩; exact hK _ _ rfl hu3)
      | 4, ho =>
        obtain rfl := Option.some.inj ho
        have d56 := get_of_at (hneed 3 (of_decide_eq_true (by kernel_rfl)) 56 rfl) (by simp [undef])
        clear hold hneed ho
        (go_simp; exact hK _ _ rfl (Upd.refl [] _))
      | 5, ho =>
        obtain rfl := Option.some.inj ho
        have d52 := get_of_at (hneed 4 (of_decide_eq_true (by kernel_rfl)) 52 rfl) (by simp [undef])
        clear hold hneed ho
        (go_simp; exact hK _ _ rfl (Upd.refl [] _))
      | 6, ho =>
        obtain rfl := Option.some.inj ho
        have d52 := get_of_at (hneed 4 (of_decide_eq_true (by kernel_rfl)) 52 rfl) (by simp [undef])
        clear hold hneed ho
        (go_simp; exact hK _ _ rfl (Upd.refl [] _))
      | 7, ho =>
        obtain rfl := Option.some.inj ho
        have d57 := get_of_at (hneed 5 (of_decide_eq_true (by kernel_rfl)) 57 rfl) (by simp [undef])
        clear hold hneed ho
        (go_simp; exact hK _ _ rfl (Upd.refl [] _))
      | 8, ho =>
        obtain rfl := Option.some.inj ho
        have d58 := get_of_at (hneed 6 (of_decide_eq_true (by kernel_rfl)) 58 rfl) (by simp [undef])
        clear hold hneed ho
        (go_simp; exact hK _ _ rfl (Upd.refl [] _))
      | _ + 9, ho => exact absurd ho (by simp)
    case fin =>
      intro a w' hS hsz hdf hold hvals
      obtain ⟨b55, hv55, hB55⟩ := hvals 2 55 rfl
      have ha := act_lit hsz hdf (RowIs.cons (at_of_get (hold 0 _ (by kernel_rfl) rfl)) (RowIs.cons (at_of_get (hold 1 _ (by kernel_rfl) rfl)) (RowIs.cons (at_of_get (hold 2 _ (by kernel_rfl) rfl)) (RowIs.cons (at_of_get (hold 3 _ (by kernel_rfl) rfl)) (RowIs.cons (at_of_get (hold 4 _ (by kernel_rfl) rfl)) (RowIs.cons (at_of_get (hold 5 _ (by kernel_rfl) rfl)) (RowIs.cons (at_of_get (hold 6 _ (by kernel_rfl) rfl)) (RowIs.cons (at_of_get (hold 7 _ (by kernel_rfl) rfl)) (RowIs.cons (at_of_get (hold 8 _ (by kernel_rfl) rfl)) (RowIs.cons (at_of_get (hold 9 _ (by kernel_rfl) rfl)) (RowIs.cons (at_of_get (hold 10 _ (by kernel_rfl) rfl)) (RowIs.cons (hvals 7 11 rfl) (RowIs.cons (hvals 8 12 rfl) (RowIs.cons (at_of_get (hold 13 _ (by kernel_rfl) rfl)) (RowIs.cons (at_of_get (hold 14 _ (by kernel_rfl) rfl)) (RowIs.cons (at_of_get (hold 15 _ (by kernel_rfl) rfl)) (RowIs.cons (at_of_get (hold 16 _ (by kernel_rfl) rfl)) (RowIs.cons (at_of_get (hold 17 _ (by kernel_rfl) rfl)) (RowIs.cons (at_of_get (hold 18 _ (by kernel_rfl) rfl)) (RowIs.cons (at_of_get (hold 19 _ (by kernel_rfl) rfl)) (RowIs.cons (at_of_get (hold 20 _ (by kernel_rfl) rfl)) (RowIs.cons (at_of_get (hold 21 _ (by kernel_rfl) rfl)) (RowIs.cons (at_of_get (hold 22 _ (by kernel_rfl) rfl)) (RowIs.cons (at_of_get (hold 23 _ (by kernel_rfl) rfl)) (RowIs.cons (at_of_get (hold 24 _ (by kernel_rfl) rfl)) (RowIs.cons (at_of_get (hold 25 _ (by kernel_rfl) rfl)) (RowIs.cons (at_of_get (hold 26 _ (by kernel_rfl) rfl)) (RowIs.cons (at_of_get (hold 27 _ (by kernel_rfl) rfl)) (RowIs.cons (at_of_get (hold 28 _ (by kernel_rfl) rfl)) (RowIs.cons (at_of_get (hold 29 _ (by kernel_rfl) rfl)) (RowIs.cons (at_of_get (hold 30 _ (by kernel_rfl) rfl)) (RowIs.cons (at_of_get (hold 31 _ (by kernel_rfl) rfl)) (RowIs.cons (at_of_get (hold 32 _ (by kernel_rfl) rfl)) (RowIs.cons (at_of_get (hold 33 _ (by kernel_rfl) rfl)) (RowIs.cons (at_of_get (hold 34 _ (by kernel_rfl) rfl)) (RowIs.cons (at_of_get (hold 35 _ (by kernel_rfl) rfl)) (RowIs.cons (at_of_get (hold 36 _ (by kernel_rfl) rfl)) (RowIs.cons (at_of_get (hold 37 _ (by kernel_rfl) rfl)) (RowIs.cons (at_of_get (hold 38 _ (by kernel_rfl) rfl)) (RowIs.cons (at_of_get (hold 39 _ (by kernel_rfl) rfl)) (RowIs.cons (at_of_get (hold 40 _ (by kernel_rfl) rfl)) (RowIs.cons (at_of_get (hold 41 _ (by kernel_rfl) rfl)) (RowIs.cons (at_of_get (hold 42 _ (by kernel_rfl) rfl)) (RowIs.cons (at_of_get (hold 43 _ (by kernel_rfl) rfl)) (RowIs.cons (at_of_get (hold 44 _ (by kernel_rfl) rfl)) (RowIs.cons (at_of_get (hold 45 _ (by kernel_rfl) rfl)) (RowIs.cons (at_of_get (hold 46 _ (by kernel_rfl) rfl)) (RowIs.cons (at_of_get (hold 47 _ (by kernel_rfl) rfl)) (RowIs.cons (at_of_get (hold 48 _ (by kernel_rfl) rfl)) (RowIs.cons (at_of_get (hold 49 _ (by kernel_rfl) rfl)) (RowIs.cons (at_of_get (hold 50 _ (by kernel_rfl) rfl)) (RowIs.cons (at_of_get (hold 51 _ (by kernel_rfl) rfl)) (RowIs.cons (hvals 4 52 rfl) (RowIs.cons (hvals 0 53 rfl) (RowIs.cons (hvals 1 54 rfl) (RowIs.cons hv55 (RowIs.cons (hvals 3 56 rfl) (RowIs.cons (hvals 5 57 rfl) (RowIs.cons (hvals 6 58 rfl) (RowIs.cons (at_of_get (hold 59 _ (by kernel_rfl) rfl)) (RowIs.cons (at_of_get (hold 60 _ (by kernel_rfl) rfl)) (RowIs.cons (at_of_get (hold 61 _ (by kernel_rfl) rfl)) (RowIs.cons (at_of_get (hold 62 _ (by kernel_rfl) rfl)) (RowIs.cons (at_of_get (hold 63 _ (by kernel_rfl) rfl)) (RowIs.cons (at_of_get (hold 64 _ (by kernel_rfl) rfl)) (RowIs.cons (at_of_get (hold 65 _ (by kernel_rfl) rfl)) (RowIs.cons (at_of_get (hold 66 _ (by kernel_rfl) rfl)) (RowIs.cons (at_of_get (hold 67 _ (by kernel_rfl) rfl)) (RowIs.cons (at_of_get (hold 68 _ (by kernel_rfl) rfl)) (RowIs.cons (at_of_get (hold 69 _ (by kernel_rfl) rfl)) (RowIs.cons (at_of_get (hold 70 _ (by kernel_rfl) rfl)) (RowIs.cons (at_of_get (hold 71 _ (by kernel_rfl) rfl)) (RowIs.cons (at_of_get (hold 72 _ (by kernel_rfl) rfl)) (RowIs.cons (at_of_get (hold 73 _ (by kernel_rfl) rfl)) (RowIs.cons (at_of_get (hold 74 _ (by kernel_rfl) rfl)) (RowIs.cons (at_of_get (hold 75 _ (by kernel_rfl) rfl)) (RowIs.cons (at_of_get (hold 76 _ (by kernel_rfl) rfl)) (RowIs.cons (at_of_get (hold 77 _ (by kernel_rfl) rfl)) (RowIs.cons (at_of_get (hold 78 _ (by kernel_rfl) rfl)) (RowIs.cons (at_of_get (hold 79 _ (by kernel_rfl) rfl)) (RowIs.cons (at_of_get (hold 80 _ (by kernel_rfl) rfl)) (RowIs.cons (at_of_get (hold 81 _ (by kernel_rfl) rfl)) (RowIs.cons (at_of_get (hold 82 _ (by kernel_rfl) rfl)) (RowIs.cons (at_of_get (hold 83 _ (by kernel_rfl) rfl)) (RowIs.cons (at_of_get (hold 84 _ (by kernel_rfl) rfl)) (RowIs.cons (at_of_get (hold 85 _ (by kernel_rfl) rfl)) (RowIs.cons (at_of_get (hold 86 _ (by kernel_rfl) rfl)) (RowIs.cons (at_of_get (hold 87 _ (by kernel_rfl) rfl)) (RowIs.cons (at_of_get (hold 88 _ (by kernel_rfl) rfl)) (RowIs.cons (at_of_get (hold 89 _ (by kernel_rfl) rfl)) (RowIs.nil _ _))))))))))))))))))))))))))))))))))))))))))))))))))))))))))))))))))))))))))))))))))))))))))) rfl
      clear hsz hdf hold hvals
      subst ha
      try simp only [List.getElem_toArray, List.getElem_cons_succ, List.getElem_cons_zero]
      obtain ⟨W8, rfl⟩ : ∃ W8, W8 = w' := ⟨_, rfl⟩
      have t8 := t7.trans_nil hS
      have hKr8 := fun (W : World) (u : Upd [] W8 W) => hKr7 W (hS.trans_nil u)
      have a58 := a57.upd_nil hS
      clear hop4 hmk hKr7 hNc7 hS a57 t7
      have heq := eq_zero16'
      go_wp2_with (first
        | (go_at_call 20; refine (w_sign W9).mono ?_; rintro e W10 ⟨p10, c10, rfl, u10⟩; have hb := bstr (k := 3) (c := c5) rfl ((a58.upd_nil u9).upd_nil u10) (by omega); rw [str_abc] at hb)
        | (have tok := u9; refine wpList_load_rowG (by simp [Region.wanted, yielded]) _ _ rfl b1 rfl _ (row32 Gc).toArray _ _ (hKr8 W9 u9) Try.underlying23 rfl (infoK _) ?_)
        | (go_at_call 23; refine (mark_none W8 Gc).mono ?_; rintro e W9 ⟨rfl, u9⟩)
        | (refine wpList_load_row rfl _ _ rfl b1 rfl _ (row32 Gc).toArray _ _ (hKr8 W8 (Upd.refl [] _)) Try.underlying23 rfl (infoK _) ?_))
      go_ret
      exact ⟨rfl, ((t8.trans_nil u9).trans_nil u10)⟩

end Go.Proofs.Ytppbaahaegmgeaa
