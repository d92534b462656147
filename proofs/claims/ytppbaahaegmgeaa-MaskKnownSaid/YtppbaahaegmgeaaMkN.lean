/- mask's laws: a nonce that may be; what came in. -/
import Derived.Test.YtppbaahaegmgeaaMkJ
import Derived.Test.YtppbaahaegmgeaaBring
import Derived.Test.YtppbaahaegmgeaaScal
import Derived.Lib.SmallJoins
namespace Go.Proofs.Ytppbaahaegmgeaa
open Go.RowKit Go.ChangeShapes Go.WideShapes Go.Deep

theorem bring_big (x m : Int) (w : World) (hm : 0 < m) (hm2 : m ≤ 9007199254740992) (h1 : -9223372036854775808 ≤ x) (h2 : x ≤ 9223372036854775807) :
    Calls Try.prog 25 #[.int .i64 x, .int .i64 m] w fun e w' => e = .returned (.int .i64 (x % m)) ∧ w = w' := by
  go_enter Try.func25, Try.ntmps25
  go_wp2
  · rename_i hneg
    go_ret
    have e := tmod_neg x m hm hneg
    have h0 := Int.emod_nonneg x (show m ≠ 0 by omega)
    have h3 := Int.emod_lt_of_pos x hm
    exact ⟨ret_int (by rw [e]; unfold wrap64; omega), rfl⟩
  · rename_i hpos
    go_ret
    exact ⟨ret_int (tmod_pos x m hm hpos), rfl⟩
def I64 (x : Int) : Prop := -9223372036854775808 ≤ x ∧ x ≤ 9223372036854775807
theorem near_ok (a s r : Int) : NonceOk [a % 9007199254740992, s % 9007199254740992, r % 9007199254740992] := by
  intro x hx
  simp only [List.mem_cons, List.not_mem_nil, or_false] at hx
  unfold okU
  rcases hx with rfl | rfl | rfl <;> omega

set_option maxRecDepth 100000 in
set_option maxHeartbeats 4000000 in
theorem near_walk (w : World) (a s r : Int) (ha : I64 a) (hs : I64 s) (hr : I64 r) : Calls Try.prog 18 #[.agg #[.int .i64 a, .int .i64 s, .int .i64 r]] w fun e w' =>
    e = .returned (.agg #[.int .i64 (a % 9007199254740992), .int .i64 (s % 9007199254740992), .int .i64 (r % 9007199254740992)]) ∧ Upd [] w w' := by
  have hba := fun W => bring_big a 9007199254740992 W (by omega) (by omega) ha.1 ha.2
  have hbs := fun W => bring_big s 9007199254740992 W (by omega) (by omega) hs.1 hs.2
  have hbr := fun W => bring_big r 9007199254740992 W (by omega) (by omega) hr.1 hr.2
  go_enter Try.func18, Try.ntmps18
  go_upto_region 1 with fail
  have hN := Blk.new w #[.int .i64 a, .int .i64 s, .int .i64 r] 25
  have hN1 := hN.alloc (.cells #[.int .i64 0, .int .i64 0, .int .i64 0] 25)
  have hO := Blk.new (w.alloc (.cells #[.int .i64 a, .int .i64 s, .int .i64 r] 25)) #[.int .i64 0, .int .i64 0, .int .i64 0] 25
  rw [World.size_alloc] at hO
  have u1 := ((Upd.refl [] w).alloc (.cells #[.int .i64 a, .int .i64 s, .int .i64 r] 25)).alloc (.cells #[.int .i64 0, .int .i64 0, .int .i64 0] 25)
  generalize (w.alloc (.cells #[.int .i64 a, .int .i64 s, .int .i64 r] 25)).alloc (.cells #[.int .i64 0, .int .i64 0, .int .i64 0] 25) = W1 at *
  generalize hd : w.heap.size = D at hN1 hO ⊢
  simp only [List.toList_toArray] at hO hN1
  have hNc : ∀ W, Upd [] W1 W → W.cell? ⟨D, 0, none⟩ = some (.int .i64 a) ∧ W.cell? ⟨D, 1, none⟩ = some (.int .i64 s) ∧ W.cell? ⟨D, 2, none⟩ = some (.int .i64 r) := fun W u =>
    ⟨(hN1.upd_nil u).cell 0 rfl, (hN1.upd_nil u).cell 1 rfl, (hN1.upd_nil u).cell 2 rfl⟩
  generalize hd2 : D + 1 = E at hO ⊢
  have hEw : w.heap.size ≤ E := by omega
  clear hN hN1 hd hd2
  refine wp_region_head3 9 [(.s (.eq (.pointer (some ⟨D, 0, none⟩)))), (.s (.eq (.int .i64 a))), (.s (.eq (.int .i64 (a % 9007199254740992)))), (.s (.eq (.pointer (some ⟨D, 1, none⟩)))), (.s (.eq (.int .i64 s))), (.s (.eq (.int .i64 (s % 9007199254740992)))), (.s (.eq (.pointer (some ⟨D, 2, none⟩)))), (.s (.eq (.int .i64 r))), (.s (.eq (.int .i64 (r % 9007199254740992))))] (by kernel_rfl) (by kernel_rfl) (by kernel_rfl) rfl ?step ?fin
  case step =>
    intro i o him ho a w' hS hold hneed K' hK
    match i, him, ho with
    | 0, _, ho =>
      obtain rfl := Option.some.inj ho
      have d1 := hold 1 _ (by kernel_rfl) rfl
      clear hold hneed ho
      (go_simp; exact hK _ _ rfl (Upd.refl [] _))
    | 1, _, ho =>
      obtain rfl := Option.some.inj ho
      have d3 := get_of_at (hneed 0 (of_decide_eq_true (by kernel_rfl)) 3 rfl) (by simp [undef])
      clear hold hneed ho
      (have p0 := (hNc _ hS).1; go_simp; exact hK _ _ rfl (Upd.refl [] _))
    | 2, _, ho =>
      obtain rfl := Option.some.inj ho
      have d4 := get_of_at (hneed 1 (of_decide_eq_true (by kernel_rfl)) 4 rfl) (by simp [undef])
      clear hold hneed ho
      (go_simp; refine (hba _).mono ?_; rintro e w3 ⟨rfl, rfl⟩; exact hK _ _ rfl (Upd.refl [] _))
    | 3, _, ho =>
      obtain rfl := Option.some.inj ho
      have d1 := hold 1 _ (by kernel_rfl) rfl
      clear hold hneed ho
      (go_simp; exact hK _ _ rfl (Upd.refl [] _))
    | 4, _, ho =>
      obtain rfl := Option.some.inj ho
      have d6 := get_of_at (hneed 3 (of_decide_eq_true (by kernel_rfl)) 6 rfl) (by simp [undef])
      clear hold hneed ho
      (have p0 := (hNc _ hS).2.1; go_simp; exact hK _ _ rfl (Upd.refl [] _))
    | 5, _, ho =>
      obtain rfl := Option.some.inj ho
      have d7 := get_of_at (hneed 4 (of_decide_eq_true (by kernel_rfl)) 7 rfl) (by simp [undef])
      clear hold hneed ho
      (go_simp; refine (hbs _).mono ?_; rintro e w3 ⟨rfl, rfl⟩; exact hK _ _ rfl (Upd.refl [] _))
    | 6, _, ho =>
      obtain rfl := Option.some.inj ho
      have d1 := hold 1 _ (by kernel_rfl) rfl
      clear hold hneed ho
      (go_simp; exact hK _ _ rfl (Upd.refl [] _))
    | 7, _, ho =>
      obtain rfl := Option.some.inj ho
      have d9 := get_of_at (hneed 6 (of_decide_eq_true (by kernel_rfl)) 9 rfl) (by simp [undef])
      clear hold hneed ho
      (have p0 := (hNc _ hS).2.2; go_simp; exact hK _ _ rfl (Upd.refl [] _))
    | 8, _, ho =>
      obtain rfl := Option.some.inj ho
      have d10 := get_of_at (hneed 7 (of_decide_eq_true (by kernel_rfl)) 10 rfl) (by simp [undef])
      clear hold hneed ho
      (go_simp; refine (hbr _).mono ?_; rintro e w3 ⟨rfl, rfl⟩; exact hK _ _ rfl (Upd.refl [] _))
    | _ + 9, him, _ => exact absurd him (by omega)
  case fin =>
    intro a w' hS hsz hdf hold hvals
    have ha := act_lit hsz hdf (RowIs.cons (at_of_get (hold 0 _ (by kernel_rfl) rfl)) (RowIs.cons (at_of_get (hold 1 _ (by kernel_rfl) rfl)) (RowIs.cons (at_of_get (hold 2 _ (by kernel_rfl) rfl)) (RowIs.cons (hvals 0 3 (of_decide_eq_true (by kernel_rfl)) rfl) (RowIs.cons (hvals 1 4 (of_decide_eq_true (by kernel_rfl)) rfl) (RowIs.cons (hvals 2 5 (of_decide_eq_true (by kernel_rfl)) rfl) (RowIs.cons (hvals 3 6 (of_decide_eq_true (by kernel_rfl)) rfl) (RowIs.cons (hvals 4 7 (of_decide_eq_true (by kernel_rfl)) rfl) (RowIs.cons (hvals 5 8 (of_decide_eq_true (by kernel_rfl)) rfl) (RowIs.cons (hvals 6 9 (of_decide_eq_true (by kernel_rfl)) rfl) (RowIs.cons (hvals 7 10 (of_decide_eq_true (by kernel_rfl)) rfl) (RowIs.cons (hvals 8 11 (of_decide_eq_true (by kernel_rfl)) rfl) (RowIs.cons (at_of_get (hold 12 _ (by kernel_rfl) rfl)) (RowIs.nil _ _)))))))))))))) rfl
    clear hsz hdf hold hvals
    subst ha
    simp only [List.getElem_toArray, List.getElem_cons_succ, List.getElem_cons_zero, List.drop_succ_cons, List.drop_zero]
    have t1 := u1.trans_nil hS
    have hO1 := hO.upd_nil hS
    have z0 := hO1.cell 0 rfl
    have z1 := hO1.cell 1 rfl
    have z2 := hO1.cell 2 rfl
    have f0 := hO1.free 0
    have f1 := hO1.free 1
    have f2 := hO1.free 2
    have hP := ((hO1.set 0 (.int .i64 (a % 9007199254740992))).set 1 (.int .i64 (s % 9007199254740992))).set 2 (.int .i64 (r % 9007199254740992))
    have v1 := ((t1.setCell (p := ⟨E, 0, none⟩) (Or.inr hEw) (.int .i64 (a % 9007199254740992))).setCell (p := ⟨E, 1, none⟩) (Or.inr hEw) (.int .i64 (s % 9007199254740992))).setCell (p := ⟨E, 2, none⟩) (Or.inr hEw) (.int .i64 (r % 9007199254740992))
    have HP := Lib.hid hP
    have HV := Lib.hid v1
    clear hP v1 hO hO1 hNc hba hbs hbr hS
    go_wp2_with fail
    have c0 := HP.out.cell 0 rfl
    have c1 := HP.out.cell 1 rfl
    have c2 := HP.out.cell 2 rfl
    exact bodyPost_ret (v := .agg #[.int .i64 (a % 9007199254740992), .int .i64 (s % 9007199254740992), .int .i64 (r % 9007199254740992)]) (by simp [results, Try.results18, go_sem, c0, c1, c2]) rfl ⟨rfl, HV.out⟩

/-- An array of n bytes, as a function. -/
theorem open_arr {H : Type} {enc : TypeId × Value → H} {P : Program} {W : World} {held : Bool} {r : Reach} {b0 : Nat} {T E : TypeId} {v : Value} {d : DataW H} {p : List MemPlace} {n : Nat} (hT : P.underlying T = some (.array n E)) (hE : P.underlying E = some (.int .u8)) (hc : P.cellsOf E = 1) (hc2 : P.cellsOf T = n)
    (ok : Value.okWide P W r b0 T v) (h : DataW.Trod enc P W 0 (fun _ => true) held T v d p) :
    ∃ G : Nat → Int, v = .agg (row n fun k => .int .u8 (G k)).toArray ∧ ∀ i, i < n → 0 ≤ G i ∧ G i ≤ 255 := by
  simp only [Value.okWide, hT] at ok
  obtain ⟨cs, rfl, hsz, _⟩ := ok
  obtain ⟨fuel, hf⟩ := h
  obtain ⟨xs, m, rfl, _, _, hxl, hx⟩ := DataW.trod_array hT hf
  rw [hc2] at hsz
  have hget : ∀ i, i < n → ∃ x : Int, cs[i]? = some (.int .u8 x) ∧ 0 ≤ x ∧ x ≤ 255 := fun i hi => by
    have t0 := hx i hi
    rw [hc, List.getElem?_eq_getElem (by omega)] at t0
    simp only [Value.cells] at t0
    obtain ⟨x, e0, _, w0⟩ := DataW.trod_int hE t0
    rw [Nat.mul_one] at e0
    simp [Lit.wf, IntKind.min, IntKind.max, IntKind.signed, IntKind.bits] at w0
    refine ⟨x, ?_, by omega, by omega⟩
    have h1 : (List.take 1 (List.drop i cs.toList))[0]? = some (.int .u8 x) := by rw [e0]; rfl
    rw [List.getElem?_take] at h1
    simp only [Nat.lt_one_iff, if_true, List.getElem?_drop, Nat.add_zero] at h1
    simpa using h1
  refine ⟨fun i => (match cs[i]? with | some (.int _ x) => x | _ => 0), ?_, fun i hi => ?_⟩
  · congr 1
    apply Array.ext
    · rw [hsz]; simp [row]
    · intro i h1 h2
      obtain ⟨x, e, _⟩ := hget i (by omega)
      have h3 : cs[i] = .int .u8 x := by
        rw [Array.getElem?_eq_getElem h1] at e
        exact Option.some.inj e
      have h4 : (row n fun k => Value.int .u8 (match cs[k]? with | some (.int _ x) => x | _ => 0))[i]? = some (Value.int .u8 (match cs[i]? with | some (.int _ x) => x | _ => 0)) := row_get _ (by omega)
      rw [e] at h4
      dsimp only at h4
      rw [h3]
      have h5 : ((row n fun k => Value.int .u8 (match cs[k]? with | some (.int _ x) => x | _ => 0)).toArray)[i]? = some (.int .u8 x) := by simpa using h4
      rw [Array.getElem?_eq_getElem h2] at h5
      exact (Option.some.inj h5).symm
  · obtain ⟨x, e, h⟩ := hget i hi
    dsimp only
    rw [e]
    exact h

set_option maxRecDepth 100000 in
/-- A nonce that came in. -/
theorem open_nonce {H : Type} {enc : TypeId × Value → H} {W : World} {held : Bool} {r : Reach} {b0 : Nat} {v : Value} {d : DataW H} {p : List MemPlace}
    (ok : Value.okWide Try.prog W r b0 25 v) (h : DataW.Trod enc Try.prog W 0 (fun _ => true) held 25 v d p) :
    ∃ a s r : Int, v = .agg #[.int .i64 a, .int .i64 s, .int .i64 r] ∧ I64 a ∧ I64 s ∧ I64 r := by
  obtain ⟨v0, v1, v2, y0, y1, y2, n, rfl, _, _, h0, h1, h2⟩ := Joins.open_agg3 Try.underlying25 (by kernel_rfl) (by kernel_rfl) ok h
  obtain ⟨a, e0, _, w0⟩ := DataW.trod_int Try.underlying3 h0
  obtain ⟨s, e1, _, w1⟩ := DataW.trod_int Try.underlying3 h1
  obtain ⟨r, e2, _, w2⟩ := DataW.trod_int Try.underlying3 h2
  obtain rfl : v0 = .int .i64 a := by simpa using e0
  obtain rfl : v1 = .int .i64 s := by simpa using e1
  obtain rfl : v2 = .int .i64 r := by simpa using e2
  exact ⟨a, s, r, rfl, wf_i64 w0, wf_i64 w1, wf_i64 w2⟩

set_option maxRecDepth 100000 in
/-- A key that came in. -/
theorem open_key {H : Type} {enc : TypeId × Value → H} {W : World} {held : Bool} {r : Reach} {b0 : Nat} {v : Value} {d : DataW H} {p : List MemPlace}
    (ok : Value.okWide Try.prog W r b0 23 v) (h : DataW.Trod enc Try.prog W 0 (fun _ => true) held 23 v d p) :
    ∃ G : Nat → Int, v = .agg (row32 G).toArray ∧ RngF G :=
  open_arr Try.underlying23 Try.underlying5 (by kernel_rfl) (by kernel_rfl) ok h

end Go.Proofs.Ytppbaahaegmgeaa
