/- mask.of: a MAC of what for, and things. -/
import Derived.Test.YtppbaahaegmgeaaMkA
import Derived.Test.YtppbaahaegmgeaaWxC
import Derived.Test.YtppbaahaegmgeaaReg
import Derived.Test.YtppbaahaegmgeaaZer
namespace Go.Proofs.Ytppbaahaegmgeaa
open Go.RowKit

theorem info_sl : (Try.prog.info? 26).map (fun i => (i.zero, i.size, i.bytes)) = some (some (.slice none 0 0), 1, 24) := by kernel_rfl

theorem add_lit (b o j : Nat) : (⟨b, o, none⟩ : Addr).add j = ⟨b, o + j, none⟩ := by unfold Addr.add; split <;> simp_all

/-- One row of bytes, and further ones behind it: append makes a new block. -/
theorem wp_app_rows {w : World} {o : Oper} {a : Act} {K : Act → World → Prop} {Q : Exit → Act → World → Prop} (s x : Operand)
    (ho : o.op = .call { callee := .builtin .append, args := #[s, x], argTypes := #[64, 64] })
    (b : Nat) (p : Option Addr) (xs0 : List Int) (c : Nat) (hs : a.eval s = .slice (some ⟨b, 0, none⟩) 1 1) (hb : Blk w b [.slice p xs0.length c] 26)
    (h0 : ByAt w p xs0) (r0 : Rng xs0) (l0 : xs0.length ≤ c) (q : Option Addr) (xss : List (List Int)) (d : Nat) (hx : a.eval x = .slice q xss.length d) (hq : RowsAt w q xss) (hn : 0 < xss.length) (hl : xss.length ≤ 100000)
    (h : ∀ g c' w', RowsAt w' (some ⟨g, 0, none⟩) (xs0 :: xss) → Upd [] w w' → K (a.put o.dst (.slice (some ⟨g, 0, none⟩) (1 + xss.length) c')) w') : o.wp Try.prog a w K Q := by
  obtain ⟨i0, hi, hz0, hz1, hz2⟩ := info_parts info_sl
  obtain ⟨qb, qo, rfl⟩ : ∃ qb qo, q = some ⟨qb, qo, none⟩ := by
    obtain ⟨xs, hxs⟩ : ∃ xs, xss[0]? = some xs := ⟨_, List.getElem?_eq_getElem hn⟩
    obtain ⟨b', off, _, _, e, _⟩ := hq 0 xs hxs
    exact ⟨b', off, e⟩
  have hcell : ∀ i, i < xss.length → ∃ u, w.cell? ⟨qb, qo + i, none⟩ = some u := fun i hi => by
    obtain ⟨b', off, dp, dc, e, _, hc, _⟩ := hq i _ (List.getElem?_eq_getElem hi)
    cases e
    exact ⟨_, hc⟩
  have hnews : ∀ j u, ((List.range xss.length).map fun i => (w.cell? ⟨qb, qo + i, none⟩).getD undef)[j]? = some u → w.cell? ((⟨qb, qo, none⟩ : Addr).add j) = some u := fun j u hu => by
    rw [List.getElem?_map] at hu
    have hj : j < xss.length := by
      rcases Nat.lt_or_ge j xss.length with h | h
      · exact h
      · rw [List.getElem?_eq_none (by simpa using h)] at hu; cases hu
    rw [List.getElem?_range hj] at hu
    obtain ⟨u', hu'⟩ := hcell j hj
    rw [add_lit, hu']
    simp only [Option.map_some, hu', Option.getD_some] at hu
    exact hu
  have hr := run_append_grow (P := Try.prog) w 64 o.type 26 i0 (.slice none 0 0) Try.underlying64 hi hz0 ⟨b, 0, none⟩ 1 1 [.slice p xs0.length c] (by rw [hz1]; rfl)
    (fun j u hu => by
      match j, hu with
      | 0, hu =>
        rw [add_lit]
        exact hb.cell 0 hu) ⟨qb, qo, none⟩ xss.length d _ (by rw [hz1]; simp) hnews (by omega) (by omega) (growslice_fits (by omega) (by rw [hz2]; omega))
  refine Lib.wp_append_run w s x 64 64 ho _ _ hs hx _ _ hr ?_
  have u : Upd [] w (w.drew.alloc (.cells ([Value.slice p xs0.length c].toArray ++ ((List.range xss.length).map fun i => (w.cell? ⟨qb, qo + i, none⟩).getD undef).toArray ++ Builtin.zeroCells (Value.slice none 0 0).cells (grownCap w (1 + xss.length) 1 26 - (1 + xss.length))) 26)) := (Upd.refl [] w).drew.alloc _
  refine h _ _ _ ?_ u
  have hB := Blk.new w.drew ([Value.slice p xs0.length c].toArray ++ ((List.range xss.length).map fun i => (w.cell? ⟨qb, qo + i, none⟩).getD undef).toArray ++ Builtin.zeroCells (Value.slice none 0 0).cells (grownCap w (1 + xss.length) 1 26 - (1 + xss.length))) 26
  generalize w.drew.alloc _ = W at u hB
  intro i xs hxs
  match i, hxs with
  | 0, hxs =>
    obtain rfl : xs0 = xs := by simpa using hxs
    exact ⟨_, 0, p, c, rfl, hB.lt, hB.cell 0 (by simp), r0, h0.upd_nil u, l0⟩
  | i + 1, hxs =>
    have hxs : xss[i]? = some xs := by simpa using hxs
    have hi : i < xss.length := (List.getElem?_eq_some_iff.1 hxs).1
    obtain ⟨b', off, dp, dc, e, hlt, hc, h4, h5, h6⟩ := hq i xs hxs
    cases e
    refine ⟨_, 0, dp, dc, rfl, hB.lt, hB.cell (0 + (i + 1)) ?_, h4, h5.upd_nil u, h6⟩
    rw [Nat.zero_add]
    simp only [Array.toList_append, List.toList_toArray, List.append_assoc]
    rw [List.getElem?_append_right (by simp)]
    simp only [List.length_cons, List.length_nil, Nat.zero_add, Nat.add_sub_cancel]
    rw [List.getElem?_append_left (by simpa using hi), List.getElem?_map, List.getElem?_range hi]
    simp [hc]

/-- A key's bytes. -/
def keyL (G : Nat → Int) : List Int := (List.range 32).map G
theorem keyL_len (G : Nat → Int) : (keyL G).length = 32 := by simp [keyL]
def RngF (G : Nat → Int) : Prop := ∀ i, i < 32 → 0 ≤ G i ∧ G i ≤ 255
theorem keyL_rng {G : Nat → Int} (h : RngF G) : Rng (keyL G) := fun x hx => by
  obtain ⟨i, hi, rfl⟩ := List.mem_map.1 hx
  exact h i (List.mem_range.1 hi)
def isOne (c : Int) : Spec3 := .is (fun v w => ∃ b b9, v = .slice (some ⟨b, 0, none⟩) 1 1 ∧ Blk w b [.slice (some ⟨b9, 0, none⟩) 1 1] 26 ∧ Blk w b9 [.int .u8 c] 5)
  (fun _ _ _ h u => h.elim fun b h => h.elim fun b9 h => ⟨b, b9, h.1, h.2.1.upd_nil u, h.2.2.upd_nil u⟩)
def isRows (n : Nat) (xss : List (List Int)) : Spec3 := .is (fun v w => ∃ p c, v = .slice p n c ∧ RowsAt w p xss)
  (fun _ _ _ h u => h.elim fun p h => h.elim fun c h => ⟨p, c, h.1, h.2.upd u⟩)

theorem byte_at (c : Int) : ∀ i x, [c][i]? = some x → [Value.int .u8 c][0 + i]? = some (.int .u8 x) := fun i x h => by
  match i, h with
  | 0, h => obtain rfl : c = x := by simpa using h
            rfl
theorem rng_one {c : Int} (h : 0 ≤ c ∧ c ≤ 255) : Rng [c] := fun x hx => by
  obtain rfl : x = c := by simpa using hx
  exact h

set_option maxRecDepth 100000 in
set_option maxHeartbeats 4000000 in
theorem of_mac (w : World) (G : Nat → Int) (hG : RngF G) (c : Int) (hc : 0 ≤ c ∧ c ≤ 255) (q : Option Addr) (xss : List (List Int)) (d : Nat) (hq : RowsAt w q xss) (hn : 0 < xss.length) (hl : xss.length ≤ 100000) (ht : xss.flatten.length ≤ 100000000) :
    Calls Try.prog 34 #[.agg (row32 G).toArray, .int .u8 c, .slice q xss.length d] w fun e w' => e = .returned (agg32 (mac (keyL G) (c :: xss.flatten))) ∧ Upd [] w w' := by
  obtain ⟨n, hnn⟩ : ∃ n, xss.length = n := ⟨_, rfl⟩
  obtain ⟨m, hm⟩ : ∃ m, 1 + xss.length = m := ⟨_, rfl⟩
  rw [hnn]
  have Hn := Lib.hid hnn
  have Hm := Lib.hid hm
  have hz : ∀ w : World, (zeroValue 22).run Try.prog w = .ok (.agg (row32 fun _ => 0).toArray) w := fun w => by kernel_rfl
  go_enter Try.func34, Try.ntmps34
  go_upto_region 1 with fail
  have uA := (Upd.refl [] w).alloc (.cells (row32 G).toArray 23)
  have hD : Blk (w.alloc (.cells (row32 G).toArray 23)) w.heap.size (row32 G) 23 := Blk.new w (row32 G).toArray 23
  have hR0 := Blk.new (w.alloc (.cells (row32 G).toArray 23)) (row32 fun _ => 0).toArray 22
  have uD := uA.alloc (.cells (row32 fun _ => 0).toArray 22)
  have hD := hD.alloc (.cells (row32 fun _ => 0).toArray 22)
  generalize hW : (w.alloc (.cells (row32 G).toArray 23)).alloc (.cells (row32 fun _ => 0).toArray 22) = W0 at *
  generalize hD' : w.heap.size = D at *
  have hR1 : (w.alloc (.cells (row32 G).toArray 23)).heap.size = D + 1 := by simp [hD']
  rw [hR1] at hR0
  clear hR1 hW uA
  have hD2 : D + 1 ≠ D := by omega
  refine wp_region_head3 6 [(.s (.eq (.slice (some ⟨D, 0, none⟩) 32 32))), (.s (.eq (.int .u8 c))), (.s (.sl 1 1 [.int .u8 c] 5)), (isOne c), (.s (.eq (.slice q n d))), (isRows m ([c] :: xss))] (by kernel_rfl) (by kernel_rfl) (by kernel_rfl) rfl ?step ?fin
  case step =>
    intro i o him ho a w' hS hold hneed K' hK
    match i, him, ho with
    | 0, _, ho =>
      obtain rfl := Option.some.inj ho
      have d3 := hold 3 _ (by kernel_rfl) rfl
      clear hold hneed ho
      (go_simp; exact hK _ _ rfl (Upd.refl [] _))
    | 1, _, ho =>
      obtain rfl := Option.some.inj ho
      have d1 := hold 1 _ (by kernel_rfl) rfl
      clear hold hneed ho
      (go_simp; exact hK _ _ rfl (Upd.refl [] _))
    | 2, _, ho =>
      obtain rfl := Option.some.inj ho
      have d8 := get_of_at (hneed 1 (of_decide_eq_true (by kernel_rfl)) 8 rfl) (by simp [undef])
      clear hold hneed ho
      (go_simp; exact hK _ _ ⟨_, rfl, Blk.new _ _ _⟩ ((Upd.refl [] _).alloc _))
    | 3, _, ho =>
      obtain rfl := Option.some.inj ho
      obtain ⟨b9, e9, hB9⟩ := hneed 2 (of_decide_eq_true (by kernel_rfl)) 9 rfl
      have d9 := get_of_at e9 (by simp [undef])
      clear hold hneed ho
      (go_simp; exact hK _ _ ⟨_, _, rfl, Blk.new _ _ _, hB9.upd_nil ((Upd.refl [] _).alloc _)⟩ ((Upd.refl [] _).alloc _))
    | 4, _, ho =>
      obtain rfl := Option.some.inj ho
      have d2 := hold 2 _ (by kernel_rfl) rfl
      clear hold hneed ho
      (go_simp; exact hK _ _ rfl (Upd.refl [] _))
    | 5, _, ho =>
      obtain rfl := Option.some.inj ho
      have R10 := hneed 3 (of_decide_eq_true (by kernel_rfl)) 10 rfl
      have d11 := get_of_at (hneed 4 (of_decide_eq_true (by kernel_rfl)) 11 rfl) (by simp [undef])
      clear hold hneed ho
      (obtain ⟨b, b9, e10, hb, hb9⟩ := R10; have d10 := get_of_at e10 (by simp [undef]); rw [if_pos (by simp [Region.wanted])]; refine wp_app_rows (.tmp 10) (.tmp 11) rfl b (some ⟨b9, 0, none⟩) [c] 1 (by simp [Act.eval, *]) hb (ByAt.of_blk hb9 (byte_at c)) (rng_one hc) (by simp) q xss d (by rw [Hn.out]; simp [Act.eval, *]) (hq.upd (uD.trans_nil hS)) hn hl ?_; intro g c' w3 hr u; rw [Hm.out]; exact hK _ _ ⟨_, _, rfl, hr⟩ u)
    | _ + 6, him, _ => exact absurd him (by omega)
  case fin =>
    intro a w' hS hsz hdf hold hvals
    obtain ⟨b9, hv9, hB9⟩ := hvals 2 9 (of_decide_eq_true (by kernel_rfl)) rfl
    have R10 := hvals 3 10 (of_decide_eq_true (by kernel_rfl)) rfl
    obtain ⟨v10, hv10⟩ : ∃ v, at_ a 10 = v := ⟨_, rfl⟩
    rw [hv10] at R10
    have R12 := hvals 5 12 (of_decide_eq_true (by kernel_rfl)) rfl
    obtain ⟨v12, hv12⟩ : ∃ v, at_ a 12 = v := ⟨_, rfl⟩
    rw [hv12] at R12
    have ha := act_lit hsz hdf (RowIs.cons (at_of_get (hold 0 _ (by kernel_rfl) rfl)) (RowIs.cons (at_of_get (hold 1 _ (by kernel_rfl) rfl)) (RowIs.cons (at_of_get (hold 2 _ (by kernel_rfl) rfl)) (RowIs.cons (at_of_get (hold 3 _ (by kernel_rfl) rfl)) (RowIs.cons (at_of_get (hold 4 _ (by kernel_rfl) rfl)) (RowIs.cons (at_of_get (hold 5 _ (by kernel_rfl) rfl)) (RowIs.cons (at_of_get (hold 6 _ (by kernel_rfl) rfl)) (RowIs.cons (hvals 0 7 (of_decide_eq_true (by kernel_rfl)) rfl) (RowIs.cons (hvals 1 8 (of_decide_eq_true (by kernel_rfl)) rfl) (RowIs.cons hv9 (RowIs.cons hv10 (RowIs.cons (hvals 4 11 (of_decide_eq_true (by kernel_rfl)) rfl) (RowIs.cons hv12 (RowIs.cons (at_of_get (hold 13 _ (by kernel_rfl) rfl)) (RowIs.nil _ _))))))))))))))) rfl
    clear hsz hdf hold hvals
    subst ha
    simp only [List.getElem_toArray, List.getElem_cons_succ, List.getElem_cons_zero, List.drop_succ_cons, List.drop_zero]
    have t1 := uD.trans_nil hS
    obtain ⟨p, c', rfl, hrow⟩ := R12
    have hfl : ([c] :: xss).flatten = c :: xss.flatten := rfl
    have hmac := mac_walk w' (some ⟨D, 0, none⟩) (keyL G) 32 (row32_bytes (hD.upd_nil hS)) (keyL_rng hG) (by rw [keyL_len]; omega) p ([c] :: xss) c' hrow (by rw [List.length_cons]; omega) (by rw [hfl, List.length_cons]; omega)
    rw [keyL_len, List.length_cons, hfl, show xss.length + 1 = m by rw [← Hm.out]; omega] at hmac
    have hR2 := hR0.upd_nil hS
    simp only [List.toList_toArray] at hR2
    clear hR0 hD hrow hq hfl
    obtain ⟨F, hF⟩ : ∃ F, mac (keyL G) (c :: xss.flatten) = F := ⟨_, rfl⟩
    rw [hF] at hmac
    have HF := Lib.hid hF
    clear hF
    go_wp2_with (first
      | (go_at_call 22; refine hmac.mono ?_; rintro e w5 ⟨rfl, u5⟩; have hR3 := hR2.upd_nil u5)
      | (refine wpList_store_rowTo rfl _ _ _ rfl rfl _ (row32 F).toArray rfl rfl _ (row32 fun _ => 0).toArray hR3 (info32 _) (size32 _ _) (one32 _) ?_))
    have hR4 := hR3.setRow (row32 F).toArray
    refine bodyPost_ret (v := agg32 F) (results_cell_row rfl _ _ (D + 1) _ _ _ _ rfl hR4 Try.underlying22 rfl (info32 F)) rfl ⟨?_, ?_⟩
    · rw [HF.out]
    · exact (t1.trans_nil u5).setRow (b := D + 1) (Or.inr (by omega)) (row32 F).toArray

end Go.Proofs.Ytppbaahaegmgeaa
