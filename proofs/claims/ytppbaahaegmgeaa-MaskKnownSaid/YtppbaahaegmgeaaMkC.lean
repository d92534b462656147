/- slices.Clone, Grow, Concat of bytes. -/
import Derived.Test.YtppbaahaegmgeaaMkB
import Derived.Test.YtppbaahaegmgeaaCpy
import Derived.Laws.Cover3
namespace Go.Proofs.Ytppbaahaegmgeaa
open Go.RowKit

theorem OwnB.none_ {w : World} {base n c : Nat} {p : Option Addr} {xs : List Int} (h : OwnB w base (.slice p n c) xs) : OwnB w base (.slice p 0 c) [] := by
  refine ⟨rfl, ?_⟩
  rcases h.2 with ⟨h1, h2⟩ | ⟨g, cap, cur, h1, h2, h3, h4, h5, h6, _⟩
  · cases h1; exact .inl ⟨rfl, rfl⟩
  · cases h1; exact .inr ⟨g, _, cur, rfl, h2, h3, Nat.zero_le _, h5, h6, by simp [u8s]⟩
theorem OwnB.empty (w : World) : OwnB (w.alloc (.cells #[] 5)) w.heap.size (.slice (some ⟨w.heap.size, 0, none⟩) 0 0) [] :=
  ⟨rfl, .inr ⟨w.heap.size, 0, #[], rfl, Nat.le_refl _, heap_alloc_new w _, Nat.le_refl _, Nat.zero_le _, rfl, rfl⟩⟩

theorem eq_nil (w : World) (p : Option Addr) (n c : Nat) : (binOp BinOp.eql 26 (.slice p n c) (.slice none 0 0)).run Try.prog w = .ok (.bool p.isNone) w := by
  have h2 : (Op.equal 26 (.slice p n c) (.slice none 0 0)).run Try.prog w = .ok p.isNone w := run_equal_slice_nil w 26 5 p n c Try.underlying26
  simp only [binOp, go_sem, Sem.run_bind, h2, Result.andThen_ok, Sem.run_pure]

set_option maxRecDepth 100000 in
theorem clone_walk (w : World) (p : Option Addr) (xs : List Int) (c : Nat) (hx : ByAt w p xs) (hl : xs.length ≤ 140737488355328) :
    Calls Try.prog 46 #[.slice p xs.length c] w fun e w' => ∃ p' c', e = .returned (.slice p' xs.length c') ∧ OwnB w' w.heap.size (.slice p' xs.length c') xs ∧ Upd [] w w' := by
  cases p with
  | none =>
    have h0 : xs = [] := by
      cases xs with
      | nil => rfl
      | cons x l => obtain ⟨b, o, e, _⟩ := hx 0 x rfl; cases e
    subst h0
    have hen := fun w => eq_nil w none 0 c
    go_enter Try.func46, Try.ntmps46
    go_wp2_with fail
    go_ret
    exact ⟨none, 0, rfl, OwnB.nil _ _, Upd.refl _ _⟩
  | some a =>
    have hu := (Upd.refl [] w).alloc (.cells #[] 5)
    have hx1 := hx.upd_nil hu
    have ho := OwnB.empty w
    have hen := fun w => eq_nil w (some a) xs.length c
    go_enter Try.func46, Try.ntmps46
    go_wp2_with (at_builtin; refine app_bytes rfl _ _ rfl w.heap.size _ [] rfl ho (some a) xs.length c xs rfl rfl hx1 (by simp; omega) hu.size ?_; rintro p2 c2 w2 hown2 hgrow2; simp only [List.length_nil, Nat.zero_add, List.nil_append] at hown2 ⊢)
    go_ret
    exact ⟨p2, c2, rfl, hown2, hu.grown hgrow2 (fun k hk => Or.inr (ho.lt k hk).1)⟩

theorem wpList_app_zeros {w : World} {ops : Array Oper} {rest : List Oper} {o : Oper} {a : Act} {Q : Exit → Act → World → Prop} (hgd : o.guard = none) (s x : Operand)
    (ho : o.op = .call { callee := .builtin .append, args := #[s, x], argTypes := #[26, 3] })
    (base : Nat) (v : Value) (xs : List Int) (hs : a.eval s = v) (hown : OwnB w base v xs) (m : Nat) (hx : a.eval x = .int .i64 (m : Int)) (hl : xs.length + m ≤ 140737488355328) (hbase : base ≤ w.heap.size)
    (h : ∀ p c w', OwnB w' base (.slice p (xs.length + m) c) (xs ++ List.replicate m 0) → w.grownBy w' v.ownBlock → wpList Try.prog ops Q rest (a.put o.dst (.slice p (xs.length + m) c)) w') : wpList Try.prog ops Q (o :: rest) a w :=
  wpList_plain hgd fun _ hK => wp_app_zeros s x ho base v xs hs hown m hx hl hbase fun p c w' h1 h2 _ => hK _ _ (h p c w' h1 h2)

set_option maxRecDepth 100000 in
theorem grow_walk (w : World) (n : Nat) (hl : n ≤ 140737488355328) :
    Calls Try.prog 51 #[.slice none 0 0, .int .i64 (n : Int)] w fun e w' => ∃ p c, e = .returned (.slice p 0 c) ∧ OwnB w' w.heap.size (.slice p 0 c) [] ∧ Upd [] w w' := by
  have h0 : (0 : Int) ≤ n := by omega
  rcases Nat.eq_zero_or_pos n with rfl | hn
  · go_enter Try.func51, Try.ntmps51
    go_wp2_with fail
    go_ret
    exact ⟨none, 0, rfl, OwnB.nil _ _, Upd.refl _ _⟩
  · have h1 : (0 : Int) < n := by omega
    go_enter Try.func51, Try.ntmps51
    go_wp2_with (at_builtin; refine wpList_app_zeros rfl _ _ rfl w.heap.size _ [] rfl (OwnB.nil _ _) n rfl (by simp; omega) (Nat.le_refl _) ?_; rintro p2 c2 w2 hown2 hgrow2; simp only [List.length_nil, Nat.zero_add, List.nil_append] at hown2 ⊢)
    go_ret
    exact ⟨p2, c2, rfl, hown2.none_, (Upd.refl [] w).grown hgrow2 (fun k hk => nomatch hk)⟩

theorem flat_take_len {xss : List (List Int)} {n : Nat} {xs : List Int} (h : xss[n]? = some xs) : ((xss.take (n + 1)).flatten).length = ((xss.take n).flatten).length + xs.length := by
  rw [flat_take h, List.length_append]

set_option maxRecDepth 100000 in
set_option maxHeartbeats 4000000 in
theorem concat_walk (w : World) (q : Option Addr) (xss : List (List Int)) (d : Nat) (hq : RowsAt w q xss) (hl : xss.length ≤ 100000) (hd : xss.length ≤ d) (ht : xss.flatten.length ≤ 100000000000) :
    Calls Try.prog 40 #[.slice q xss.length d] w fun e w' => ∃ p c, e = .returned (.slice p xss.flatten.length c) ∧ OwnB w' w.heap.size (.slice p xss.flatten.length c) xss.flatten ∧ Upd [] w w' := by
  obtain ⟨n, hn⟩ : ∃ n, xss.length = n := ⟨_, rfl⟩
  rw [hn] at hl hd ⊢
  go_enter Try.func40, Try.ntmps40
  go_wp2_with fail
  go_loopw [3, 11] (fun tv kv wr => ∃ i : Nat, i ≤ n ∧ tv = .int .i64 (((xss.take i).flatten.length : Nat) : Int) ∧ kv = .int .i64 (i : Int) ∧ wr = w) (fun _ kv _ => n - (intOf kv).toNat)
  case atStart => exact ⟨0, by omega, by simp, rfl, rfl⟩
  case round =>
    obtain ⟨i, hi, rfl, rfl, hw⟩ := hrel
    obtain ⟨wo, rfl⟩ : ∃ wo, wo = wr := ⟨_, rfl⟩
    subst hw
    have hft := flat_take_le xss i
    rcases Nat.lt_or_ge i n with hlt | hge
    · have hlt' : i < xss.length := by omega
      obtain ⟨xs, hxs⟩ : ∃ xs, xss[i]? = some xs := ⟨_, List.getElem?_eq_getElem hlt'⟩
      have hstep := flat_take_len hxs
      have hft1 := flat_take_le xss (i + 1)
      obtain ⟨b, off, dp, dc, rfl, hb, hcell, hr, hby, hdc⟩ := hq i xs hxs
      generalize (xss.take i).flatten.length = T at *
      have HT : Hid ((T : Int) + (xs.length : Int) = (((xss.take (i + 1)).flatten.length : Nat) : Int)) := Lib.hid (by omega)
      have g1 : (0 : Int) ≤ T := by omega
      have g2 : (T : Int) ≤ 100000000000 := by omega
      have g3 : (0 : Int) ≤ i := by omega
      have g4 : (i : Int) < n := by omega
      have g5 : (0 : Int) ≤ (T : Int) + (xs.length : Int) := by omega
      have g6 : (T : Int) + (xs.length : Int) ≤ 100000000000 := by omega
      clear hstep hft hft1
      go_wp2_with fail
      exact ⟨⟨i + 1, by omega, by rw [HT.out], by go_num, trivial⟩, by simp [intOf]; omega⟩
    · obtain rfl : i = n := by omega
      have hall : xss.take i = xss := by rw [← hn]; exact List.take_length
      rw [hall]
      clear hft
      obtain ⟨L, hL⟩ : ∃ L, xss.flatten.length = L := ⟨_, rfl⟩
      rw [hL]
      rw [hL] at ht
      have HL := Lib.hid hL
      have g1 : (0 : Int) ≤ L := by omega
      have g2 : (L : Int) ≤ 100000000000 := by omega
      have hgw := grow_walk wo L (by omega)
      clear hL hall
      go_upto_region 10 with (go_at_call 51; refine hgw.mono ?_; rintro e w2 ⟨p2, c2, rfl, o2, u2⟩)
      go_wp2_with fail
      go_loopw [6, 27] (fun rv kv wr => ∃ (j : Nat) (X : List Int) (p : Option Addr) (c : Nat), j ≤ i ∧ kv = .int .i64 (j : Int) ∧ Hid ((xss.take j).flatten = X) ∧ rv = .slice p X.length c ∧ OwnB wr wo.heap.size (.slice p X.length c) X ∧ Upd [] wo wr) (fun _ kv _ => i - (intOf kv).toNat)
      case atStart => exact ⟨0, [], p2, c2, by omega, rfl, Lib.hid (by simp), rfl, o2, u2⟩
      case round =>
        clear o2 u2 hgw
        obtain ⟨j, X, p, c, hj, rfl, HX, rfl, ho, hu⟩ := hrel
        obtain ⟨wp, rfl⟩ : ∃ wp, wp = wr := ⟨_, rfl⟩
        rcases Nat.lt_or_ge j i with hlt | hge
        · have hlt' : j < xss.length := by omega
          obtain ⟨xs, hxs⟩ : ∃ xs, xss[j]? = some xs := ⟨_, List.getElem?_eq_getElem hlt'⟩
          have hstep := flat_take hxs
          have hft1 := flat_take_le xss (j + 1)
          rw [hstep, HX.out, List.length_append] at hft1
          rw [HX.out] at hstep
          have HS := Lib.hid hstep
          obtain ⟨b, off, dp, dc, rfl, hb, hcell0, hr, hby0, hdc⟩ := hq j xs hxs
          have hcell := (hu.cell (a := ⟨b, off + j, none⟩) hb (by simp)).trans hcell0
          have hby := hby0.upd_nil hu
          have hlX : X.length + xs.length ≤ 140737488355328 := by have := HL.out; omega
          have g3 : (0 : Int) ≤ j := by omega
          have g4 : (j : Int) < i := by omega
          clear hstep hft1 hcell0 hby0
          have hus := hu.size
          go_wp2_with (at_builtin; refine app_bytes rfl _ _ rfl wo.heap.size _ X rfl ho dp xs.length dc xs rfl rfl hby hlX hus ?_; rintro p3 c3 w3 hown3 hgrow3; have hu3 := hu.grown_own hgrow3 ho; rw [← List.length_append] at hown3 ⊢)
          exact ⟨⟨j + 1, X ++ xs, p3, c3, by omega, by go_num, HS, by rw [List.length_append], hown3, hu3⟩, by simp [intOf]; omega⟩
        · obtain rfl : j = i := by omega
          have hX : X = xss.flatten := by rw [← HX.out, ← hn, List.take_length]
          subst hX
          have hLL := HL.out
          rw [hLL] at ho ⊢
          go_wp2_with fail
          go_ret
          exact ⟨p, c, by rw [HL.out]; rfl, by rw [HL.out]; exact ho, hu⟩

end Go.Proofs.Ytppbaahaegmgeaa
