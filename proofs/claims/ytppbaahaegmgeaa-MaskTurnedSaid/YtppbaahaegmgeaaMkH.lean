/- mask: Seal. -/
import Derived.Test.YtppbaahaegmgeaaMkG
namespace Go.Proofs.Ytppbaahaegmgeaa
open Go.RowKit

theorem xor_u8_bd (a b : Int) : 0 ≤ bits BinOp.xor IntKind.u8 a b ∧ bits BinOp.xor IntKind.u8 a b ≤ 255 := by
  show 0 ≤ IntKind.u8.wrap _ ∧ IntKind.u8.wrap _ ≤ 255
  rw [IntKind.wrap_u8']
  omega
theorem xorB_rng (xs : List Int) (S : Nat → Int) : Rng (xorB xs S) := fun x hx => by
  obtain ⟨i, _, rfl⟩ := List.mem_map.1 hx
  exact xor_u8_bd _ _
theorem rowI_pos {n : Int} (h : okU n) : 0 < (rowI n).length := by
  unfold rowI
  rw [rowU_len]
  exact (szU_bd _ (by unfold okU at h; omega)).1
theorem rowsI_pos {a s r : Int} (h : NonceOk [a, s, r]) : 0 < (rowsI [a, s, r]).length := by
  have := rowI_pos (h a (by simp))
  unfold rowsI
  simp only [List.map_cons, List.flatten_cons, List.length_append]
  omega
theorem app_b3 {w : World} {ops : Array Oper} {rest : List Oper} {o : Oper} {a : Act} {Q : Exit → Act → World → Prop} (hgd : o.guard = none) (s x : Operand)
    (ho : o.op = .call { callee := .builtin .append, args := #[s, x], argTypes := #[26, 26] })
    (base : Nat) (v : Value) (xs : List Int) (n : Nat) (hn0 : xs.length = n) (hs : a.eval s = v) (hown : OwnB w base v xs) (px : Option Addr) (m c : Nat) (ys : List Int) (hx : a.eval x = .slice px m c) (hm : m = ys.length) (hy : ByAt w px ys)
    (hl : n + m ≤ 140737488355328) (hbase : base ≤ w.heap.size)
    (h : ∀ p' c' w', OwnB w' base (.slice p' (n + m) c') (xs ++ ys) → w.grownBy w' v.ownBlock → (∀ g, (Value.slice p' (n + m) c').ownBlock = some g → v.ownBlock = some g ∨ w.heap.size ≤ g) → wpList Try.prog ops Q rest (a.put o.dst (.slice p' (n + m) c')) w') : wpList Try.prog ops Q (o :: rest) a w := by
  subst hm
  subst hn0
  obtain ⟨i0, hi, hz0, hz1, hz2⟩ := info_parts info_u8
  refine wpList_append_any hgd s x 26 ho base 5 i0 _ 1 1 Try.underlying26 hi hz0 hz1 hz2 rfl (by decide) v xs.length (u8s xs) hs hown px ys.length c (u8s ys) hx (by rw [u8s_len]; omega) hy.src (u8s_one _) (by simp only [maxLen]; omega) (by omega) hbase ?_
  intro p' c' w' hown' hg hn
  refine h p' c' w' ?_ hg hn
  unfold OwnB
  rw [List.length_append, u8s_app]
  exact hown'

/-- What is sealed. -/
def outL (G : Nat → Int) (X xs : List Int) : List Int := xorB xs (stF G X)
def tagL (G : Nat → Int) (X ys : List Int) : List Int := (macL G 5 (X ++ ys)).take 16
theorem tagL_len (G : Nat → Int) (X ys : List Int) : (tagL G X ys).length = 16 := by unfold tagL; rw [List.length_take, macL_len]; rfl
theorem tagL_rng (G : Nat → Int) (X ys : List Int) : Rng (tagL G X ys) := (macL_rng _ _ _).take 16
def sealL (G : Nat → Int) (X xs : List Int) : List Int := outL G X xs ++ tagL G X (outL G X xs)

set_option maxRecDepth 100000 in
set_option maxHeartbeats 4000000 in
theorem seal_ok (w : World) (G : Nat → Int) (hG : RngF G) (a s r : Int) (hns : NonceOk [a, s, r]) (p : Option Addr) (xs : List Int) (c : Nat) (hx : ByAt w p xs) (hr : Rng xs) (hl : xs.length ≤ 65536) (hc : xs.length ≤ c) :
    Calls Try.prog 11 #[.agg (row32 G).toArray, .agg #[.int .i64 a, .int .i64 s, .int .i64 r], .slice p xs.length c] w fun e w' => ∃ p' c', e = .returned (.tuple #[.slice p' (xs.length + 16) c', .int .i64 0]) ∧ OwnB w' w.heap.size (.slice p' (xs.length + 16) c') (sealL G (rowsI [a, s, r]) xs) ∧ Upd [] w w' := by
  obtain ⟨n, hn⟩ : ∃ n, xs.length = n := ⟨_, rfl⟩
  obtain ⟨X, hX⟩ : ∃ X, rowsI [a, s, r] = X := ⟨_, rfl⟩
  have hXr : Rng X := by rw [← hX]; exact rowsI_rng _
  have hX0 : 0 < X.length := by rw [← hX]; exact rowsI_pos hns
  have hXl : X.length ≤ 24 := by rw [← hX]; exact rowsI_len hns
  obtain ⟨m, hm⟩ : ∃ m, X.length = m := ⟨_, rfl⟩
  have hrow : ∀ W, Calls Try.prog 32 #[.agg #[.int .i64 a, .int .i64 s, .int .i64 r]] W fun e w' => ∃ p c, e = .returned (.tuple #[.slice p m c, .int .i64 0]) ∧ ByAt w' p X ∧ m ≤ c ∧ Upd [] W w' := fun W => by
    refine (nrow_walk W a s r).mono ?_
    rintro e w' ⟨h1, _, h3⟩
    obtain ⟨p, c, rfl, ho⟩ := h1 hns
    rw [hX] at ho
    obtain ⟨p', c', e, hc', _⟩ := ho.form
    cases e
    exact ⟨p, c, by rw [hX, hm], ho.at_, by rw [← hm]; exact hc', h3⟩
  rw [hn] at hl hc ⊢
  rw [hm] at hX0 hXl
  rw [hX]
  have Hn := Lib.hid hn
  have Hm := Lib.hid hm
  have g1 : (0 : Int) ≤ n := by omega
  have g2 : (n : Int) ≤ 65536 := by omega
  have hz : ∀ w : World, (zeroValue 22).run Try.prog w = .ok (.agg (row32 fun _ => 0).toArray) w := fun w => by kernel_rfl
  clear hX
  go_enter Try.func11, Try.ntmps11
  go_upto_region 1 with fail
  have u1 := ((Upd.refl [] w).alloc (.cells (row32 G).toArray 23)).alloc (.cells #[.int .i64 a, .int .i64 s, .int .i64 r] 25)
  have hD : Blk ((w.alloc (.cells (row32 G).toArray 23)).alloc (.cells #[.int .i64 a, .int .i64 s, .int .i64 r] 25)) w.heap.size (row32 G) 23 := Blk.alloc (Blk.new w (row32 G).toArray 23) _
  have hN := Blk.new (w.alloc (.cells (row32 G).toArray 23)) #[.int .i64 a, .int .i64 s, .int .i64 r] 25
  rw [World.size_alloc] at hN
  generalize (w.alloc (.cells (row32 G).toArray 23)).alloc (.cells #[.int .i64 a, .int .i64 s, .int .i64 r] 25) = W1 at *
  have n0 := hN.cell 0 rfl
  have n1 := hN.cell 1 rfl
  have n2 := hN.cell 2 rfl
  generalize hd : w.heap.size = D at hD hN n0 n1 n2 ⊢
  have hrow := hrow W1
  go_upto_region 6 with (go_at_call 32; refine hrow.mono ?_; rintro e w2 ⟨q, d, rfl, hq, hqd, u2⟩)
  have t2 := u1.trans_nil u2
  have hD2 := hD.upd_nil u2
  have htn := turned_walk w2 G hG q X d hq hXr (by omega) (by omega) (by omega) p xs c (hx.upd_nil t2) hr (by omega) (by omega)
  have hyl : (outL G X xs).length = n := by unfold outL; rw [xorB_len]; exact hn
  have hyr : Rng (outL G X xs) := xorB_rng _ _
  rw [hm, hn] at htn
  have hS : Hid (sealL G X xs = outL G X xs ++ tagL G X (outL G X xs)) := Lib.hid rfl
  change Calls _ _ _ _ (fun e w' => ∃ p' c', e = _ ∧ OwnB w' _ _ (outL G X xs) ∧ Upd [] w2 w') at htn
  generalize hY : outL G X xs = Y at *
  clear hrow n0 n1 n2 hN hD u2 u1 hx hY
  go_upto_region 7 with (first
    | (go_at_call 33; refine htn.mono ?_; rintro e w3 ⟨p3, c3, rfl, o3, u3⟩; have hD3 := hD2.upd_nil u3)
    | (refine wpList_load_row rfl _ _ rfl D rfl _ (row32 G).toArray _ _ hD2 Try.underlying23 rfl (infoK G) ?_))
  have t3 := t2.trans_nil u3
  have hq3 := hq.upd_nil u3
  have hn3 : n ≤ c3 := by
    obtain ⟨p', c', e, h, _⟩ := o3.form
    cases e
    rw [hyl] at h; exact h
  have hb3 : w.heap.size ≤ w2.heap.size := t2.size
  have uB := (Upd.refl [] w3).alloc (.cells #[.slice q m d, .slice p3 n c3] 26)
  have hB := Blk.new w3 #[.slice q m d, .slice p3 n c3] 26
  have hrw := row2 (xs := X) (ys := Y) hB hm.symm hyl.symm (hq3.upd_nil uB) hXr (by omega) (o3.at_.upd_nil uB) hyr (by omega)
  have hof := of_mac _ G hG 5 (by omega) (some ⟨w3.heap.size, 0, none⟩) [X, Y] 2 hrw (by simp) (by simp) (by simp; omega)
  rw [show [X, Y].flatten = X ++ Y by simp] at hof
  simp only [List.length_cons, List.length_nil, Nat.zero_add, Nat.reduceAdd] at hof
  obtain ⟨F, hF⟩ : ∃ F, mac (keyL G) (5 :: (X ++ Y)) = F := ⟨_, rfl⟩
  rw [hF] at hof
  have HF := Lib.hid hF
  have t4 := t3.trans_nil uB
  have o4 := (o3.upd_nil uB).mono hb3
  clear hrw hB hF uB htn hD2 hq hq3 o3 u3 t3 t2
  go_upto_region 8 with (first
    | (go_at_call 34; refine hof.mono ?_; rintro e w5 ⟨rfl, u5⟩; have hR := Blk.new w5 (row32 fun _ => 0).toArray 22; have t5 := t4.trans_nil u5)
    | (refine wpList_store_rowTo rfl _ _ _ rfl rfl _ (row32 F).toArray rfl rfl _ (row32 fun _ => 0).toArray hR (info32 _) (size32 _ _) (one32 _) ?_)
    | (refine wpList_load_row rfl _ _ rfl D rfl _ (row32 G).toArray _ _ hD3 Try.underlying23 rfl (infoK G) ?_))
  have uR := ((Upd.refl [] w5).alloc (.cells (row32 fun _ => 0).toArray 22)).setRow (b := w5.heap.size) (Or.inr (Nat.le_refl _)) (row32 F).toArray
  have hR5 := hR.setRow (row32 F).toArray
  have t6 := t5.trans_nil uR
  have o6 := (o4.upd_nil u5).upd_nil uR
  clear hR uR u5 t5 hof o4 t4 hD3 hz
  generalize (w5.alloc (.cells (row32 fun _ => 0).toArray 22)).setRow w5.heap.size (row32 F).toArray = W6 at *
  generalize w5.heap.size = R at *
  have hT : ByAt W6 (some ⟨R, 0, none⟩) ((keyL F).take 16) := (row32_bytes hR5).take 16
  have HTl : Hid (16 = ((keyL F).take 16).length) := Lib.hid (by rw [List.length_take, keyL_len]; rfl)
  have hTag : Hid (tagL G X Y = (keyL F).take 16) := Lib.hid (by unfold tagL macL; rw [HF.out])
  have hbs := t6.size
  have HY : Hid (Y.length = n) := Lib.hid hyl
  clear hR5 hyl
  generalize (keyL F).take 16 = T at *
  go_wp2_with (at_builtin; (refine app_b3 rfl _ _ rfl w.heap.size (.slice p3 n c3) Y n HY.out rfl o6 (some ⟨R, 0, none⟩) 16 32 T rfl HTl.out hT (by omega) hbs ?_); rintro p7 c7 w7 o7 g7 _)
  go_ret2
  refine ⟨p7, c7, rfl, ?_, t6.grown_own g7 o6⟩
  rw [hS.out, hTag.out]
  exact o7

end Go.Proofs.Ytppbaahaegmgeaa
