/- The document's agent: Of. -/
import Derived.Test.YtpgilkemcaipiaaAgJ
import Derived.Deep.RegionLaw
namespace Go.Proofs.Ytpgilkemcaipiaa
open Go.RowKit

def cameTo (H B : Int) (c : Nat) : List Int := ((List.range c).filter fun j => B.toNat.testBit j).map fun j : Nat => H - (j : Int)
theorem cameTo_snoc (H B : Int) (c : Nat) : cameTo H B (c + 1) = cameTo H B c ++ (if B.toNat.testBit c = true then [H - (c : Int)] else []) := by
  unfold cameTo
  rw [List.range_succ, List.filter_append, List.map_append]
  congr 1
  by_cases h : B.toNat.testBit c = true <;> simp [h]
theorem cameTo_len (H B : Int) (c : Nat) : (cameTo H B c).length ≤ c := by
  unfold cameTo
  have := List.length_filter_le (fun j => B.toNat.testBit j) (List.range c)
  simpa using this
theorem cameTo_mem (v : Win) (hv : WinOk v) (x : Int) : x ∈ cameTo v.H v.B 32 ↔ Came v x := by
  unfold cameTo
  simp only [List.mem_map, List.mem_filter, List.mem_range]
  constructor
  · rintro ⟨j, ⟨h1, h2⟩, rfl⟩
    exact (came_bit v j h1).1 h2
  · rintro ⟨h1, h2, h3⟩
    exact ⟨(v.H - x).toNat, ⟨by omega, h3⟩, by omega⟩

theorem bad_bit (H B : Int) (c : Nat) (hB : B.toNat.testBit c = true) (h1 : B ≤ 4294967295) (h : H - c < 1) : H - (lenOf B - 1) < 1 := by
  have hne : B.toNat ≠ 0 := by intro h0; rw [h0] at hB; simp at hB
  obtain ⟨l1, l2, l3⟩ := Lib.bitLenAux_bounds 64 B.toNat (by omega) hne
  unfold lenOf Lib.bitLen
  have : c < Lib.bitLenAux 64 B.toNat := by
    by_cases hc : c < Lib.bitLenAux 64 B.toNat
    · exact hc
    · have : B.toNat < 2 ^ c := Nat.lt_of_lt_of_le l3 (Nat.pow_le_pow_right (by decide) (by omega))
      rw [Nat.testBit_lt_two_pow this] at hB; cases hB
  omega

theorem good_bits (H B : Int) (h0 : B.toNat.testBit 0 = true) (h1 : B ≤ 4294967295) (h2 : 0 ≤ B) (h : ∀ j, j < 32 → B.toNat.testBit j = true → 1 ≤ H - (j : Int)) : ¬ H - (lenOf B - 1) < 1 := by
  have hne : B.toNat ≠ 0 := by intro hz; rw [hz] at h0; simp at h0
  obtain ⟨l1, l2, l3⟩ := Lib.bitLenAux_bounds 64 B.toNat (by omega) hne
  have hl := (len_bd B h2 h1).2
  unfold lenOf Lib.bitLen at hl ⊢
  have htop : B.toNat.testBit (Lib.bitLenAux 64 B.toNat - 1) = true := by
    rw [Nat.testBit_eq_decide_div_mod_eq, decide_eq_true_eq]
    have hdiv : B.toNat / 2 ^ (Lib.bitLenAux 64 B.toNat - 1) = 1 := by
      apply Nat.div_eq_of_lt_le
      · simpa using l2
      · have : 2 ^ Lib.bitLenAux 64 B.toNat = (1 + 1) * 2 ^ (Lib.bitLenAux 64 B.toNat - 1) := by
          conv => lhs; rw [show Lib.bitLenAux 64 B.toNat = (Lib.bitLenAux 64 B.toNat - 1) + 1 by omega]
          rw [Nat.pow_succ]; omega
        rw [← this]; exact l3
    rw [hdiv]
  have := h _ (by omega) htop
  omega

theorem bit_zero (B : Int) (c : Nat) (h0 : 0 ≤ B) (h1 : B < 4294967296) : (bits BinOp.and IntKind.u32 (B / 2 ^ c) 1 == 0) = !B.toNat.testBit c := by
  have hi := bit_iff B c h0 h1
  obtain ⟨d0, d1⟩ := div_pow_le B c h0 h1
  rw [and_one_u32 _ d0 d1] at hi ⊢
  cases ht : B.toNat.testBit c
  · have : ¬ ((B / 2 ^ c % 2 == 1) = true) := fun hh => by rw [hi.1 hh] at ht; cases ht
    simp only [beq_iff_eq] at this
    simp; omega
  · have := hi.2 ht
    simp only [beq_iff_eq] at this
    simp [this]

theorem rel_add {st : Nat → Win} {Ls : Nat → List Int} (hr : Rel st Ls) (i : Nat) (i1 : 1 ≤ i) (i2 : i < 17) (v : Win) (hf : WinFit v) (hA : v.A = i) (hm : mayB v.A v.H = true) (h0 : v.B.toNat.testBit 0 = true)
    (h : ∀ j, j < 32 → v.B.toNat.testBit j = true → 1 ≤ v.H - (j : Int)) : Rel (setW st i v) (setL Ls i (cameTo v.H v.B 32)) := by
  obtain ⟨m1, m2, m3, m4⟩ := may_bd hm
  obtain ⟨f1, f2, f3, f4, f5, f6⟩ := hf
  have ok : WinOk v := ⟨by omega, by omega, by omega, by omega⟩
  refine ⟨⟨fun j hj => ?_, fun j j1 j2 => ?_⟩, fun j hj x => ?_⟩
  · unfold setW; rw [if_neg (by omega)]; exact hr.inv.out j hj
  · unfold setW
    by_cases e : j = i
    · subst e
      rw [if_pos rfl]
      exact .inr ⟨ok, hA, m3, h0, fun k hk => by have := h k (bit_lt v ok k hk) hk; omega⟩
    · rw [if_neg e]; exact hr.inv.inn j j1 j2
  · unfold setW setL
    by_cases e : j = i
    · rw [if_pos e, if_pos e]; exact cameTo_mem v ok x
    · rw [if_neg e, if_neg e]; exact hr.came j hj x

def ROfPost (ws : List Win) (B : Nat) (e : Ending) (w' : World) : Prop :=
  match ofTo ws ws.length with
  | none => e = .returned (.tuple #[.pointer none, .int .i64 2])
  | some (_, st) => ∃ m cm Ls, e = .returned (.tuple #[.pointer (some ⟨m, 0, none⟩), .int .i64 0]) ∧ RTab w' m B 32 cm st 0 Ls ∧ Rel st Ls
theorem ROfPost.bad {ws : List Win} {B : Nat} {w' : World} (h : ofTo ws ws.length = none) : ROfPost ws B (.returned (.tuple #[.pointer none, .int .i64 2])) w' := by
  unfold ROfPost; rw [h]
theorem ROfPost.good {ws : List Win} {B : Nat} {w' : World} {last : Int} {st : Nat → Win} {m : Nat} {cm : Nat → Value} {Ls : Nat → List Int} (h : ofTo ws ws.length = some (last, st)) (ht : RTab w' m B 32 cm st 0 Ls) (hr : Rel st Ls) :
    ROfPost ws B (.returned (.tuple #[.pointer (some ⟨m, 0, none⟩), .int .i64 0])) w' := by
  unfold ROfPost; rw [h]; exact ⟨m, cm, Ls, rfl, ht, hr⟩

theorem setL_same {α : Type} (f : Nat → α) (i : Nat) (v : α) (h : f i = v) : setL f i v = f := by
  funext j; unfold setL; split <;> simp_all
theorem setL_setL {α : Type} (f : Nat → α) (i : Nat) (v u : α) : setL (setL f i v) i u = setL f i u := by
  funext j; unfold setL; split <;> rfl

theorem blk_new_at {w : World} {cs : Array Value} {l : List Value} {T : TypeId} (hl : cs = l.toArray) : Blk (w.alloc (.cells cs T)) w.heap.size l T := by
  subst hl
  have := Blk.new w l.toArray T
  simpa using this

theorem agk_meet {wo wp w1 : World} {m i : Nat} {cm : Nat → Value} {st' : Nat → Win} {cv : Value} {ys : List Int} {x A' H' B' : Int} {gg cap : Nat} {W1 : World}
    (hown1 : w1.ownsRow (wo.heap.size + 1) 3 1 (.slice (some ⟨gg, 0, none⟩) (ys.length + 1) cap) (ys.length + 1) (ints ys ++ [.int .i64 x]))
    (hgrow : World.grownBy (wp.alloc (.cells #[.int .i64 x] 3)).drew w1 cv.ownBlock) (hown : wp.ownsRow (wo.heap.size + 1) 3 1 cv ys.length (ints ys))
    (hbl : Blk wp m (refCells (setL cm i cv) st' 0) 55) (hBl : Blk wp wo.heap.size [.int .i64 A', .int .i64 H', .int .u32 B'] 67) (hu3 : Upd [m] wo wp) (hm : m < wo.heap.size) (hi : i < 17)
    (hW : w1.setCell ⟨m, i, none⟩ (.slice (some ⟨gg, 0, none⟩) (ys.length + 1) cap) = W1) :
    ∃ gg cap, W1.ownsRow (wo.heap.size + 1) 3 1 (.slice (some ⟨gg, 0, none⟩) (ys.length + 1) cap) (ys.length + 1) (ints ys ++ [.int .i64 x]) ∧
      Blk W1 m (refCells (setL cm i (.slice (some ⟨gg, 0, none⟩) (ys.length + 1) cap)) st' 0) 55 ∧ Blk W1 wo.heap.size [.int .i64 A', .int .i64 H', .int .u32 B'] 67 ∧ Upd [m] wo W1 := by
  subst hW
  have far : ∀ k, k ≤ wo.heap.size → some k ≠ cv.ownBlock := fun k hk e => by have := (hown.lt k e.symm).1; omega
  have l1 := hbl.lt
  have l2 := hBl.lt
  refine ⟨gg, cap, own_upd hown1 (bs := [m]) ((Upd.refl [m] _).setCell (Or.inl (by simp)) _) (by simp; omega), ?_, ?_, ?_⟩
  · rw [← setL_setL cm i cv, ← refCells_list _ _ _ i hi]
    refine Blk.set ((hbl.alloc (.cells #[.int .i64 x] 3)).drew.of_heap (hgrow.block m (by simp; omega) (far m (by omega)))) i _
  · exact ((hBl.alloc (.cells #[.int .i64 x] 3)).drew.of_heap (hgrow.block _ (by simp; omega) (far _ (by omega)))).set_ne _ (by simp; omega) _
  · exact ((hu3.alloc (.cells #[.int .i64 x] 3)).drew.grown hgrow (fun k hk => .inr (by have := (hown.lt k hk).1; omega))).setCell (Or.inl (by simp)) _

set_option maxHeartbeats 8000000 in
set_option maxRecDepth 100000 in
theorem rof_any (p : Option Addr) (cap : Nat) (ws : List Win) (w : World) (hl : WinsAt w w.heap.size p ws) (hlen : ws.length ≤ 9223372036854775807) :
    Calls Try.prog 15 #[.slice p ws.length cap] w fun e w' => ROfPost ws w.heap.size e w' ∧ Upd [] w w' := by
  obtain ⟨i0, hi, hz0, hz1, hz2⟩ := info_parts int_info
  go_enter Try.func15, Try.ntmps15
  go_wp2_with fail
  go_loopw [5, 6] (fun lv kv wr => ∃ (k : Nat) (last : Int) (st : Nat → Win) (cm : Nat → Value) (Ls : Nat → List Int), k ≤ ws.length ∧ kv = .int .i64 k ∧ lv = .int .i64 last ∧ 0 ≤ last ∧ last ≤ 16 ∧ Hid (ofTo ws k = some (last, st)) ∧
      RTab wr w.heap.size w.heap.size 32 cm st 0 Ls ∧ Rel st Ls ∧ (∀ j : Nat, last < j → cm j = .slice none 0 0 ∧ Ls j = []) ∧ Upd [] w wr)
    (fun _ kv _ => ws.length - (intOf kv).toNat)
  case atStart =>
    refine ⟨0, 0, fun _ => Win.zero, fun _ => .slice none 0 0, fun _ => [], by omega, rfl, rfl, by omega, by omega, Lib.hid rfl, ⟨?_, fun i _ => ListAt.nil _ _ _ _, by omega⟩, ⟨StInv.zero, fun i _ x => by simp [Came, Win.zero]⟩, fun j _ => ⟨rfl, rfl⟩, (Upd.refl _ _).alloc _⟩
    exact blk_new_at (by kernel_rfl)
  case round =>
    obtain ⟨k, last, st, cm, Ls, hk, rfl, rfl, hl0, hl1, Hto, hR, hr, hfree, hu⟩ := hrel
    obtain ⟨wo, rfl⟩ : ∃ wo, wo = wr := ⟨_, rfl⟩
    by_cases hlt : k < ws.length
    · obtain ⟨v, hv⟩ : ∃ v, ws[k]? = some v := ⟨_, List.getElem?_eq_getElem hlt⟩
      obtain ⟨hfit, b, off, rfl, hb, c0, c1, c2⟩ := (hl.upd (Nat.le_refl _) hu (by simp)) k v hv
      have Hv := Lib.hid hv; clear hv
      have hwr := hu.size
      have stop : winGood v last = false → ofTo ws ws.length = none := fun hg => ofTo_bad ws (k + 1) (ofTo_stop Hto.out Hv.out hg) _ hlt
      have Stop := Lib.hid stop; clear stop
      obtain ⟨f1, f2, f3, f4, f5, f6⟩ := hfit
      by_cases hm : mayB v.A v.H = true
      · obtain ⟨m1, m2, m3, m4⟩ := may_bd hm
        by_cases hA : v.A ≤ last
        · go_wp2_with (go_at_call 28; refine (rmay_any _ _ _).mono ?_; rw [hm]; rintro e w' ⟨rfl, rfl⟩)
          go_ret2
          exact ⟨ROfPost.bad (Stop.out (by simp [winGood, hA])), hu.alloc _⟩
        · cases hB : bits BinOp.and IntKind.u32 v.B 1 == 0
          · have hodd : v.B.toNat.testBit 0 = true := by
              have := bit_zero v.B 0 f5 (by omega)
              simp only [Int.pow_zero, Int.ediv_one] at this
              rw [hB] at this
              simpa using this.symm
            have Hodd := Lib.hid hodd; clear hodd
            obtain ⟨i, hAi⟩ := Int.eq_ofNat_of_zero_le (show 0 ≤ v.A by omega)
            obtain ⟨hcmi, hLi⟩ := hfree i (by omega)
            obtain ⟨A, H, B⟩ := v
            dsimp only at f1 f2 f3 f4 f5 f6 c0 c1 c2 hm m1 m2 m3 m4 hA hB hAi Hodd
            subst hAi
            have fh := hR.blk.free (17 + i)
            have ch := hR.high (show i < 17 by omega)
            have hml := hR.blk.lt
            have hblk : Blk (wo.setCell ⟨w.heap.size, 17 + i, none⟩ (.int .i64 H)) w.heap.size (refCells cm (setW st i ⟨i, H, B⟩) 0) 55 := by
              rw [← refCells_high cm st 0 i (by omega) ⟨i, H, B⟩]; exact hR.blk.set (17 + i) _
            go_wp2_with (go_at_call 28; refine (rmay_any _ _ _).mono ?_; rw [hm]; rintro e w' ⟨rfl, rfl⟩)
            go_region
            go_wp2_with fail
            obtain ⟨w2, hw2⟩ : ∃ w2, ((wo.setCell ⟨w.heap.size, 17 + i, none⟩ (.int .i64 H)).alloc (.cells #[.int .i64 (i : Int), .int .i64 H, .int .u32 B] 67)).drew = w2 := ⟨_, rfl⟩
            have hb2 : Blk w2 w.heap.size (refCells cm (setW st i ⟨i, H, B⟩) 0) 55 := by rw [← hw2]; exact (hblk.alloc _).drew
            have hB2 : Blk w2 wo.heap.size [.int .i64 (i : Int), .int .i64 H, .int .u32 B] 67 := by
              rw [← hw2]
              have := Blk.new (wo.setCell ⟨w.heap.size, 17 + i, none⟩ (.int .i64 H)) #[.int .i64 (i : Int), .int .i64 H, .int .u32 B] 67
              simpa using this.drew
            have hu2 : Upd [w.heap.size] wo w2 := by rw [← hw2]; exact (((Upd.refl _ _).setCell (Or.inl (by simp)) _).alloc _).drew
            have hs2 : w2.heap.size = wo.heap.size + 1 := by rw [← hw2]; simp
            have hdrew := Lib.hid hw2
            rw [hw2]
            clear hw2 hblk
            go_loopw [8] (fun kv wr => ∃ (c : Nat) (cv : Value) (ys : List Int), c ≤ 32 ∧ kv = .int .i64 c ∧ Hid (cameTo H B c = ys) ∧ ys.length ≤ c ∧ Hid (∀ j, j < c → B.toNat.testBit j = true → 1 ≤ H - (j : Int)) ∧
                wr.ownsRow (wo.heap.size + 1) 3 1 cv ys.length (ints ys) ∧ Blk wr w.heap.size (refCells (setL cm i cv) (setW st i ⟨i, H, B⟩) 0) 55 ∧ Blk wr wo.heap.size [.int .i64 (i : Int), .int .i64 H, .int .u32 B] 67 ∧ Upd [w.heap.size] wo wr)
              (fun kv _ => 32 - (intOf kv).toNat)
            case atStart => exact ⟨0, .slice none 0 0, [], by omega, rfl, Lib.hid rfl, by simp, Lib.hid (fun j hj => by omega), World.ownsRow_nil _ _ _ _, by rw [setL_same cm i _ hcmi]; exact hb2, hB2, hu2⟩
            case round =>
              obtain ⟨c, cv, ys, hc, rfl, hys, hyl, hno, hown, hbl, hBl, hu3⟩ := hrel
              have b0 := hBl.cell 0 rfl
              have b1 := hBl.cell 1 rfl
              have b2 := hBl.cell 2 rfl
              have hs3 := hu3.size
              by_cases hc32 : c < 32
              · have hz := bit_zero B c f5 (by omega)
                have hsn := cameTo_snoc H B c
                rw [hys.out] at hsn
                cases ht : B.toNat.testBit c
                · rw [ht] at hz hsn
                  simp only [Bool.not_false, Bool.false_eq_true, if_false, List.append_nil] at hz hsn
                  have Hsn := Lib.hid hsn; clear hsn
                  have Ht := Lib.hid ht; clear ht
                  go_wp2_with fail
                  refine ⟨⟨c + 1, cv, ys, by omega, by go_num, Hsn, by omega, Lib.hid fun j hj hjt => ?_, hown, hbl, hBl, hu3⟩, by simp [intOf]; omega⟩
                  by_cases e : j = c
                  · subst e; rw [Ht.out] at hjt; cases hjt
                  · exact hno.out j (by omega) hjt
                · rw [ht] at hz hsn
                  simp only [Bool.not_true, if_true] at hz hsn
                  have Hsn := Lib.hid hsn; clear hsn
                  have Ht := Lib.hid ht; clear ht
                  by_cases hbad : H - (c : Int) < 1
                  · go_wp2_with fail
                    go_ret2
                    refine ⟨ROfPost.bad (Stop.out ?_), hu.trans hu3 (by simp)⟩
                    have := bad_bit H B c Ht.out f6 hbad
                    simp [winGood, this]
                  · have cl := hbl.cell i (row_get _ (show i < 35 by omega))
                    rw [if_pos (by omega)] at cl
                    have cl' : wr.cell? ⟨w.heap.size, i, none⟩ = some cv := by rw [cl]; simp [setL]
                    have fl := hbl.free i
                    clear cl
                    obtain ⟨wp, rfl⟩ : ∃ wp, wp = wr := ⟨_, rfl⟩
                    go_upto_region 17 with fail
                    have hW : IntKind.i64.wrap (H - (c : Int)) = H - (c : Int) := by rw [IntKind.wrap_i64]; omega
                    have hfar : ∀ (A : Addr), A.block = wo.heap.size → A.block < (wp.alloc (.cells #[.int .i64 (H - (c : Int))] 3)).drew.heap.size := fun A hA => by simp; omega
                    have cln : (wp.alloc (.cells #[.int .i64 (H - (c : Int))] 3)).drew.cell? ⟨w.heap.size, i, none⟩ = some cv := (World.cell?_of_block (Below.heap_alloc _ _ _ (show w.heap.size < wp.heap.size from hbl.lt))).trans cl'
                    have cln0 : (wp.alloc (.cells #[.int .i64 (H - (c : Int))] 3)).drew.cell? ⟨wo.heap.size, 0, none⟩ = some (.int .i64 i) := (World.cell?_of_block (Below.heap_alloc _ _ _ (show wo.heap.size < wp.heap.size from hBl.lt))).trans b0
                    have hno2 : Hid (∀ j, j < c + 1 → B.toNat.testBit j = true → 1 ≤ H - (j : Int)) := Lib.hid fun j hj hjt => by
                      by_cases e : j = c
                      · subst e; omega
                      · exact hno.out j (by omega) hjt
                    have hI0 : (0 : Int) ≤ (i : Int) := by omega
                    have hI1 : (i : Int) < 17 := by omega
                    go_region_law
                      ((refine step_append_lies _ (by rfl) _ _ _ (by rfl) (wo.heap.size + 1) 3 i0 _ 1 8 Try.underlying22 hi hz0 hz1 hz2 rfl (by omega) cv ys.length (ints ys) (by rfl) ((hown.alloc _).drew)
                            ⟨wp.heap.size, 0, none⟩ 1 1 [.int .i64 (H - (c : Int))] (by rfl) (by rfl) (World.news_of_block (cs := #[.int .i64 (H - (c : Int))]) (t := 3) (fr := (0, 0)) (heap_alloc_new wp _)) (by simp [Value.oneCell'])
                            (by omega) (by simp only [maxLen]; omega) (by omega) (by simp; omega) (wp.heap.size + 1) (by simp) ?_; intro gg cap w1 hown1 hgrow hat hlt1; have fz : w1.frozen? ⟨w.heap.size, i, none⟩ = false := (hgrow.frozen_far _ (by simp; omega) (fun e => absurd (show wo.heap.size + 1 ≤ w.heap.size from (hown.lt _ e.symm).1) (by omega))).trans (((hbl.alloc _).drew).free i); have cz := (hgrow.cell_far ⟨w.heap.size, i, none⟩ (by simp; omega) (fun e => absurd (show wo.heap.size + 1 ≤ w.heap.size from (hown.lt _ e.symm).1) (by omega))).trans cln; have cz0 := (hgrow.cell_far ⟨wo.heap.size, 0, none⟩ (hfar _ rfl) (fun e => absurd (show wo.heap.size + 1 ≤ wo.heap.size from (hown.lt _ e.symm).1) (by omega))).trans cln0))
                    all_goals
                      obtain ⟨gg, cap2, h1, h2, h3, h4⟩ := agk_meet hown1 hgrow hown hbl hBl hu3 (by omega) (by omega) rfl
                      clear hown1 hgrow hat fz cz cz0
                      go_wp2_with fail
                      exact ⟨⟨c + 1, _, ys ++ [H - (c : Int)], by omega, by go_num, Hsn, by simp; omega, hno2, by simpa [ints] using h1, h2, h3, h4⟩, by simp [intOf]; omega⟩
              · obtain rfl : c = 32 := by omega
                have hg : ¬ H - (lenOf B - 1) < 1 := good_bits H B Hodd.out f6 f5 hno.out
                have hgood : winGood ⟨i, H, B⟩ last = true := by simp [winGood, hm, hB, hg]; omega
                go_wp2_with fail
                refine ⟨⟨k + 1, i, setW st i ⟨i, H, B⟩, setL cm i cv, setL Ls i ys, by omega, by go_num, rfl, by omega, by omega, Lib.hid (by simpa using ofTo_go Hto.out Hv.out hgood), ⟨hbl, fun j hj => ?_, by omega⟩, ?_, fun j hj => ?_, hu.trans hu3 (by simp)⟩, by simp [intOf]; omega⟩
                · unfold setL
                  by_cases e : j = i
                  · rw [if_pos e, if_pos e]
                    refine listAt_own hown (by omega) (by omega) hyl fun x hx => ?_
                    rw [← hys.out] at hx
                    unfold cameTo at hx
                    simp only [List.mem_map, List.mem_filter, List.mem_range] at hx
                    obtain ⟨q, ⟨q1, q2⟩, rfl⟩ := hx
                    have := hno.out q q1 q2
                    omega
                  · rw [if_neg e, if_neg e]
                    exact (hR.lists j hj).upd hu3 (by simp)
                · rw [← hys.out]
                  exact rel_add hr i (by omega) (by omega) ⟨i, H, B⟩ ⟨f1, f2, f3, f4, f5, f6⟩ rfl hm Hodd.out hno.out
                · have hji : j ≠ i := by omega
                  unfold setL
                  rw [if_neg hji, if_neg hji]
                  exact hfree j (by omega)
          · go_wp2_with (go_at_call 28; refine (rmay_any _ _ _).mono ?_; rw [hm]; rintro e w' ⟨rfl, rfl⟩)
            go_ret2
            exact ⟨ROfPost.bad (Stop.out (by simp [winGood, hB])), hu.alloc _⟩
      · have hm' : mayB v.A v.H = false := by simpa using hm
        go_wp2_with (go_at_call 28; refine (rmay_any _ _ _).mono ?_; rw [hm']; rintro e w' ⟨rfl, rfl⟩)
        go_ret2
        exact ⟨ROfPost.bad (Stop.out (by simp [winGood, hm'])), hu.alloc _⟩
    · obtain rfl : k = ws.length := by omega
      go_wp2_with fail
      go_ret2
      exact ⟨ROfPost.good Hto.out hR hr, hu⟩

end Go.Proofs.Ytpgilkemcaipiaa
