/- The document's agent: Windows; the law's windows and same. -/
import Derived.Test.YtpgilkemcaipiaaAgH
namespace Go.Proofs.Ytpgilkemcaipiaa
open Go.RowKit

theorem own_upd {w w' : World} {base : Nat} {e : TypeId} {size n : Nat} {v : Value} {xs : List Value} (h : w.ownsRow base e size v n xs) {bs : List Nat} (u : Upd bs w w') (hb : ∀ x ∈ bs, x < base) : w'.ownsRow base e size v n xs := by
  refine ⟨h.1, ?_⟩
  rcases h.2 with hn | ⟨g, cap, cur, rfl, hg, hgg, rest⟩
  · exact .inl hn
  · refine .inr ⟨g, cap, cur, rfl, hg, ?_, rest⟩
    rw [u.block g (Array.getElem?_eq_some_iff.1 hgg).1 (fun hm => by have := hb g hm; omega)]
    exact hgg

def orB (H : Int) (xs : List Int) (b : Int) : Int := xs.foldl (fun b x => bits BinOp.or IntKind.u32 b (shl32 1 (H - x))) b

theorem orB_snoc (H : Int) (xs : List Int) (k : Nat) (x : Int) (h : xs[k]? = some x) : orB H (xs.take (k + 1)) 0 = bits BinOp.or IntKind.u32 (orB H (xs.take k) 0) (shl32 1 (H - x)) := by
  unfold orB
  rw [List.take_add_one, h]
  simp [List.foldl_append]

theorem orB_bits (H : Int) (xs : List Int) (hx : ∀ x ∈ xs, x ≤ H ∧ H - x < 32) (b : Nat) (hb : b < 4294967296) :
    ∃ m : Nat, orB H xs b = m ∧ m < 4294967296 ∧ ∀ j, m.testBit j = true ↔ (b.testBit j = true ∨ ∃ x ∈ xs, (H - x).toNat = j) := by
  induction xs generalizing b with
  | nil => exact ⟨b, rfl, hb, fun j => by simp⟩
  | cons x l ih =>
    obtain ⟨x1, x2⟩ := hx x (by simp)
    obtain ⟨k, hk⟩ := Int.eq_ofNat_of_zero_le (show 0 ≤ H - x by omega)
    have hp : 2 ^ k < 2 ^ 32 := Nat.pow_lt_pow_right (by decide) (by omega)
    have e1 : shl32 1 (H - x) = ((2 ^ k : Nat) : Int) := by
      have := shl32_nat 1 k
      simp only [Int.natCast_one] at this
      rw [hk, this, show min k 32 = k by omega, Nat.one_mul, Nat.mod_eq_of_lt hp]
    have e2 : bits BinOp.or IntKind.u32 (b : Int) (shl32 1 (H - x)) = ((b ||| 2 ^ k : Nat) : Int) := by
      rw [e1]; exact u32_or_nat b _ hb hp
    obtain ⟨m, h1, h2, h3⟩ := ih (fun y hy => hx y (by simp [hy])) (b ||| 2 ^ k) (Nat.or_lt_two_pow (n := 32) hb hp)
    refine ⟨m, ?_, h2, fun j => ?_⟩
    · unfold orB at h1 ⊢
      rw [List.foldl_cons, e2]; exact h1
    · rw [h3 j, Nat.testBit_or, Nat.testBit_two_pow]
      have ek : (H - x).toNat = k := by omega
      simp only [Bool.or_eq_true, decide_eq_true_eq, List.mem_cons, exists_eq_or_imp, ek]
      constructor
      · rintro ((h | h) | h)
        · exact .inl h
        · exact .inr (.inl h)
        · exact .inr (.inr h)
      · rintro (h | h | h)
        · exact .inl (.inl h)
        · exact .inl (.inr h)
        · exact .inr h

theorem rel_bits {st : Nat → Win} {Ls : Nat → List Int} (hr : Rel st Ls) (i : Nat) (hi : i < 17) : orB (st i).H (Ls i) 0 = (st i).B := by
  obtain ⟨o1, o2, o3, o4⟩ := hr.inv.ok i
  obtain ⟨b, hb⟩ := Int.eq_ofNat_of_zero_le o3
  obtain ⟨m, h1, h2, h3⟩ := orB_bits (st i).H (Ls i) (fun x hx => by have := (hr.came i hi x).1 hx; exact ⟨this.1, this.2.1⟩) 0 (by omega)
  have h1' : orB (st i).H (Ls i) 0 = m := h1
  rw [h1', hb]
  congr 1
  apply Nat.eq_of_testBit_eq
  intro j
  rw [Bool.eq_iff_iff, h3 j]
  simp only [Nat.zero_testBit, Bool.false_eq_true, false_or]
  have hbt : (st i).B.toNat = b := by omega
  constructor
  · rintro ⟨x, hx, rfl⟩
    have := ((hr.came i hi x).1 hx).2.2
    rw [hbt] at this; exact this
  · intro hj
    have hj' : (st i).B.toNat.testBit j = true := by rw [hbt]; exact hj
    have h32 := bit_lt (st i) (hr.inv.ok i) j hj'
    have hc := (came_bit (st i) j h32).1 hj'
    exact ⟨_, (hr.came i hi _).2 hc, by omega⟩

theorem rwin_info : (Try.prog.info? 67).map (fun i => (i.zero, i.size, i.bytes)) = some (some (.agg #[.int .i64 0, .int .i64 0, .int .u32 0]), 3, 24) := by kernel_rfl

theorem wins_first (st : Nat → Win) (h : StInv st) : wins st 1 = [] := by
  have := h.out 0 (.inl rfl)
  simp [wins, this, Win.zero]

set_option maxHeartbeats 2000000 in
set_option maxRecDepth 100000 in
theorem rwindows_any {w : World} {m base L : Nat} {cm : Nat → Value} {st : Nat → Win} {n : Int} {Ls : Nat → List Int} (h : RTab w m base L cm st n Ls) (hL : L ≤ 1000) (hr : Rel st Ls) :
    Calls Try.prog 20 #[.pointer (some ⟨m, 0, none⟩)] w fun e w' =>
      ∃ v, e = .returned v ∧ w'.ownsRow w.heap.size 67 3 v (wins st 17).length (winVals (wins st 17)) ∧ Upd [] w w' := by
  obtain ⟨i0, hi, hz0, hz1, hz2⟩ := info_parts rwin_info
  go_enter Try.func20, Try.ntmps20
  go_wp2_with fail
  go_loopw [3, 4] (fun out av wr => ∃ (a : Nat) (ws : List Win), 1 ≤ a ∧ a ≤ 17 ∧ av = .int .i64 a ∧ Hid (wins st a = ws) ∧ ws.length ≤ a ∧ wr.ownsRow w.heap.size 67 3 out ws.length (winVals ws) ∧ Upd [] w wr)
    (fun _ av _ => 17 - (intOf av).toNat)
  case atStart => exact ⟨1, [], by omega, by omega, rfl, Lib.hid (wins_first st hr.inv), by simp, World.ownsRow_nil _ _ _ _, Upd.refl _ _⟩
  case round =>
    obtain ⟨a, ws, a1, a2, rfl, hws, hwl, hown, hu⟩ := hrel
    obtain ⟨wo, rfl⟩ : ∃ wo, wo = wr := ⟨_, rfl⟩
    by_cases hlt : a < 17
    · have hR := h.upd hu (by simp)
      have ch := hR.high hlt
      have cl := hR.list hlt
      have hinv := hr.inv.inn a a1 hlt
      by_cases hH : (st a).H = 0
      · have e1 : wins st (a + 1) = wins st a := by simp [wins, hH]
        rw [hws.out] at e1
        rw [hH] at ch
        clear hinv
        go_wp2_with fail
        exact ⟨⟨a + 1, ws, by omega, by omega, by go_num, Lib.hid e1, by omega, hown, hu⟩, by simp [intOf]; omega⟩
      · have hwi : WinInv a (st a) := hinv.resolve_left (fun e => hH (by rw [e]; rfl))
        have hpos : 0 < (st a).H := by have := hwi.lo; omega
        have e1 : wins st (a + 1) = wins st a ++ [st a] := by simp [wins, hpos]
        rw [hws.out] at e1
        have E1 := Lib.hid e1; clear e1
        have hbits := rel_bits hr a hlt
        obtain ⟨xs, hxs⟩ : ∃ xs, Hid (Ls a = xs) := ⟨_, Lib.hid rfl⟩
        rw [hxs.out] at hbits
        have Hbits := Lib.hid hbits; clear hbits
        obtain ⟨p, cap, hcm, hlen, hx⟩ := hR.lists a hlt
        rw [hxs.out] at hlen hx hcm
        rw [hcm] at cl
        have hcame : ∀ x ∈ xs, x ≤ (st a).H ∧ (st a).H - x < 32 := fun x hx => by
          have := (hr.came a hlt x).1 (by rw [hxs.out]; exact hx)
          exact ⟨this.1, this.2.1⟩
        have hA := hwi.agent
        obtain ⟨v, hv⟩ : ∃ v, st a = v := ⟨_, rfl⟩
        rw [hv] at ch E1 Hbits hcame hpos hH hA hwi
        have hok := hwi.ok
        obtain ⟨o1, o2, _, _⟩ := hok
        obtain ⟨A, H, B⟩ := v
        dsimp only at ch E1 Hbits hcame hpos hH hA o1 o2
        subst hA
        clear hwi hinv hv
        have hH' : (H == 0) = false := by simpa using hH
        go_wp2_with fail
        go_loopw [6] (fun kv wq => ∃ (k : Nat) (b : Int), k ≤ xs.length ∧ kv = .int .i64 k ∧ Hid (orB H (xs.take k) 0 = b) ∧ Blk wq wo.heap.size [.int .i64 a, .int .i64 H, .int .u32 b] 67 ∧ Upd [] wo wq)
          (fun kv _ => xs.length - (intOf kv).toNat)
        case atStart => exact ⟨0, 0, by omega, rfl, Lib.hid rfl, Blk.new wo _ _, (Upd.refl [] wo).alloc _⟩
        case round =>
          obtain ⟨k, b, hk, rfl, hor, hB, hq⟩ := hrel
          have b0 := hB.cell 0 rfl
          have b1 := hB.cell 1 rfl
          have b2 := hB.cell 2 rfl
          have f2 := hB.free 2
          have cl2 := (hR.upd hq (by simp)).list hlt
          rw [hcm] at cl2
          by_cases hkl : k < xs.length
          · obtain ⟨x, hxi⟩ : ∃ x, xs[k]? = some x := ⟨_, List.getElem?_eq_getElem hkl⟩
            obtain ⟨bl, rfl, hbm, _, hc, x1, x2⟩ := hx k x hxi
            have hc' : wr.cell? ⟨bl, k, none⟩ = some (.int .i64 x) := by rw [hq.cell (lt_of_cell hc) (by simp)]; exact hc
            obtain ⟨y1, y2⟩ := hcame x (List.mem_of_getElem? hxi)
            have hsn := orB_snoc H xs k x hxi
            rw [hor.out, shl32_one, show min (H - x).toNat 32 = (H - x).toNat by omega] at hsn
            have Hsn := Lib.hid hsn; clear hsn hxi
            have hs := fun w => run_shl32 Try.prog 1 (H - x) .i64 (by omega) w
            go_wp2_with fail
            go_region
            go_wp2_with fail
            exact ⟨⟨k + 1, _, by omega, by go_num, Hsn, by exact (hB.set 2 (.int .u32 (bits BinOp.or IntKind.u32 b (2 ^ (H - x).toNat % 4294967296)))).drew, (hq.setCell (Or.inr (by simp)) _).drew⟩, by simp [intOf]; omega⟩
          · obtain rfl : k = xs.length := by omega
            have hfin := hor.out
            rw [List.take_length, Hbits.out] at hfin
            subst hfin
            go_wp2_with (at_builtin; refine wpList_append_own _ rfl _ _ 37 rfl w.heap.size 67 i0 _ 3 24 Try.underlying37 hi hz0 hz1 hz2 rfl (by decide) _ _ _ rfl ((own_upd hown hq (by simp)).alloc _) ⟨wr.heap.size, 0, none⟩ 1 1 [.int .i64 a, .int .i64 H, .int .u32 B] rfl rfl ?c1 ?c2 ?c3 ?c4 ?c5 ?_)
            case c1 => intro j u hj; match j, hj with
              | 0, hj => cases hj; exact (Blk.new wr _ _).cell 0 rfl
              | 1, hj => cases hj; exact (Blk.new wr _ _).cell 1 rfl
              | 2, hj => cases hj; exact (Blk.new wr _ _).cell 2 rfl
            case c2 => intro u hu; simp at hu; rcases hu with rfl | rfl | rfl <;> rfl
            case c3 => simp only [maxLen]; omega
            case c4 => omega
            case c5 => have := hu.size; have := hq.size; simp; omega
            intro v' w1 hown1 hgrow1 hnil1
            go_wp2_with fail
            refine ⟨⟨a + 1, ws ++ [⟨a, H, B⟩], by omega, by omega, by go_num, E1, by simp; omega, by rw [winVals_snoc, List.length_append]; exact hown1, ?_⟩, by simp [intOf]; omega⟩
            exact ((hu.trans_nil hq).alloc _).grown_own hgrow1 hown
    · obtain rfl : a = 17 := by omega
      go_wp2_with fail
      go_ret
      exact ⟨_, rfl, (by rw [hws.out]; exact hown), hu⟩

end Go.Proofs.Ytpgilkemcaipiaa
