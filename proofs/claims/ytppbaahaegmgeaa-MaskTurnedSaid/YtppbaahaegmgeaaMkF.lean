/- mask.stream: the iterator. -/
import Derived.RangeFuncNested
import Derived.RangeFuncBound
import Derived.RangeFuncCalls
import Derived.RangeFuncLeaves
import Derived.Shelf.Abstract
import Derived.WalkKit
import Derived.OwnWalkIn
import Derived.TacticsInMore
import Derived.LoopNIn
import Derived.LoopIn
import Derived.Test.YtppbaahaegmgeaaMkE
import Derived.Test.YtppbaahaegmgeaaKnG
namespace Go.Proofs.Ytppbaahaegmgeaa
open Go.RowKit Go.Shelf
attribute [local go_sem] Oper.semAt_some

/-- The stream of a key and a nonce's bytes. -/
def stF (G : Nat → Int) (X : List Int) (j : Nat) : Int := mac (keyL G) (4 :: (X ++ rowU (j / 32))) (j % 32)
def stL (G : Nat → Int) (X : List Int) (n : Nat) : List Int := (List.range n).map (stF G X)
theorem stL_len (G : Nat → Int) (X : List Int) (n : Nat) : (stL G X n).length = n := by simp [stL]
theorem stL_step (G : Nat → Int) (X : List Int) (n : Nat) : stL G X (n + 1) = stL G X n ++ [stF G X n] := by simp [stL, List.range_succ]
theorem stF_at (G : Nat → Int) (X : List Int) (i j : Nat) (hj : j < 32) : stF G X (32 * i + j) = mac (keyL G) (4 :: (X ++ rowU i)) j := by
  unfold stF
  rw [show (32 * i + j) / 32 = i by omega, show (32 * i + j) % 32 = j by omega]

/-- Whatever lies below nn lies as it lay, but for bs. -/
structure KpB (nn : Nat) (bs : List Nat) (A B : World) : Prop where
  os : B.os = A.os
  tape : B.tape = A.tape
  output : B.output = A.output
  size : A.heap.size ≤ B.heap.size
  block : ∀ k, k < nn → k ∉ bs → B.heap[k]? = A.heap[k]?
theorem KpB.refl (nn : Nat) (bs : List Nat) (w : World) : KpB nn bs w w := ⟨rfl, rfl, rfl, Nat.le_refl _, fun _ _ _ => rfl⟩
theorem KpB.trans {nn : Nat} {bs : List Nat} {A B C : World} (h : KpB nn bs A B) (k : KpB nn bs B C) : KpB nn bs A C :=
  ⟨k.os.trans h.os, k.tape.trans h.tape, k.output.trans h.output, Nat.le_trans h.size k.size, fun i hi hn => (k.block i hi hn).trans (h.block i hi hn)⟩
theorem Upd.kpb {nn : Nat} {bs cs : List Nat} {A B : World} (h : Upd cs A B) (hn : nn ≤ A.heap.size) (hc : ∀ x ∈ cs, x ∈ bs) : KpB nn bs A B :=
  ⟨h.os, h.tape, h.output, h.size, fun k hk hnb => h.block k (Nat.lt_of_lt_of_le hk hn) (fun hm => hnb (hc k hm))⟩
theorem KpB.putObj {nn : Nat} {bs : List Nat} (W : World) (l : Nat) (o' : Obj) (hl : nn ≤ l) : KpB nn bs W (W.putObj l o') := by
  have hg := grownBy_putObj' W l o'
  refine ⟨hg.os, hg.tape, hg.output, hg.size, fun k hk _ => ?_⟩
  by_cases h : k < W.heap.size
  · exact hg.block k h (fun e => by cases e; omega)
  · have h1 : W.heap[k]? = none := Array.getElem?_eq_none (by omega)
    have h2 : (W.putObj l o').heap.size = W.heap.size := by simp [World.putObj]
    rw [h1, Array.getElem?_eq_none (by rw [h2]; omega)]

theorem blk_kpb {nn : Nat} {bs : List Nat} {w w' : World} {b : Nat} {cs : List Value} {T : TypeId} (h : Blk w b cs T) (hb : KpB nn bs w w') (hn : b < nn ∧ b ∉ bs) : Blk w' b cs T := h.of_heap (hb.block b hn.1 hn.2)
theorem byAt_kpb {nn : Nat} {bs : List Nat} {w w' : World} {p : Option Addr} {xs : List Int} (h : ByAt w p xs) (hb : KpB nn bs w w') (hn : ∀ b o, p = some ⟨b, o, none⟩ → b < nn ∧ b ∉ bs) : ByAt w' p xs :=
  fun i x hx => by
    obtain ⟨b, o, rfl, hl, hc⟩ := h i x hx
    have := hn b o rfl
    exact ⟨b, o, rfl, Nat.lt_of_lt_of_le hl hb.size, (World.cell?_of_block (hb.block b this.1 this.2)).trans hc⟩
theorem wpListIn_load_row {F : Fence} {n : Nat} {P : Program} {w : World} {ops : Array Oper} {rest : List Oper} {o : Oper} {a : Act} {Q : Exit → Act → World → Prop} (hgd : o.guard = none) (ty : TypeId) (x : Operand) (ho : o.op = .load ty x)
    (g : Nat) (hx : a.eval x = .pointer (some ⟨g, 0, none⟩)) (t : TypeId) (cs : Array Value) (fr : Nat × Nat) (d : TypeDesc) (hg : w.heap[g]? = some (.cells cs t fr))
    (hu : P.underlying ty = some d) (hd : (match d with | .struct _ | .array _ _ => true | _ => false) = true) (hi : (P.info? ty).map (·.size) = some cs.size)
    (h : wpListIn F n P ops Q rest (a.put o.dst (.agg cs)) w) : wpListIn F n P ops Q (o :: rest) a w := by
  refine wpListIn_plain hgd fun K hK => ?_
  unfold Oper.wpIn
  refine ⟨?_, ?_⟩
  · simp [Oper.about, ho]
  · rw [Oper.semAt_plain F _ _ (by rw [ho]; intro c hc'; cases hc')]
    simp only [execOp, ho, hx, Instr.loadAt, Instr.sureAddr, Sem.run_bind, Sem.run_pure, Result.andThen_ok, run_loadVar_row w g t ty cs fr d hg hu hd hi]
    exact hK _ _ h

theorem index_row (w : World) (F : Nat → Int) (j : Nat) (hj : j < 32) : (Instr.index 22 (.agg (row32 F).toArray) (.int .i64 (j : Int))).run Try.prog w = .ok (.int .u8 (F j)) w := by
  obtain ⟨i0, hi, hz0, hz1, hz2⟩ := info_parts info_u8
  have hu : (underlying 22).run Try.prog w = .ok (.array 32 5) w := run_underlying Try.underlying22 w
  have hp := part_u8 w F j hj
  have h1 : (0 : Int) ≤ (j : Int) ∧ (j : Int) < 32 := by omega
  simp [Instr.index, asIntOf, hu, sizeOf, typeInfo, hi, hz1, h1, hp, hj]

set_option maxRecDepth 100000 in
set_option maxHeartbeats 4000000 in
theorem str1_in (n : Nat) (hn : 2 ≤ n) (l kb nb nn : Nat) (bs : List Nat) (G : Nat → Int) (hG : RngF G) (px : Option Addr) (X : List Int) (cx : Nat) (hXr : Rng X) (hXl : X.length ≤ 1000) (hXc : X.length ≤ cx) (J Jx : List Int → World → Prop)
    (hJ : ∀ s A B, J s A → A.grownBy B none → J s B)
    (hY : ∀ pre x W, J pre W → pre.length < 288230376151711744 → YieldAt Fence.wide (n - 1) Try.prog l #[.int .u8 x] W fun e W' => (e = .returned (.bool true) ∧ J (pre ++ [x]) W' ∧ KpB nn bs W W') ∨ (e = .returned (.bool false) ∧ Jx (pre ++ [x]) W'))
    (W : World) (hn0 : nn ≤ W.heap.size) (hk : Blk W kb (row32 G) 23) (hkn : kb < nn ∧ kb ∉ bs) (hnb : Blk W nb [.slice px X.length cx] 26) (hnn : nb < nn ∧ nb ∉ bs) (hX : ByAt W px X) (hXn : ∀ b o, px = some ⟨b, o, none⟩ → b < nn ∧ b ∉ bs) (h0 : J [] W) :
    CallsIn Fence.wide n Try.prog 56 #[.func (.yield l) #[] #[], .pointer (some ⟨kb, 0, none⟩), .pointer (some ⟨nb, 0, none⟩)] W fun e W' => (∃ v, e = .returned v) ∧
      ((∃ ys : List Int, ys.length = 288230376151711744 ∧ J ys W') ∨ (∃ pre, pre = stL G X pre.length ∧ Jx pre W')) := by
  refine callsIn_of_wp Try.func56 rfl trivial ?_ rfl
  simp only [Try.ntmps56, List.size_toArray, List.length_cons, List.length_nil, Nat.reduceAdd, Nat.reduceSub, Array.replicate_succ, Array.replicate_zero, List.push_toArray, List.append_toArray, List.nil_append, List.cons_append]
  gi_wp2
  gi_loopw [4] (fun iv wr => ∃ (i : Nat), iv = .int .i64 (i : Int) ∧ i ≤ 9007199254740992 ∧ J (stL G X (32 * i)) wr ∧ KpB nn bs W wr) (fun iv _ => 9007199254740992 - (intOf iv).toNat)
  case atStart => exact ⟨0, rfl, by omega, h0, KpB.refl _ _ _⟩
  case round =>
    obtain ⟨i, rfl, hi, hJs, hB⟩ := hrel
    have hkr := blk_kpb hk hB hkn
    have hnr := blk_kpb hnb hB hnn
    have hXw := byAt_kpb hX hB hXn
    have h1n : 1 ≤ n := by omega
    have hn0r : nn ≤ wr.heap.size := Nat.le_trans hn0 hB.size
    rcases Nat.lt_or_ge i 9007199254740992 with hlt | hge
    · have hU := u_ok i hlt wr
      obtain ⟨k, hk8⟩ : ∃ k, szU i = k := ⟨_, rfl⟩
      have hk8' := (szU_bd i hlt).2
      rw [hk8] at hU hk8'
      have hkl : (rowU i).length = k := by rw [rowU_len, hk8]
      obtain ⟨F, hF⟩ : ∃ F, mac (keyL G) (4 :: (X ++ rowU i)) = F := ⟨_, rfl⟩
      have HF := Lib.hid hF
      have hof : ∀ (w1 : World) (g : Nat), Upd [] wr w1 → Blk w1 g (u8s (rowU i)) 5 → Calls Try.prog 34 #[.agg (row32 G).toArray, .int .u8 4, .slice (some ⟨w1.heap.size, 0, none⟩) 2 2] (w1.alloc (.cells #[.slice px X.length cx, .slice (some ⟨g, 0, none⟩) k k] 26)) fun e w' => e = .returned (.agg (row32 F).toArray) ∧ Upd [] w1 w' := fun w1 g u hb => by
        have uB := (Upd.refl [] w1).alloc (.cells #[.slice px X.length cx, .slice (some ⟨g, 0, none⟩) k k] 26)
        have hrb : ByAt w1 (some ⟨g, 0, none⟩) (rowU i) := ByAt.of_blk hb (fun j x hx => by
          unfold u8s
          rw [Nat.zero_add, List.getElem?_map, hx]; rfl)
        have hrow := row2 (Blk.new w1 #[.slice px X.length cx, .slice (some ⟨g, 0, none⟩) k k] 26) rfl hkl.symm ((hXw.upd_nil u).upd_nil uB) hXr hXc (hrb.upd_nil uB) (rowU_rng i) (by omega)
        have := of_mac _ G hG 4 (by omega) (some ⟨w1.heap.size, 0, none⟩) [X, rowU i] 2 hrow (by simp) (by simp) (by simp; omega)
        rw [show [X, rowU i].flatten = X ++ rowU i by simp, HF.out] at this
        simp only [List.length_cons, List.length_nil, Nat.zero_add, Nat.reduceAdd] at this
        exact this.mono fun e w' ⟨h1, h2⟩ => ⟨h1, uB.trans_nil h2⟩
      have hpart := fun (w : World) (j : Nat) (hj : j < 32) => index_row w F j hj
      have hst : ∀ j, j < 32 → stF G X (32 * i + j) = F j := fun j hj => by rw [stF_at G X i j hj, HF.out]
      have i1 : (0 : Int) ≤ i := by omega
      have i2 : (i : Int) < 9007199254740992 := by omega
      clear hF hk8 hkl
      gi_wp2_with (first
        | (refine ⟨trivial, ?_⟩; gi_at_call 34; refine (callsIn_wide.2 (hof w1 g u1 hbg)).mono ?_; rintro e w2 ⟨rfl, u2⟩; have v2 := u1.trans_nil u2)
        | (refine wpListIn_load_row rfl _ _ rfl kb rfl _ (row32 G).toArray _ _ hk1 Try.underlying23 rfl (infoK G) ?_)
        | (refine ⟨trivial, ?_⟩; gi_at_call 19; refine (callsIn_wide.2 hU).mono ?_; rintro e w1 ⟨g, rfl, hg, hbg, u1⟩; have hk1 := hkr.upd_nil u1; have hn1 := (hnr.upd_nil u1).cell 0 rfl))
      have hJ2 := hJ _ _ _ hJs (⟨v2.os, v2.tape, v2.output, v2.size, fun k hk _ => v2.block k hk (by simp)⟩ : World.grownBy wr w2 none)
      have hB2 := hB.trans (v2.kpb hn0r (by simp))
      clear hJs hB hof hU u1 u2 v2 hk1 hn1 hbg hkr hnr hXw
      gi_loopw [23] (fun jv wr => ∃ (j : Nat), jv = .int .i64 (j : Int) ∧ j ≤ 32 ∧ J (stL G X (32 * i + j)) wr ∧ KpB nn bs W wr) (fun jv _ => 32 - (intOf jv).toNat)
      case atStart => exact ⟨0, rfl, by omega, hJ2, hB2⟩
      case round =>
        clear hJ2 hB2
        obtain ⟨j, rfl, hj, hJs, hB⟩ := hrel
        obtain ⟨wq, rfl⟩ : ∃ wq, wq = wr := ⟨_, rfl⟩
        rcases Nat.lt_or_ge j 32 with hlt2 | hge2
        · have hs := stL_step G X (32 * i + j)
          rw [hst j hlt2] at hs
          obtain ⟨fn, tmps, assign, body, hy, hR⟩ := hY (stL G X (32 * i + j)) (F j) wq hJs (by rw [stL_len]; omega)
          rw [← hs] at hR
          have hp := fun w => hpart w j hlt2
          have j1 : (0 : Int) ≤ j := by omega
          have j2 : (j : Int) < 32 := by omega
          clear hs hpart
          gi_wp2
          refine hR.mono ?_
          rintro e W3 (⟨rfl, hJ3, hk3⟩ | ⟨rfl, hJx3⟩)
          · gi_wp2
            go_roundw
            case rel => exact ⟨j + 1, by go_num, by omega, hJ3, hB.trans hk3⟩
            case measure => simp [intOf]; omega
          · gi_wp2
            refine bodyPost_ret (results_none rfl _ _ _) rfl ?_
            exact ⟨⟨_, rfl⟩, .inr ⟨_, by rw [stL_len], hJx3⟩⟩
        · obtain rfl : j = 32 := by omega
          gi_wp2
          go_roundw
          case rel => exact ⟨i + 1, by go_num, by omega, by rw [show 32 * (i + 1) = 32 * i + 32 by omega]; exact hJs, hB⟩
          case measure => simp [intOf]; omega
    · obtain rfl : i = 9007199254740992 := by omega
      have hU := u_no ((9007199254740992 : Nat) : Int) (by omega) wr
      gi_wp2_with (refine ⟨trivial, ?_⟩; gi_at_call 19; refine (callsIn_wide.2 hU).mono ?_; rintro e w1 ⟨rfl, rfl⟩)
      refine bodyPost_ret (results_none rfl _ _ _) rfl ?_
      exact ⟨⟨_, rfl⟩, .inl ⟨_, by rw [stL_len], hJs⟩⟩

theorem str_stops (n : Nat) (hn : 2 ≤ n) (kb nb nn : Nat) (bs : List Nat) (G : Nat → Int) (hG : RngF G) (px : Option Addr) (X : List Int) (cx : Nat) (hXr : Rng X) (hXl : X.length ≤ 1000) (hXc : X.length ≤ cx)
    (w : World) (hn0 : nn ≤ w.heap.size) (hk : Blk w kb (row32 G) 23) (hkn : kb < nn ∧ kb ∉ bs) (hnb : Blk w nb [.slice px X.length cx] 26) (hnn : nb < nn ∧ nb ∉ bs) (hX : ByAt w px X) (hXn : ∀ b o, px = some ⟨b, o, none⟩ → b < nn ∧ b ∉ bs) :
    SeqStopsK Fence.wide n Try.prog 56 #[.pointer (some ⟨kb, 0, none⟩), .pointer (some ⟨nb, 0, none⟩)] (fun x : Int => #[.int .u8 x]) (KpB nn bs) (fun ys => ys.length = 288230376151711744) (fun pre => pre = stL G X pre.length) 288230376151711744 w := fun l J Jx W hW hJ _ hY h0 => by
  have hk' : Blk W kb (row32 G) 23 := hk.of_heap (hW.block kb hk.lt)
  have hnb' : Blk W nb [.slice px X.length cx] 26 := hnb.of_heap (hW.block nb hnb.lt)
  have hX' : ByAt W px X := fun i x hx => by
    obtain ⟨b, o, rfl, hl, hc⟩ := hX i x hx
    exact ⟨b, o, rfl, Nat.lt_of_lt_of_le hl hW.size, (World.cell?_of_block (hW.block b hl)).trans hc⟩
  exact str1_in n hn l kb nb nn bs G hG px X cx hXr hXl hXc J Jx (fun s A B hs hg => hJ s A B none hs hg (fun r e => by cases e)) hY W (Nat.le_trans hn0 hW.size) hk' hkn hnb' hnn hX' hXn h0

theorem stream_walk (w : World) (G : Nat → Int) (px : Option Addr) (m cx : Nat) :
    Calls Try.prog 48 #[.agg (row32 G).toArray, .slice px m cx] w fun e w' => e = .returned (.func (.func 56) #[] #[.pointer (some ⟨w.heap.size, 0, none⟩), .pointer (some ⟨w.heap.size + 1, 0, none⟩)]) ∧ Blk w' w.heap.size (row32 G) 23 ∧ Blk w' (w.heap.size + 1) [.slice px m cx] 26 ∧ Upd [] w w' := by
  have hD : Blk (w.alloc (.cells (row32 G).toArray 23)) w.heap.size (row32 G) 23 := Blk.new w (row32 G).toArray 23
  have hE := Blk.new (w.alloc (.cells (row32 G).toArray 23)) #[.slice px m cx] 26
  rw [World.size_alloc] at hE
  have u := ((Upd.refl [] w).alloc (.cells (row32 G).toArray 23)).alloc (.cells #[.slice px m cx] 26)
  have hD2 := hD.alloc (.cells #[.slice px m cx] 26)
  go_enter Try.func48, Try.ntmps48
  go_wp2_with fail
  go_ret
  exact ⟨rfl, hD2, hE, u⟩

end Go.Proofs.Ytppbaahaegmgeaa
